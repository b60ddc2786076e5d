/- The walks of takes: does a sign take a byte? -/
import Derived.BigQuiet
import Derived.Deep.QuietTactic
import Derived.Outline
import Derived.Test.YtiigjnccoeadlaaPAx0
import Derived.Test.YtiigjnccoeadlaaXGlobBase
namespace Go.Proofs.Ytiigjnccoeadlaa.PA
open Go.RowKit Go.Proofs.YtiigjnccoeadlaaW.PrintWords Go.Proofs.YtiigjnccoeadlaaW.PrintLast Go.Proofs.YtiigjnccoeadlaaW.PrintMore
attribute [local go_sem] max2_int min2_int max_two min_two max_three min_three max_four min_four
set_option linter.unusedVariables false
set_option linter.unusedSimpArgs false
def tkB : Tok → Int → Bool
  | .lit d, c => c == d
  | .star2, _ => true
  | .star, c => c != 47
  | .one, c => c != 47
  | .cls n s, c => c != 47 && s c.toNat != n
/-- A sign's cells lie at a place. -/
def SgHas (w : World) (g o : Nat) (x : Sg) : Prop := ∀ i u, (sgL x)[i]? = some u → w.cell? ⟨g, o + i, none⟩ = some u
set_option maxHeartbeats 4000000 in
set_option maxRecDepth 100000 in
theorem takes_call (t : Tok) (g o : Nat) (c : Nat) (hb : c < 256) (w : World) (hc : SgHas w g o (codeSg t)) :
    Calls Try.prog 24 #[.pointer (some ⟨g, o, none⟩), .int .u8 c] w fun e w' => e = .returned (.bool (tkB t c)) ∧ Drawn0 w w' := by
  unfold SgHas at hc
  cases t with
  | lit d =>
    have h0 := hc 0 (.int .i64 0) rfl
    have h1 := hc 1 (.int .u8 d) rfl
    clear hc
    rw [Nat.add_zero] at h0
    go_enter Try.func24, Try.ntmps24
    go_wp2
    go_ret
    exact ⟨rfl, 0, rfl⟩
  | star2 =>
    have h0 := hc 0 (.int .i64 1) rfl
    clear hc
    rw [Nat.add_zero] at h0
    go_enter Try.func24, Try.ntmps24
    go_wp2
    go_ret
    exact ⟨rfl, 0, rfl⟩
  | star =>
    have h0 := hc 0 (.int .i64 2) rfl
    clear hc
    rw [Nat.add_zero] at h0
    go_enter Try.func24, Try.ntmps24
    go_wp2
    go_ret
    exact ⟨rfl, 0, rfl⟩
  | one =>
    have h0 := hc 0 (.int .i64 3) rfl
    clear hc
    rw [Nat.add_zero] at h0
    go_enter Try.func24, Try.ntmps24
    go_wp2
    go_ret
    exact ⟨rfl, 0, rfl⟩
  | cls nt s =>
    have h0 := hc 0 (.int .i64 4) rfl
    have h2 := hc 2 (.bool nt) rfl
    have h3 := hc (3 + c) (.bool (s c)) (sgL_get _ c hb)
    rw [← Nat.add_assoc] at h3
    clear hc
    rw [Nat.add_zero] at h0
    have e3 : ((c : Int) < 256) = True := eq_true (by omega)
    by_cases h47 : c = 47
    · subst h47
      go_enter Try.func24, Try.ntmps24
      go_wp2
      go_quiet (fail)
      go_wp2
      go_ret
      exact ⟨rfl, _, rfl⟩
    · have q1 : ((c : Int) != 47) = true := bne_iff_ne.2 (by omega)
      go_enter Try.func24, Try.ntmps24
      go_wp2
      go_quiet (fail)
      go_wp2
      go_ret
      exact ⟨by simp only [tkB, q1, Bool.true_and, Int.toNat_natCast]; rfl, _, rfl⟩
set_option maxHeartbeats 4000000 in
set_option maxRecDepth 100000 in
theorem rtakes_call (t : Tok) (c : Nat) (hb : c < 256) (w : World) :
    Calls Try.prog 25 #[.agg (sgA (refSg t)), .int .u8 c] w fun e w' => e = .returned (.bool (tkB t c)) ∧ Below w.heap.size w w' := by
  cases t with
  | lit d =>
    have HB := Aside0.mk (below_alloc (Below.refl w.heap.size w) (.cells (sgA (refSg (.lit d))) 34))
    have kb := Aside0.mk (blk_new w (.cells (sgA (refSg (.lit d))) 34))
    have h0 := blk_cell kb.out 0
    change _ = some (Value.int .i64 0) at h0
    have h1 := blk_cell kb.out 1
    change _ = some (Value.int .u8 d) at h1
    have hcm : (d == (c : Int)) = ((c : Int) == d) := by rw [Bool.eq_iff_iff, beq_iff_eq, beq_iff_eq]; exact eq_comm
    go_enter Try.func25, Try.ntmps25
    go_wp2
    go_ret
    exact ⟨by simp only [tkB, ← hcm]; rfl, HB.out⟩
  | star2 =>
    have HB := Aside0.mk (below_alloc (Below.refl w.heap.size w) (.cells (sgA (refSg .star2)) 34))
    have kb := Aside0.mk (blk_new w (.cells (sgA (refSg .star2)) 34))
    have h0 := blk_cell kb.out 0
    change _ = some (Value.int .i64 3) at h0
    go_enter Try.func25, Try.ntmps25
    go_wp2
    go_ret
    exact ⟨rfl, HB.out⟩
  | star =>
    have HB := Aside0.mk (below_alloc (Below.refl w.heap.size w) (.cells (sgA (refSg .star)) 34))
    have kb := Aside0.mk (blk_new w (.cells (sgA (refSg .star)) 34))
    have h0 := blk_cell kb.out 0
    change _ = some (Value.int .i64 2) at h0
    go_enter Try.func25, Try.ntmps25
    go_wp2
    go_ret
    exact ⟨rfl, HB.out⟩
  | one =>
    have HB := Aside0.mk (below_alloc (Below.refl w.heap.size w) (.cells (sgA (refSg .one)) 34))
    have kb := Aside0.mk (blk_new w (.cells (sgA (refSg .one)) 34))
    have h0 := blk_cell kb.out 0
    change _ = some (Value.int .i64 1) at h0
    go_enter Try.func25, Try.ntmps25
    go_wp2
    go_ret
    exact ⟨rfl, HB.out⟩
  | cls nt s =>
    have HB := Aside0.mk (below_alloc (Below.refl w.heap.size w) (.cells (sgA (refSg (.cls nt s))) 34))
    have kb := Aside0.mk (blk_new w (.cells (sgA (refSg (.cls nt s))) 34))
    have h0 := blk_cell kb.out 0
    change _ = some (Value.int .i64 4) at h0
    have h2 := blk_cell kb.out 2
    change _ = some (Value.bool nt) at h2
    have h3 := (blk_cell kb.out (3 + c)).trans (sgA_get _ c hb)
    have e3 : ((c : Int) < 256) = True := eq_true (by omega)
    by_cases h47 : c = 47
    · subst h47
      go_enter Try.func25, Try.ntmps25
      go_wp2
      go_quiet (fail)
      go_wp2
      go_ret
      exact ⟨rfl, by first | exact below_drew1 HB.out | exact pw_below_drewN HB.out _⟩
    · have q1 : ((c : Int) != 47) = true := bne_iff_ne.2 (by omega)
      go_enter Try.func25, Try.ntmps25
      go_wp2
      go_quiet (fail)
      go_wp2
      go_ret
      exact ⟨by simp only [tkB, q1, Bool.true_and, Int.toNat_natCast]; rfl, by first | exact below_drew1 HB.out | exact pw_below_drewN HB.out _⟩
end Go.Proofs.Ytiigjnccoeadlaa.PA
