/- remoraref14.Plain by its contract. -/
import Derived.Test.YtiigjnccoeadlaaPAx0
import Derived.Test.YtiigjnccoeadlaaXEmptyW
import Derived.Test.YtiigjnccoeadlaaXGlobBase
import Derived.Test.YtiigjnccoeadlaaXHeadBase
import Derived.Test.YtiigjnccoeadlaaXRMatchW
import Derived.Test.YtiigjnccoeadlaaXSignsRW
import Derived.Test.YtiigjnccoeadlaaXglobCheck
import Derived.Test.YtiigjnccoeadlaaXremoraref14Check
import Derived.Test.YtiigjnccoeadlaaXremoraref14Head
namespace Go.Proofs.Ytiigjnccoeadlaa.PA
open Go.RowKit Go.Proofs.YtiigjnccoeadlaaW.PrintWords Go.Proofs.YtiigjnccoeadlaaW.PrintLast Go.Proofs.YtiigjnccoeadlaaW.PrintMore
attribute [local go_sem] max2_int min2_int max_two min_two max_three min_three max_four min_four
set_option linter.unusedVariables false
set_option linter.unusedSimpArgs false
def plS : Option (List Tok) → ByteArray × Bool
  | none => (⟨#[]⟩, false)
  | some l => if litAll l = true then (strOfNums (hdL l), true) else (⟨#[]⟩, false)
def remoraref14_Plain.f (a0 : ByteArray) : Option (ByteArray × Bool) := if a0.size < 1000000 then some (plS (patO a0)) else none
set_option maxHeartbeats 4000000 in
set_option maxRecDepth 100000 in
theorem plain_walk (a0 : ByteArray) (hs : a0.size < 1000000) (w : World) : Calls Try.prog 18 #[.string a0] w fun e w' => e = .returned (.tuple #[.string (plS (patO a0)).1, .bool (plS (patO a0)).2]) ∧ Below w.heap.size w w' := by
  have hck : ∀ w, Calls Try.prog 12 #[.string a0] w fun e w' => e = .returned (.int .i64 (chkO a0)) ∧ Below w.heap.size w w' := fun w => remoraref14_Check.calls a0 _ w (by rw [remoraref14_Check.f, if_pos hs])
  have hsc := rsigns_call a0 hs
  cases hp : patO a0 with
  | none =>
    have q1 := chk_none hp
    clear hp hsc
    generalize chkO a0 = cc at *
    go_enter Try.func18, Try.ntmps18
    go_wp2_with (go_at_call 12; (with_reducible refine (hck _).mono ?_); rintro e w1 ⟨rfl, hb⟩)
    go_ret2
    exact ⟨rfl, hb⟩
  | some l =>
    have hl := patO_len hp
    obtain ⟨hz, hq⟩ := chk_some hp
    have hhd : ∀ w, Calls Try.prog 20 #[.string a0] w fun e w' => e = .returned (.string (strOfNums (hdL l))) ∧ Below w.heap.size w w' := fun w => remoraref14_Head.calls a0 _ w (by rw [remoraref14_Head.f, if_pos hs, hp]; rfl)
    rw [hz] at hck
    rw [hq] at hsc
    clear hp hz hq
    go_enter Try.func18, Try.ntmps18
    go_wp2_with (first | (go_at_call 12; (with_reducible refine (hck _).mono ?_); rintro e w0 ⟨rfl, hb0⟩) | (go_at_call 15; (with_reducible refine (hsc _).mono ?_); rintro e w1 ⟨hb1, v, rfl, hR0⟩; have hR := SgRow.from_ hR0 hb0; clear hR0; obtain ⟨A, cp, rfl, hS⟩ := SgVal.of_map hR; have HD := Aside0.mk (HRow.start (U := 5) hR hS); clear hR hS hb1 hb0))
    go_loop [6] (fun v6 => ∃ (k : Nat) (out : List Int), v6 = .int .i64 k ∧ Aside0 (HInv l k out)) (fun v6 => l.length - (intOf v6).toNat)
    case atStart => exact ⟨0, [], rfl, ⟨HInv.start l⟩⟩
    case round =>
      obtain ⟨k, out, rfl, HC⟩ := hrel
      by_cases hk : k < l.length
      · have e0 : ((k : Int) < (l.length : Int)) = True := eq_true (by omega)
        obtain ⟨t, ht⟩ : ∃ t, l[k]? = some t := ⟨_, List.getElem?_eq_getElem hk⟩
        obtain ⟨g, hg, hc0, hc1⟩ := HD.out.cell ht
        subst hg
        by_cases hlit : ∃ c, t = .lit c
        · obtain ⟨c, rfl⟩ := hlit
          change _ = some (Value.int .i64 0) at hc0
          have HC2 := Aside0.mk (HC.out.next ht)
          clear ht
          go_wp2
          go_round
          case rel => exact ⟨k + 1, out ++ [c], by go_num, HC2⟩
          case measure => simp [intOf]; omega
        · have hn : ∀ c, t ≠ .lit c := fun c e => hlit ⟨c, e⟩
          have q0 := (code_lit hn).2
          have q1 : ((refSg t).k != 0) = true := by rw [bne, q0]; rfl
          have HR := Aside0.mk (HC.out.stop ht hn).2
          clear hn hlit ht q0
          generalize (refSg t).k = kk at *
          go_wp2
          go_ret2
          exact ⟨by rw [plS, HR.out]; rfl, HD.out.below⟩
      · have hr1 : litAll l = true := by
          have hkl : k = l.length := by have := HC.out.1; omega
          rw [hkl] at HC
          exact HC.out.done.2
        have HR := Aside0.mk hr1
        clear hr1
        have e0 : ((k : Int) < (l.length : Int)) = False := eq_false (by omega)
        go_wp2_with (go_at_call 20; (with_reducible refine (hhd _).mono ?_); rintro e w5 ⟨rfl, hb⟩; have HB := Aside0.mk (below_step HD.out.below hb); clear hb HD)
        go_ret2
        exact ⟨by rw [plS, HR.out]; rfl, HB.out⟩
theorem remoraref14_Plain.calls (a0 : ByteArray) (r1 : ByteArray) (r2 : Bool) (w : World) (h : remoraref14_Plain.f a0 = some (r1, r2)) : Calls Try.prog 18 #[.string a0] w fun e w' => e = .returned (.tuple #[.string r1, .bool r2]) ∧ Below w.heap.size w w' := by
  unfold remoraref14_Plain.f at h
  split at h
  · rename_i hs
    have h := Option.some.inj h
    have := plain_walk a0 hs w
    rw [h] at this
    exact this
  · cases h
end Go.Proofs.Ytiigjnccoeadlaa.PA
