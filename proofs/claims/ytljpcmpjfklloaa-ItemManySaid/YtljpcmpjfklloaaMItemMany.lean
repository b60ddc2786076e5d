/- ItemMany: for any steps the law returns true and leaves its argument as it was. No condition. -/
import Derived.Test.YtljpcmpjfklloaaPAfremoralaw28awake
import Derived.Test.YtljpcmpjfklloaaPAfremoralaw28light
import Derived.Test.YtljpcmpjfklloaaPAx0
import Derived.Test.YtljpcmpjfklloaaXitemLine
import Derived.Test.YtljpcmpjfklloaaXitemcheck
import Derived.Great.BuildSlice
import Derived.Laws.CopyOwn
import Derived.Test.YtljpcmpjfklloaaXKinds
import Derived.Test.YtljpcmpjfklloaaXWordSpec
import Derived.Test.YtljpcmpjfklloaaXquickText
import Derived.Test.YtljpcmpjfklloaaPAfitemLines
import Derived.Test.YtljpcmpjfklloaaXSplitSpec
import Derived.ProofKit
import Derived.Test.YtljpcmpjfklloaaRows
import Derived.WalkKit
import Derived.Below
import Derived.Carry
import Derived.ChangeOld
import Derived.OpenShut
import Derived.ShutString
import Derived.SizedLaws
import Derived.Test.YtljpcmpjfklloaaPAfremoraref28Lines
import Derived.Test.YtljpcmpjfklloaaXremoraref28Line
/-! ### YtljpcmpjfklloaaXAwakePure28 -/
namespace Go.Proofs.Ytljpcmpjfklloaa.PA
open Go.RowKit Go.Proofs.YtljpcmpjfklloaaW.PrintWords Go.Proofs.YtljpcmpjfklloaaW.PrintLast Go.Proofs.YtljpcmpjfklloaaW.PrintMore
attribute [local go_sem] max2_int min2_int max_two min_two max_three min_three max_four min_four
set_option linter.unusedVariables false
set_option linter.unusedSimpArgs false
theorem awake_f28 : remoralaw28_awake.f = some true := by kernel_rfl
theorem light_f (a0_0 : Int) (a0_1 : ByteArray) (a0_2 : ByteArray) (a0_3 : ByteArray) (a0_4 : Int) (a0_5 : Int) (a0_6 : Int) (a0_7 : Int) (a0_8 : Int) (a0_9 : Int) (a0_10 : Int) (a0_11 : ByteArray) (a0_12 : ByteArray) (a0_13 : Int) (a0_14 : Int) : remoralaw28_light.f a0_0 a0_1 a0_2 a0_3 a0_4 a0_5 a0_6 a0_7 a0_8 a0_9 a0_10 a0_11 a0_12 a0_13 a0_14 = some (decide ((a0_1.size : Int) ≤ 1000) && decide ((a0_2.size : Int) ≤ 1000)) := by
  unfold remoralaw28_light.f
  by_cases h : (a0_1.size : Int) ≤ 1000
  · rw [if_pos h, decide_eq_true h]
    rfl
  · rw [if_neg h, decide_eq_false h]
    rfl
theorem line_f (a0_0 : Int) (a0_1 : ByteArray) (a0_2 : ByteArray) (a0_3 : ByteArray) (a0_4 : Int) (a0_5 : Int) (a0_6 : Int) (a0_7 : Int) (a0_8 : Int) (a0_9 : Int) (a0_10 : Int) (a0_11 : ByteArray) (a0_12 : ByteArray) (a0_13 : Int) (a0_14 : Int) (h1 : (a0_1.size : Int) ≤ 1000) (h2 : (a0_2.size : Int) ≤ 1000) : item_Line.f a0_0 a0_1 a0_2 a0_3 a0_4 a0_5 a0_6 a0_7 a0_8 a0_9 a0_10 a0_11 a0_12 a0_13 a0_14 = some (if checkI a0_0 a0_1 a0_2 a0_4 a0_14 = 0 then (lineB a0_0 a0_1 a0_2 a0_4 a0_14, 0) else ((⟨#[]⟩ : ByteArray), checkI a0_0 a0_1 a0_2 a0_4 a0_14)) := by
  unfold item_Line.f
  rw [if_pos (by omega)]
  split <;> rfl
end Go.Proofs.Ytljpcmpjfklloaa.PA
/-! ### YtljpcmpjfklloaaXRowElem -/
namespace Go.Proofs.Ytljpcmpjfklloaa.PA
open Go.RowKit Go.Proofs.YtljpcmpjfklloaaW.PrintWords Go.Proofs.YtljpcmpjfklloaaW.PrintLast Go.Proofs.YtljpcmpjfklloaaW.PrintMore
attribute [local go_sem] max2_int min2_int max_two min_two max_three min_three max_four min_four
set_option linter.unusedVariables false
set_option linter.unusedSimpArgs false
def EltAt (w : World) (ad : Addr) (cs : List Value) : Prop := ∀ j v, cs[j]? = some v → w.cell? (ad.add j) = some v
theorem run_loadVar_elt {P : Program} (w : World) (ad : Addr) (ty : TypeId) (cs : List Value) (d : TypeDesc) (hc : EltAt w ad cs)
    (hu : P.underlying ty = some d) (hd : (match d with | .struct _ | .array _ _ => true | _ => false) = true) (hi : (P.info? ty).map (·.size) = some cs.length) :
    (loadVar ty ad).run P w = .ok (.agg cs.toArray) w := by
  have hl : (loadCells ad cs.length).run P w = .ok cs.toArray w := run_loadCells_list (P := P) w ad cs hc
  cases hq : P.info? ty with
  | none => simp [hq] at hi
  | some i =>
    have hs : i.size = cs.length := by simpa [hq] using hi
    have hagg : (isAgg ty).run P w = .ok true w := by
      unfold isAgg
      rw [Sem.run_bind, run_underlying hu w]
      cases d <;> simp_all
    simp [loadVar, Sem.run_bind, hagg, sizeOf, typeInfo, hq, hs, hl]
theorem wpList_load_elt {P : Program} {ops : Array Oper} {rest : List Oper} {op : Oper} {a : Act} {w : World} {Q : Exit → Act → World → Prop} (hgd : op.guard = none) (ty : TypeId) (x : Operand) (ho : op.op = .load ty x)
    (ad : Addr) (hx : a.eval x = .pointer (some ad)) (cs : List Value) (d : TypeDesc) (hc : EltAt w ad cs)
    (hu : P.underlying ty = some d) (hd : (match d with | .struct _ | .array _ _ => true | _ => false) = true) (hi : (P.info? ty).map (·.size) = some cs.length) (S : Array Value) (hS : S = cs.toArray)
    (h : wpList P ops Q rest (a.put op.dst (.agg S)) w) : wpList P ops Q (op :: rest) a w :=
  wpList_plain hgd fun _ hK => by
    subst hS
    unfold Oper.wp execOp
    simp only [ho, hx, Instr.loadAt, Instr.sureAddr, Sem.run_bind, Sem.run_pure, Result.andThen_ok, run_loadVar_elt w ad ty cs d hc hu hd hi]
    exact hK _ _ h
theorem elt_of_C {α : Type} {d : Kd α} {w : World} {A : Option Addr} {n : Nat} {xs : List α} (h : d.C w A n xs) (z : α) (i : Int) (h0 : 0 ≤ i) (h1 : i < n) :
    ∃ ad c, A = some ad ∧ c.length = d.sz ∧ d.K w (xs.getD i.toNat z) c ∧ EltAt w (ad.add (i.toNat * d.sz)) c := by
  obtain ⟨ad, c, e, hl, hK, hc⟩ := Kd.C_get h z i h0 h1
  refine ⟨ad, c, e, hl, hK, fun j v hj => ?_⟩
  rw [show (ad.add (i.toNat * d.sz)).add j = ad.add (i.toNat * d.sz + j) from by
    unfold Addr.add
    by_cases h1 : i.toNat * d.sz = 0
    · simp [h1]
    · by_cases h2 : j = 0
      · simp [h2]
      · simp [h1, h2, Nat.add_assoc]]
  exact hc j v hj
theorem EltAt.keep {w w1 : World} {ad : Addr} {cs : List Value} (h : EltAt w ad cs) (hb : Below w.heap.size w w1) : EltAt w1 ad cs := fun j v hj => by
  have := h j v hj
  exact (hb.cell (World.block_lt_of_cell? w _ this)).trans this
end Go.Proofs.Ytljpcmpjfklloaa.PA
/-! ### YtljpcmpjfklloaaXItemManyW -/
namespace Go.Proofs.Ytljpcmpjfklloaa.PA
open Go.RowKit Go.Proofs.YtljpcmpjfklloaaW.PrintWords Go.Proofs.YtljpcmpjfklloaaW.PrintLast Go.Proofs.YtljpcmpjfklloaaW.PrintMore
attribute [local go_sem] max2_int min2_int max_two min_two max_three min_three max_four min_four
set_option linter.unusedVariables false
set_option linter.unusedSimpArgs false
def Z27c : Array Value := #[.int .i64 0, .string (⟨#[]⟩ : ByteArray), .string (⟨#[]⟩ : ByteArray), .string (⟨#[]⟩ : ByteArray), .int .i64 0, .int .i64 0, .int .i64 0, .int .i64 0, .int .i64 0, .int .i64 0, .int .i64 0, .string (⟨#[]⟩ : ByteArray), .string (⟨#[]⟩ : ByteArray), .int .i64 0, .int .i64 0]
theorem meas_step (n k : Nat) (h : k < n) : n - ((k : Int) + 1).toNat < n - (k : Int).toNat := by omega
set_option maxHeartbeats 2000000 in
set_option maxRecDepth 100000 in
theorem itemMany_walk (A0 : Option Addr) (n c0 : Nat) (w : World) (E : Nat → Array Value) (hE : ∀ i, (E i).size = 15) (hO : ∀ i, (E i).all (·.oneCell') = true)
    (hR : n ≤ 40 → ∀ i, i < n → ∃ ad, A0 = some ad ∧ EltAt w (ad.add (i * 15)) (E i).toList)
    (lt : Nat → Bool) (T : Nat → ByteArray) (X : Nat → Int)
    (hl : n ≤ 40 → ∀ i, i < n → ∀ w_, Calls Try.prog 7 #[.agg (E i)] w_ fun e w' => e = .returned (.bool (lt i)) ∧ Below w_.heap.size w_ w')
    (h1 : n ≤ 40 → ∀ i, i < n → lt i = true → ∀ w_, Calls Try.prog 9 #[.agg (E i)] w_ fun e w' => e = .returned (.tuple #[.string (T i), .int .i64 (X i)]) ∧ Below w_.heap.size w_ w')
    (W : Nat → ByteArray) (B : Nat → Int) (W0 : W 0 = ⟨#[]⟩) (B0 : B 0 = 0) (WS : ∀ i, W (i + 1) = W i ++ (T i ++ (⟨#[10]⟩ : ByteArray))) (BS : ∀ i, B (i + 1) = if B i = 0 then X i else B i)
    (z1 : n ≤ 40 → ∀ i, i < n → (T i).size + 1 ≤ 9223372036854775807) (z2 : n ≤ 40 → ∀ i, i < n → (W i).size + ((T i).size + 1) ≤ 9223372036854775807)
    (R : ByteArray) (hRR : R = if B n = 0 then W n else ⟨#[]⟩)
    (h2 : n ≤ 40 → (∀ i, i < n → lt i = true) → ∀ w_, Below w.heap.size w w_ → Calls Try.prog 12 #[.slice A0 n c0] w_ fun e w' => e = .returned (.tuple #[.string R, .int .i64 (B n)]) ∧ Below w_.heap.size w_ w')
    (h3 : n ≤ 40 → (∀ i, i < n → lt i = true) → ∀ w_, Below w.heap.size w w_ → Calls Try.prog 13 #[.slice A0 n c0] w_ fun e w' => e = .returned (.tuple #[.string R, .int .i64 (B n)]) ∧ Below w_.heap.size w_ w')
    (ha : ∀ w_, Calls Try.prog 8 #[] w_ fun e w' => e = .returned (.bool true) ∧ Below w_.heap.size w_ w') :
    Calls Try.prog 5 #[.slice A0 n c0] w fun e w' => e = .returned (.bool true) ∧ Below w.heap.size w w' := by
  have hu1 := Try.underlying27
  have HB := Aside0.mk (Below.refl w.heap.size w)
  by_cases h40 : n ≤ 40
  · have d40 : (40 < n) = False := eq_false (by omega)
    replace hR := hR h40
    replace hl := hl h40
    replace h1 := h1 h40
    replace z1 := z1 h40
    replace z2 := z2 h40
    replace h2 := h2 h40
    replace h3 := h3 h40
    go_enter Try.func5, Try.ntmps5
    go_wp2
    go_loopw [3, 4, 19] (fun v3 v4 v19 wr => ∃ k : Nat, k ≤ n ∧ v3 = .string (W k) ∧ v4 = .int .i64 (B k) ∧ v19 = .int .i64 k ∧ (∀ j, j < k → lt j = true) ∧ Aside0 (Below w.heap.size w wr)) (fun _ _ v19 _ => n - (intOf v19).toNat)
    case atStart => exact ⟨0, Nat.zero_le _, by rw [W0], by rw [B0], rfl, fun j hj => absurd hj (Nat.not_lt_zero _), HB⟩
    case round =>
      clear HB
      obtain ⟨k, hk, rfl, rfl, rfl, hall, HB⟩ := hrel
      by_cases hkn : k < n
      · have hkk : ((k : Int) < (n : Int)) = True := eq_true (by omega)
        have hk0 : (0 ≤ (k : Int)) = True := eq_true (by omega)
        obtain ⟨ad, rfl, hel0⟩ := hR k hkn
        have hel := Aside0.mk (hel0.keep HB.out)
        clear hel0
        have hlk := hl k hkn
        have h1k := h1 k hkn
        have hO' := Aside0.mk (hO k)
        have hsz := hE k
        have i1 := Aside0.mk (show (Try.prog.info? 27).map (·.size) = some (E k).toList.length by rw [Array.length_toList, hsz]; kernel_rfl)
        have i2 := Aside0.mk (show (Try.prog.info? 27).map (·.size) = some (E k).size by rw [hsz]; kernel_rfl)
        have hz := Aside0.mk (show Z27c.size = (E k).size by rw [hsz]; rfl)
        have zz1 := z1 k hkn
        have zz2 := z2 k hkn
        have wk := WS k
        have bk := BS k
        clear hl h1 hO hE z1 z2 hsz
        have hO := hO'
        clear hO'
        generalize E k = S at *
        cases hb0 : lt k with
        | false =>
          rw [hb0] at hlk
          clear h1k h2 h3
          go_wp2_with (first | ((with_reducible refine gate_dst (N := 22) rfl ?_); refine wpList_load_elt rfl 27 (.tmp 21) rfl (ad.add (k * 15)) ?_ S.toList _ hel.out hu1 rfl i1.out S (by simp) ?_; first | rfl | (simp; done) | (simp; rfl) | skip) | ((with_reducible refine gate_dst (N := 6) rfl ?_); refine box_event ?hg (N := 6) ?hd (cs := Z27c) (t := 27) ?hr ?_; (case hd => rfl); (case hg => rfl); (case hr => first | (go_simp; done) | (go_simp; rfl)); intro gb hg w9 hbox hb; have n0_ := Aside0.mk (below_step HB.out hb); have GB := Aside0.mk (show w.heap.size ≤ gb by rw [hg]; exact below_size HB.out); clear HB; have HB := n0_; clear n0_; have BK := Aside0.mk hbox; clear hbox hg hb) | ((with_reducible refine gate_store (t := 27) (p := 6) rfl ?_); refine wpList_store_rowTo rfl 27 (.tmp 6) (.tmp 22) rfl rfl gb S rfl rfl 27 Z27c BK.out i2.out hz.out hO.out ?_; have n0_ := Aside0.mk (below_setRow HB.out GB.out S); have n1_ := Aside0.mk (setRow_heap _ gb Z27c S 27 (0, 0) BK.out); clear HB BK; have HB := n0_; have BK := n1_; clear n0_ n1_) | ((with_reducible refine gate_dst (N := 23) rfl ?_); refine wpList_load_row rfl 27 (.tmp 6) rfl gb rfl 27 S (0, 0) _ BK.out hu1 rfl i2.out ?_) | (go_at_call 7; (with_reducible refine (hlk _).mono ?_); rintro e w2 ⟨rfl, hb⟩; have n0_ := Aside0.mk (below_step HB.out hb); have n1_ := Aside0.mk (blk_below BK.out hb); clear HB; have HB := n0_; clear n0_; clear BK; have BK := n1_; clear n1_; clear hb) | (go_at_call 8; (with_reducible refine (ha _).mono ?_); rintro e w2 ⟨rfl, hb⟩; have n0_ := Aside0.mk (below_step HB.out hb); have n1_ := Aside0.mk (blk_below BK.out hb); clear HB; have HB := n0_; clear n0_; clear BK; have BK := n1_; clear n1_; clear hb))
          go_ret
          exact ⟨rfl, HB.out⟩
        | true =>
          rw [hb0] at hlk
          have hnx : ∀ j, j < k + 1 → lt j = true := fun j hj => by
            rcases Nat.lt_succ_iff_lt_or_eq.1 hj with h | h
            · exact hall j h
            · rw [h]; exact hb0
          replace h1k := h1k hb0
          clear h2 h3
          generalize hWk : W k = wt at *
          generalize hBk : B k = bt0 at *
          generalize hTk : T k = tt at *
          generalize hXk : X k = xx at *
          have s1 : (9223372036854775807 < tt.size + 1) = False := eq_false (by omega)
          have s2 : (9223372036854775807 < wt.size + (tt.size + 1)) = False := eq_false (by omega)
          by_cases hb1 : bt0 = 0
          · subst hb1
            rw [if_pos rfl] at bk
            go_wp2_with (first | ((with_reducible refine gate_dst (N := 22) rfl ?_); refine wpList_load_elt rfl 27 (.tmp 21) rfl (ad.add (k * 15)) ?_ S.toList _ hel.out hu1 rfl i1.out S (by simp) ?_; first | rfl | (simp; done) | (simp; rfl) | skip) | ((with_reducible refine gate_dst (N := 6) rfl ?_); refine box_event ?hg (N := 6) ?hd (cs := Z27c) (t := 27) ?hr ?_; (case hd => rfl); (case hg => rfl); (case hr => first | (go_simp; done) | (go_simp; rfl)); intro gb hg w9 hbox hb; have n0_ := Aside0.mk (below_step HB.out hb); have GB := Aside0.mk (show w.heap.size ≤ gb by rw [hg]; exact below_size HB.out); clear HB; have HB := n0_; clear n0_; have BK := Aside0.mk hbox; clear hbox hg hb) | ((with_reducible refine gate_store (t := 27) (p := 6) rfl ?_); refine wpList_store_rowTo rfl 27 (.tmp 6) (.tmp 22) rfl rfl gb S rfl rfl 27 Z27c BK.out i2.out hz.out hO.out ?_; have n0_ := Aside0.mk (below_setRow HB.out GB.out S); have n1_ := Aside0.mk (setRow_heap _ gb Z27c S 27 (0, 0) BK.out); clear HB BK; have HB := n0_; have BK := n1_; clear n0_ n1_) | ((with_reducible refine gate_dst (N := 23) rfl ?_); refine wpList_load_row rfl 27 (.tmp 6) rfl gb rfl 27 S (0, 0) _ BK.out hu1 rfl i2.out ?_) | (go_at_call 7; (with_reducible refine (hlk _).mono ?_); rintro e w2 ⟨rfl, hb⟩; have n0_ := Aside0.mk (below_step HB.out hb); have n1_ := Aside0.mk (blk_below BK.out hb); clear HB; have HB := n0_; clear n0_; clear BK; have BK := n1_; clear n1_; clear hb) | ((with_reducible refine gate_dst (N := 28) rfl ?_); refine wpList_load_row rfl 27 (.tmp 6) rfl gb rfl 27 S (0, 0) _ BK.out hu1 rfl i2.out ?_) | (go_at_call 9; (with_reducible refine (h1k _).mono ?_); rintro e w2 ⟨rfl, hb⟩; have n0_ := Aside0.mk (below_step HB.out hb); have n1_ := Aside0.mk (blk_below BK.out hb); clear HB; have HB := n0_; clear n0_; clear BK; have BK := n1_; clear n1_; clear hb))
            go_roundw
            case rel => exact ⟨k + 1, hkn, by rw [wk], by rw [bk], rfl, hnx, HB⟩
            case measure =>
              exact meas_step n k hkn
          · rw [if_neg hb1] at bk
            have hb2 : (bt0 == 0) = false := beq_eq_false_iff_ne.2 hb1
            clear hb1
            go_wp2_with (first | ((with_reducible refine gate_dst (N := 22) rfl ?_); refine wpList_load_elt rfl 27 (.tmp 21) rfl (ad.add (k * 15)) ?_ S.toList _ hel.out hu1 rfl i1.out S (by simp) ?_; first | rfl | (simp; done) | (simp; rfl) | skip) | ((with_reducible refine gate_dst (N := 6) rfl ?_); refine box_event ?hg (N := 6) ?hd (cs := Z27c) (t := 27) ?hr ?_; (case hd => rfl); (case hg => rfl); (case hr => first | (go_simp; done) | (go_simp; rfl)); intro gb hg w9 hbox hb; have n0_ := Aside0.mk (below_step HB.out hb); have GB := Aside0.mk (show w.heap.size ≤ gb by rw [hg]; exact below_size HB.out); clear HB; have HB := n0_; clear n0_; have BK := Aside0.mk hbox; clear hbox hg hb) | ((with_reducible refine gate_store (t := 27) (p := 6) rfl ?_); refine wpList_store_rowTo rfl 27 (.tmp 6) (.tmp 22) rfl rfl gb S rfl rfl 27 Z27c BK.out i2.out hz.out hO.out ?_; have n0_ := Aside0.mk (below_setRow HB.out GB.out S); have n1_ := Aside0.mk (setRow_heap _ gb Z27c S 27 (0, 0) BK.out); clear HB BK; have HB := n0_; have BK := n1_; clear n0_ n1_) | ((with_reducible refine gate_dst (N := 23) rfl ?_); refine wpList_load_row rfl 27 (.tmp 6) rfl gb rfl 27 S (0, 0) _ BK.out hu1 rfl i2.out ?_) | (go_at_call 7; (with_reducible refine (hlk _).mono ?_); rintro e w2 ⟨rfl, hb⟩; have n0_ := Aside0.mk (below_step HB.out hb); have n1_ := Aside0.mk (blk_below BK.out hb); clear HB; have HB := n0_; clear n0_; clear BK; have BK := n1_; clear n1_; clear hb) | ((with_reducible refine gate_dst (N := 28) rfl ?_); refine wpList_load_row rfl 27 (.tmp 6) rfl gb rfl 27 S (0, 0) _ BK.out hu1 rfl i2.out ?_) | (go_at_call 9; (with_reducible refine (h1k _).mono ?_); rintro e w2 ⟨rfl, hb⟩; have n0_ := Aside0.mk (below_step HB.out hb); have n1_ := Aside0.mk (blk_below BK.out hb); clear HB; have HB := n0_; clear n0_; clear BK; have BK := n1_; clear n1_; clear hb))
            go_roundw
            case rel => exact ⟨k + 1, hkn, by rw [wk], by rw [bk], rfl, hnx, HB⟩
            case measure =>
              exact meas_step n k hkn
      · obtain rfl : k = n := by omega
        have hkk : ((k : Int) < (k : Int)) = False := eq_false (by omega)
        have h2k := h2 hall
        have h3k := h3 hall
        clear h2 h3 hl h1 hR hO hE z1 z2 WS BS
        generalize B k = bt0 at *
        generalize W k = wt at *
        by_cases hb1 : bt0 = 0
        · subst hb1
          rw [if_pos rfl] at hRR
          subst hRR
          have q1 : (R.toList == R.toList) = true := beq_self_eq_true _
          go_wp2_with (first | (go_at_call 12; (with_reducible refine (h2k _ HB.out).mono ?_); rintro e w2 ⟨rfl, hb⟩; have n0_ := Aside0.mk (below_step HB.out hb); clear HB; have HB := n0_; clear n0_; clear hb) | (go_at_call 13; (with_reducible refine (h3k _ HB.out).mono ?_); rintro e w2 ⟨rfl, hb⟩; have n0_ := Aside0.mk (below_step HB.out hb); clear HB; have HB := n0_; clear n0_; clear hb) | (go_at_call 8; (with_reducible refine (ha _).mono ?_); rintro e w2 ⟨rfl, hb⟩; have n0_ := Aside0.mk (below_step HB.out hb); clear HB; have HB := n0_; clear n0_; clear hb))
          go_ret
          exact ⟨rfl, HB.out⟩
        · rw [if_neg hb1] at hRR
          subst hRR
          have hb2 : (bt0 == 0) = false := beq_eq_false_iff_ne.2 hb1
          have hb3 : (bt0 != 0) = true := bne_iff_ne.2 hb1
          have q2 : (bt0 == bt0) = true := beq_self_eq_true _
          go_wp2_with (first | (go_at_call 12; (with_reducible refine (h2k _ HB.out).mono ?_); rintro e w2 ⟨rfl, hb⟩; have n0_ := Aside0.mk (below_step HB.out hb); clear HB; have HB := n0_; clear n0_; clear hb) | (go_at_call 13; (with_reducible refine (h3k _ HB.out).mono ?_); rintro e w2 ⟨rfl, hb⟩; have n0_ := Aside0.mk (below_step HB.out hb); clear HB; have HB := n0_; clear n0_; clear hb) | (go_at_call 8; (with_reducible refine (ha _).mono ?_); rintro e w2 ⟨rfl, hb⟩; have n0_ := Aside0.mk (below_step HB.out hb); clear HB; have HB := n0_; clear n0_; clear hb))
          go_ret
          exact ⟨rfl, HB.out⟩
  · have d40 : (40 < n) = True := eq_true (by omega)
    go_enter Try.func5, Try.ntmps5
    go_wp2_with (first | (go_at_call 8; (with_reducible refine (ha _).mono ?_); rintro e w2 ⟨rfl, hb⟩; have n0_ := Aside0.mk (below_step HB.out hb); clear HB; have HB := n0_; clear n0_; clear hb))
    go_ret
    exact ⟨rfl, HB.out⟩
end Go.Proofs.Ytljpcmpjfklloaa.PA
/-! ### YtljpcmpjfklloaaXLineNums -/
namespace Go.Proofs.Ytljpcmpjfklloaa.PA
open Go.RowKit Go.Proofs.YtljpcmpjfklloaaW.PrintWords Go.Proofs.YtljpcmpjfklloaaW.PrintLast Go.Proofs.YtljpcmpjfklloaaW.PrintMore
attribute [local go_sem] max2_int min2_int max_two min_two max_three min_three max_four min_four
set_option linter.unusedVariables false
set_option linter.unusedSimpArgs false
theorem sn_append (a b : List Int) : strOfNums (a ++ b) = strOfNums a ++ strOfNums b := by
  simp [strOfNums, ByteArray.append_eq, ByteArray.ext_iff]
def okN (x : Int) : Prop := 32 ≤ x ∧ x ≤ 126
def lineN (k : Int) (p f : ByteArray) (t d : Int) : List Int :=
  [kindL k, thingL t] ++ [32] ++ textL d 9 ++ [32] ++ wordTo p p.size ++ (if twoB k = true then [32] ++ wordTo f f.size else [])
theorem lineB_nums (k : Int) (p f : ByteArray) (t d : Int) : lineB k p f t d = strOfNums (lineN k p f t d) := by
  unfold lineB lineN textSpec
  have h32 : (⟨#[32]⟩ : ByteArray) = strOfNums [32] := rfl
  rw [h32]
  by_cases h : twoB k = true
  · rw [if_pos h, if_pos h]
    simp only [sn_append]
  · rw [if_neg h, if_neg h, List.append_nil]
    simp only [sn_append]
theorem enc_range (b : Int) (h0 : 0 ≤ b) (h1 : b ≤ 255) : ∀ x ∈ encB b, okN x := by
  intro x hx
  unfold encB at hx
  by_cases h : plainB b = true
  · rw [if_pos h] at hx
    have hb := List.mem_singleton.1 hx
    subst hb
    simp only [plainB, Bool.and_eq_true, decide_eq_true_eq] at h
    exact ⟨by omega, by omega⟩
  · rw [if_neg h] at hx
    have r1 : okN (hexd (b / 16)) := by unfold hexd okN; split <;> omega
    have r2 : okN (hexd (b % 16)) := by unfold hexd okN; split <;> omega
    simp only [List.mem_cons, List.not_mem_nil, or_false] at hx
    rcases hx with rfl | rfl | rfl
    · exact ⟨by omega, by omega⟩
    · exact r1
    · exact r2
theorem word_range (s : ByteArray) : ∀ k, ∀ x ∈ wordTo s k, okN x
  | 0 => by simp [wordTo]
  | k + 1 => by
    intro x hx
    have hb := bt_range s (k : Int)
    rcases List.mem_append.1 (show x ∈ wordTo s k ++ encB (bt s (k : Int)) from hx) with h | h
    · exact word_range s k x h
    · exact enc_range _ hb.1 hb.2 x h
theorem text_range (d : Int) : ∀ x ∈ textL d 9, okN x := by
  intro x hx
  unfold textL at hx
  obtain ⟨i, hi, rfl⟩ := List.mem_map.1 hx
  have hi9 : i < 9 := by simpa using hi
  split
  · exact ⟨by omega, by omega⟩
  · have : i = 0 ∨ i = 1 ∨ i = 2 ∨ i = 3 ∨ i = 4 ∨ i = 5 ∨ i = 6 ∨ i = 7 ∨ i = 8 := by omega
    rcases this with rfl | rfl | rfl | rfl | rfl | rfl | rfl | rfl | rfl <;> exact ⟨by decide, by decide⟩
theorem kind_range (k : Int) : okN (kindL k) := by
  unfold kindL okN
  repeat' split
  all_goals omega
theorem thing_range (k : Int) : okN (thingL k) := by
  unfold thingL okN
  repeat' split
  all_goals omega
theorem lineN_range (k : Int) (p f : ByteArray) (t d : Int) : ∀ x ∈ lineN k p f t d, okN x := by
  intro x hx
  have h32 : okN 32 := ⟨by decide, by decide⟩
  unfold lineN at hx
  simp only [List.mem_append, List.mem_cons, List.not_mem_nil, or_false] at hx
  rcases hx with ((((((h | h) | h) | h) | h) | h) | h)
  · rw [h]; exact kind_range k
  · rw [h]; exact thing_range t
  · rw [h]; exact h32
  · exact text_range d x h
  · rw [h]; exact h32
  · exact word_range p _ x h
  · split at h
    · rcases List.mem_append.1 h with h | h
      · rw [List.mem_singleton.1 h]; exact h32
      · exact word_range f _ x h
    · simp at h
theorem lineN_len (k : Int) (p f : ByteArray) (t d : Int) : (lineN k p f t d).length ≤ 14 + 3 * p.size + 3 * f.size := by
  have h1 := wordTo_len p p.size
  have h2 := wordTo_len f f.size
  have h3 := textL_len d 9
  unfold lineN
  simp only [List.length_append, List.length_cons, List.length_nil, h3]
  split
  · simp only [List.length_append, List.length_cons, List.length_nil]
    omega
  · simp only [List.length_nil]
    omega
theorem bt_nums (xs : List Int) (j : Nat) (hj : j < xs.length) (h0 : 0 ≤ xs[j]) (h1 : xs[j] < 256) : bt (strOfNums xs) (j : Int) = xs[j] := by
  have hs : j < (strOfNums xs).size := by rw [nums_size]; exact hj
  rw [bt, dif_pos (by rw [Int.toNat_natCast]; exact hs)]
  simp only [Int.toNat_natCast]
  have e : (strOfNums xs)[j]'hs = UInt8.ofNat (xs[j]).toNat := by
    show (strOfNums xs).data[j]'hs = _
    simp [strOfNums]
  rw [e, UInt8.toNat_ofNat']
  omega
end Go.Proofs.Ytljpcmpjfklloaa.PA
/-! ### YtljpcmpjfklloaaXLinesPure -/
namespace Go.Proofs.Ytljpcmpjfklloaa.PA
open Go.RowKit Go.Proofs.YtljpcmpjfklloaaW.PrintWords Go.Proofs.YtljpcmpjfklloaaW.PrintLast Go.Proofs.YtljpcmpjfklloaaW.PrintMore
attribute [local go_sem] max2_int min2_int max_two min_two max_three min_three max_four min_four
set_option linter.unusedVariables false
set_option linter.unusedSimpArgs false
def litS (x : S27) : Prop := (x.f1.size : Int) ≤ 1000 ∧ (x.f2.size : Int) ≤ 1000
def chkS (x : S27) : Int := checkI x.f0 x.f1 x.f2 x.f3.f1 x.f4
def lnN (x : S27) : List Int := lineN x.f0 x.f1 x.f2 x.f3.f1 x.f4
def linesN : List S27 → List Int
  | [] => []
  | x :: t => (lnN x ++ [10]) ++ linesN t
def firstE : List S27 → Int
  | [] => 0
  | x :: t => if chkS x = 0 then firstE t else chkS x
def linesR (L : List S27) : ByteArray × Int := if firstE L = 0 then (strOfNums (linesN L), 0) else ((⟨#[]⟩ : ByteArray), firstE L)
theorem linesN_app (a b : List S27) : linesN (a ++ b) = linesN a ++ linesN b := by
  induction a with
  | nil => rfl
  | cons x t ih => simp only [List.cons_append, linesN, ih, List.append_assoc]
theorem rd_get (L : List S27) (i : Nat) (h : i < L.length) : rd_T27 L (i : Int) = L[i] := by
  simp [rd_T27, h]
theorem linesN_take (L : List S27) (i : Nat) (h : i < L.length) : linesN (L.take (i + 1)) = linesN (L.take i) ++ (lnN (L[i]) ++ [10]) := by
  rw [List.take_succ_eq_append_getElem h, linesN_app]
  simp [linesN]
theorem firstE_drop (L : List S27) (i : Nat) (h : i < L.length) : firstE (L.drop i) = if chkS (L[i]) = 0 then firstE (L.drop (i + 1)) else chkS (L[i]) := by
  rw [List.drop_eq_getElem_cons h]
  rfl
theorem lnN_len (x : S27) (h : litS x) : (lnN x).length ≤ 6014 := by
  have := lineN_len x.f0 x.f1 x.f2 x.f3.f1 x.f4
  have h1 := h.1
  have h2 := h.2
  unfold lnN
  omega
theorem linesN_len (L : List S27) (h : ∀ x ∈ L, litS x) : (linesN L).length ≤ 6015 * L.length := by
  induction L with
  | nil => simp [linesN]
  | cons x t ih =>
    have h1 := lnN_len x (h x (List.mem_cons_self ..))
    have h2 := ih (fun y hy => h y (List.mem_cons_of_mem _ hy))
    simp only [linesN, List.length_append, List.length_cons, List.length_nil]
    omega
theorem linesN_mem (L : List S27) : ∀ y ∈ linesN L, okN y ∨ y = 10 := by
  induction L with
  | nil => simp [linesN]
  | cons x t ih =>
    intro y hy
    simp only [linesN, List.mem_append, List.mem_singleton] at hy
    rcases hy with (h | h) | h
    · exact Or.inl (lineN_range _ _ _ _ _ y h)
    · exact Or.inr h
    · exact ih y h
theorem count_ok : ∀ l : List Int, (∀ y ∈ l, okN y) → l.count 10 = 0 := by
  intro l h
  rw [List.count_eq_zero]
  intro h10
  have := h 10 h10
  unfold okN at this
  omega
theorem linesN_count (L : List S27) : (linesN L).count 10 = L.length := by
  induction L with
  | nil => rfl
  | cons x t ih =>
    have := count_ok (lnN x) (lineN_range _ _ _ _ _)
    simp only [linesN, List.count_append, this, ih, List.length_cons]
    simp
    omega
theorem lineS_f (x : S27) (h : litS x) : item_Line.f x.f0 x.f1 x.f2 x.f3.f0 x.f3.f1 x.f3.f2 x.f3.f3.f0 x.f3.f3.f1 x.f3.f3.f2 x.f3.f3.f3 x.f3.f3.f4 x.f3.f4 x.f3.f5 x.f3.f6 x.f4 = some (if chkS x = 0 then (strOfNums (lnN x), 0) else ((⟨#[]⟩ : ByteArray), chkS x)) := by
  rw [line_f _ _ _ _ _ _ _ _ _ _ _ _ _ _ _ h.1 h.2, lineB_nums]
  rfl
theorem lines_loop (L : List S27) (hL : L.length ≤ 40) (hl : ∀ x ∈ L, litS x) : ∀ (m i k : Nat), L.length - i = m → i ≤ L.length → L.length - i + 1 ≤ k → item_Lines.l0 k (strOfNums (linesN (L.take i))) L (L.length : Int) (i : Int) = some (if firstE (L.drop i) = 0 then (strOfNums (linesN L), 0) else ((⟨#[]⟩ : ByteArray), firstE (L.drop i))) := by
  intro m
  induction m with
  | zero =>
    intro i k hm hi hk
    obtain ⟨k, rfl⟩ : ∃ j, k = j + 1 := ⟨k - 1, by omega⟩
    have he : i = L.length := by omega
    subst he
    rw [item_Lines.l0, if_neg (by omega), List.take_length, List.drop_length]
    rfl
  | succ m ih =>
    intro i k hm hi hk
    obtain ⟨k, rfl⟩ : ∃ j, k = j + 1 := ⟨k - 1, by omega⟩
    have hlt : i < L.length := by omega
    have hx := hl _ (List.getElem_mem hlt)
    rw [item_Lines.l0, if_pos (by omega), if_pos (by omega), if_pos (by omega), rd_get L i hlt, lineS_f _ hx, Option.bind_some, firstE_drop L i hlt]
    by_cases hc : chkS (L[i]) = 0
    · rw [if_pos hc, if_pos hc]
      dsimp only
      have e10 : (⟨#[10]⟩ : ByteArray) = strOfNums [10] := rfl
      have h1 := lnN_len _ hx
      have h2 := linesN_len (L.take i) (fun y hy => hl y (List.mem_of_mem_take hy))
      rw [List.length_take] at h2
      rw [if_pos rfl, if_pos (by rw [nums_size]; omega), e10, ← sn_append, ← sn_append, if_pos (by rw [nums_size, nums_size]; simp only [List.length_append, List.length_singleton]; omega), ← linesN_take L i hlt, wr64 _ (by omega) (by omega)]
      exact ih (i + 1) k (by omega) (by omega) (by omega)
    · rw [if_neg hc, if_neg hc]
      dsimp only
      rw [if_neg hc, if_neg hc]
theorem lines_f (L : List S27) (hL : L.length ≤ 40) (hl : ∀ x ∈ L, litS x) (k : Nat) (hk : 41 ≤ k) : item_Lines.f k L = some (linesR L) := by
  have := lines_loop L hL hl L.length 0 k (by omega) (by omega) (by omega)
  rw [List.take_zero, List.drop_zero] at this
  exact this
end Go.Proofs.Ytljpcmpjfklloaa.PA
/-! ### YtljpcmpjfklloaaXOpn -/
namespace Go.Proofs.Ytljpcmpjfklloaa.PA
open Go.RowKit Go.Proofs.YtljpcmpjfklloaaW.PrintWords Go.Proofs.YtljpcmpjfklloaaW.PrintLast Go.Proofs.YtljpcmpjfklloaaW.PrintMore
attribute [local go_sem] max2_int min2_int max_two min_two max_three min_three max_four min_four
set_option linter.unusedVariables false
set_option linter.unusedSimpArgs false
theorem bulk_pos {H : Type} : ∀ d : DataW H, 1 ≤ Rows.uptoBulk d
  | .lit (.string b) => by simp [Rows.uptoBulk]
  | .lit (.int _ _) => by simp [Rows.uptoBulk]
  | .lit (.bool _) => by simp [Rows.uptoBulk]
  | .lit (.float _ _) => by simp [Rows.uptoBulk]
  | .lit .nil => by simp [Rows.uptoBulk]
  | .nil => by simp [Rows.uptoBulk]
  | .ptr d => by simp [Rows.uptoBulk]
  | .slice _ _ => by simp [Rows.uptoBulk]
  | .agg _ => by simp [Rows.uptoBulk]
  | .iface _ _ => by simp [Rows.uptoBulk]
  | .map _ => by simp [Rows.uptoBulk]
  | .held _ => by simp [Rows.uptoBulk]
theorem bulk_len {H : Type} : ∀ l : List (DataW H), l.length ≤ Rows.uptoBulkAll l
  | [] => by simp [Rows.uptoBulkAll]
  | d :: r => by
    have h1 := bulk_pos d
    have h2 := bulk_len r
    simp only [List.length_cons, Rows.uptoBulkAll]
    omega
theorem bulk_mem {H : Type} : ∀ (l : List (DataW H)) (d : DataW H), d ∈ l → Rows.uptoBulk d ≤ Rows.uptoBulkAll l
  | [], d, h => by simp at h
  | e :: r, d, h => by
    simp only [Rows.uptoBulkAll]
    rcases List.mem_cons.1 h with rfl | h
    · omega
    · have := bulk_mem r d h
      omega
/-- A reading at type t opens into a value of kind d, which is as wf says (of the reading's bulk). -/
structure Opn {α : Type} (P : Program) (t : TypeId) (d : Kd α) (wf : Nat → α → Prop) : Prop where
  sz : d.sz = P.cellsOf t
  mono : ∀ n m a, n ≤ m → wf n a → wf m a
  op : ∀ {H : Type} (enc : TypeId × Value → H) (w : World) (base : Nat) (spare : Nat → Bool) (held : Bool) (fuel : Nat) (cs : List Value) (x : DataW H × List MemPlace), DataW.trod enc P w base spare held fuel t cs = some x → ∃ a, d.K w a cs ∧ wf (Rows.uptoBulk x.1) a
section
variable {P : Program} {t : TypeId}
theorem opn_int {k : IntKind} (ht : P.underlying t = some (.int k)) (hs : P.cellsOf t = 1) : Opn P t (Kd.int k) (fun _ a => (Lit.int k a).wf = true) where
  sz := hs.symm
  mono := fun _ _ _ _ h => h
  op := fun enc w base spare held fuel cs x h => by
    obtain ⟨n, rfl, rfl, hw⟩ := DataW.trod_int ht h
    exact ⟨n, rfl, hw⟩
theorem opn_bool (ht : P.underlying t = some .bool) (hs : P.cellsOf t = 1) : Opn P t Kd.bool (fun _ _ => True) where
  sz := hs.symm
  mono := fun _ _ _ _ h => h
  op := fun enc w base spare held fuel cs x h => by
    obtain ⟨n, rfl, rfl⟩ := DataW.trod_bool ht h
    exact ⟨n, rfl, trivial⟩
theorem opn_string (ht : P.underlying t = some .string) (hs : P.cellsOf t = 1) : Opn P t Kd.string (fun n s => s.size < n ∧ s.size ≤ maxLen) where
  sz := hs.symm
  mono := fun _ _ _ h h' => ⟨Nat.lt_of_lt_of_le h'.1 h, h'.2⟩
  op := fun enc w base spare held fuel cs x h => by
    obtain ⟨s, rfl, rfl, hw⟩ := DataW.trod_string ht h
    refine ⟨s, rfl, ?_, hw⟩
    simp [Rows.uptoBulk]
theorem cells_get {w : World} {base : Nat} {a : Addr} {n : Nat} {cs : List Value} (h : w.cells? base a n = some cs) : cs.length = n ∧ ∀ i u, cs[i]? = some u → w.cell? (a.add i) = some u := by
  unfold World.cells? at h
  split at h
  · refine ⟨by simpa using mapM_some_length h, fun i u hu => ?_⟩
    have hl := mapM_some_length h
    have hi : i < cs.length := (List.getElem?_eq_some_iff.1 hu).1
    have := mapM_some_get h i i (by rw [List.getElem?_range]; simp at hl; omega)
    rw [this, hu]
  · cases h
theorem add_add (a : Addr) (i j : Nat) : (a.add i).add j = a.add (i + j) := by
  unfold Addr.add
  by_cases hi : i = 0 <;> by_cases hj : j = 0 <;> simp [hi, hj, Nat.add_assoc]
theorem opn_slice {α : Type} {e : TypeId} {d : Kd α} {wf : Nat → α → Prop} (ht : P.underlying t = some (.slice e)) (hs : P.cellsOf t = 1) (O : Opn P e d wf) :
    Opn P t (Kd.slice e d) (fun n xs => xs.length < n ∧ ∀ a ∈ xs, wf n a) where
  sz := hs.symm
  mono := fun n m a h h' => ⟨Nat.lt_of_lt_of_le h'.1 h, fun x hx => O.mono n m x h (h'.2 x hx)⟩
  op := fun enc w base spare held fuel cs x h => by
    rcases DataW.trod_slice ht h with ⟨rfl, rfl⟩ | ⟨a, len, cap, elems, rest, n, _, rfl, rfl, hb, hl, hm, hlen, hel, hsp, hns⟩
    · exact ⟨[], ⟨none, 0, rfl, Nat.le_refl _, Kd.C_nil _ _⟩, by simp [Rows.uptoBulk], by simp⟩
    · have each : ∀ i, i < len → ∃ y, elems[i]? = some y ∧ ∃ cs', w.cells? base (a.add (i * P.cellsOf e)) (P.cellsOf e) = some cs' ∧ ∃ v, d.K w v cs' ∧ wf (Rows.uptoBulk y.1) v := by
        intro i hi
        have h1 := hel i hi
        have h2 : elems[i]? = some (elems[i]'(by omega)) := List.getElem?_eq_getElem (by omega)
        rw [h2, Option.bind_eq_some_iff] at h1
        obtain ⟨cs', hc, ht'⟩ := h1
        obtain ⟨v, hv, hw⟩ := O.op enc w base spare held n cs' _ ht'
        exact ⟨_, h2, cs', hc, v, hv, hw⟩
      have ex : ∀ m, m ≤ len → ∃ xs : List α, xs.length = m ∧ ∀ i v, xs[i]? = some v → ∃ y, elems[i]? = some y ∧ ∃ cs', w.cells? base (a.add (i * P.cellsOf e)) (P.cellsOf e) = some cs' ∧ d.K w v cs' ∧ wf (Rows.uptoBulk y.1) v := by
        intro m
        induction m with
        | zero => exact fun _ => ⟨[], rfl, by simp⟩
        | succ m ih =>
          intro hm'
          obtain ⟨xs, hx, hg⟩ := ih (by omega)
          obtain ⟨y, hy, cs', hc, v, hv, hw⟩ := each m (by omega)
          refine ⟨xs ++ [v], by simp [hx], fun i u hu => ?_⟩
          by_cases hi : i < xs.length
          · rw [List.getElem?_append_left hi] at hu
            exact hg i u hu
          · rw [List.getElem?_append_right (by omega)] at hu
            have hi' : i = m := by
              have := (List.getElem?_eq_some_iff.1 hu).1
              simp at this
              omega
            subst hi'
            rw [hx, Nat.sub_self] at hu
            have : v = u := by simpa using hu
            subst this
            exact ⟨y, hy, cs', hc, hv, hw⟩
      obtain ⟨xs, hx, hg⟩ := ex len (Nat.le_refl _)
      have htot : Rows.uptoBulkAll (elems.map (·.1)) + 1 ≤ Rows.uptoBulk (DataW.slice (elems.map (·.1)) (rest.map (·.1))) := by
        simp only [Rows.uptoBulk]
        omega
      refine ⟨xs, ⟨some a, cap, by rw [hx], by omega, ⟨rfl, by unfold maxLen at hm; omega, fun _ => ⟨a, rfl, fun j p hp => ?_⟩⟩⟩, ?_, ?_⟩
      · obtain ⟨y, hy, cs', hc, hk, hw⟩ := hg j p hp
        obtain ⟨g1, g2⟩ := cells_get hc
        refine ⟨cs', by rw [g1, O.sz], hk, fun i u hu => ?_⟩
        have := g2 i u hu
        rw [add_add] at this
        rw [O.sz]
        exact this
      · have h1 := bulk_len (elems.map (·.1))
        simp only [List.length_map, hlen] at h1
        rw [hx]
        exact Nat.lt_of_lt_of_le (Nat.lt_succ_of_le h1) htot
      · intro v hv
        obtain ⟨i, hi⟩ := List.getElem?_of_mem hv
        obtain ⟨y, hy, _, _, _, hw⟩ := hg i v hi
        refine O.mono _ _ _ ?_ hw
        have hmem : y.1 ∈ elems.map (·.1) := List.mem_map_of_mem (List.mem_of_getElem? hy)
        exact Nat.le_trans (bulk_mem _ _ hmem) (Nat.le_of_succ_le htot)
/-- The fields fs of a struct, from cell o on, open into a value of kind d. -/
def OpnF {α : Type} (P : Program) (fs : List Field) (o : Nat) (d : Kd α) (wf : Nat → α → Prop) : Prop :=
  (∀ n m a, n ≤ m → wf n a → wf m a) ∧
  ∀ {H : Type} (enc : TypeId × Value → H) (w : World) (base : Nat) (spare : Nat → Bool) (held : Bool) (fuel : Nat) (cs : List Value) (ys : List (DataW H × List MemPlace)) (N : Nat),
    (∀ (i : Nat) (f : Field), fs[i]? = some f → ∃ y, ys[i]? = some y ∧ Rows.uptoBulk y.1 ≤ N ∧ DataW.trod enc P w base spare held fuel f.type ((cs.drop f.offset).take (P.cellsOf f.type)) = some y) →
    ∃ a, d.K w a ((cs.drop o).take d.sz) ∧ wf N a
theorem opnF_one {α : Type} {d : Kd α} {wf : Nat → α → Prop} {f : Field} {o : Nat} (ho : f.offset = o) (O : Opn P f.type d wf) : OpnF P [f] o d wf := by
  refine ⟨O.mono, fun enc w base spare held fuel cs ys N h => ?_⟩
  obtain ⟨y, hy, hN, ht⟩ := h 0 f rfl
  obtain ⟨a, ha, hw⟩ := O.op enc w base spare held fuel _ y ht
  refine ⟨a, ?_, O.mono _ _ _ hN hw⟩
  rw [O.sz, ← ho]
  exact ha
theorem opnF_cons {α β : Type} {d : Kd α} {d' : Kd β} {wf : Nat → α → Prop} {wf' : Nat → β → Prop} {f : Field} {fs : List Field} {o o' : Nat} (ho : f.offset = o) (O : Opn P f.type d wf) (he : o' = o + d.sz) (F : OpnF P fs o' d' wf') :
    OpnF P (f :: fs) o (Kd.pair d d') (fun n x => wf n x.1 ∧ wf' n x.2) := by
  refine ⟨fun n m a h h' => ⟨O.mono _ _ _ h h'.1, F.1 _ _ _ h h'.2⟩, fun enc w base spare held fuel cs ys N h => ?_⟩
  obtain ⟨y, hy, hN, ht⟩ := h 0 f rfl
  obtain ⟨a, ha, hw⟩ := O.op enc w base spare held fuel _ y ht
  obtain ⟨b, hb, hw'⟩ := F.2 enc w base spare held fuel cs (ys.drop 1) N (fun i g hg => by
    obtain ⟨z, hz, h1, h2⟩ := h (i + 1) g (by simpa using hg)
    refine ⟨z, ?_, h1, h2⟩
    rw [List.getElem?_drop, Nat.add_comm]
    exact hz)
  refine ⟨(a, b), ⟨(cs.drop o).take d.sz, (cs.drop o').take d'.sz, ?_, ?_, hb⟩, O.mono _ _ _ hN hw, hw'⟩
  · show (cs.drop o).take (d.sz + d'.sz) = _
    rw [List.take_add, List.drop_drop, he]
  · rw [O.sz, ← ho]
    exact ha
theorem opn_struct {α β : Type} {fs : Array Field} {d : Kd α} {wf : Nat → α → Prop} (f : β → α) (g : α → β) (hfg : ∀ a, f (g a) = a) (ht : P.underlying t = some (.struct fs)) (F : OpnF P fs.toList 0 d wf) (hs : d.sz = P.cellsOf t) :
    Opn P t (Kd.iso d f) (fun n x => wf n (f x)) where
  sz := hs
  mono := fun n m a h h' => F.1 n m (f a) h h'
  op := fun enc w base spare held fuel cs x h => by
    obtain ⟨xs, n, rfl, rfl, hl, hlen, hf⟩ := DataW.trod_struct ht h
    obtain ⟨a, ha, hw⟩ := F.2 enc w base spare held n cs xs (Rows.uptoBulk (DataW.agg (xs.map (·.1)))) (fun i q hq => by
      have h1 := hf i q (by simpa using hq)
      have hi : i < xs.length := by
        have := (List.getElem?_eq_some_iff.1 hq).1
        simp at this
        omega
      rw [List.getElem?_eq_getElem hi] at h1
      refine ⟨_, List.getElem?_eq_getElem hi, ?_, h1⟩
      have hmem : (xs[i]).1 ∈ xs.map (·.1) := List.mem_map_of_mem (List.getElem_mem hi)
      have := bulk_mem _ _ hmem
      simp only [Rows.uptoBulk]
      omega)
    refine ⟨g a, ?_, by rw [hfg]; exact hw⟩
    show d.K w (f (g a)) cs
    rw [hfg]
    rw [List.drop_zero, hs, ← hl, List.take_length] at ha
    exact ha
end
end Go.Proofs.Ytljpcmpjfklloaa.PA
/-! ### YtljpcmpjfklloaaXItemManyLaw -/
namespace Go.Proofs.Ytljpcmpjfklloaa.PA
open Go.RowKit Go.Proofs.YtljpcmpjfklloaaW.PrintWords Go.Proofs.YtljpcmpjfklloaaW.PrintLast Go.Proofs.YtljpcmpjfklloaaW.PrintMore
attribute [local go_sem] max2_int min2_int max_two min_two max_three min_three max_four min_four
set_option linter.unusedVariables false
set_option linter.unusedSimpArgs false
def wf23 (n : Nat) (x : S23) : Prop := ((Lit.int .i64 x.f0).wf = true) ∧ ((Lit.int .i64 x.f1).wf = true) ∧ ((Lit.int .i64 x.f2).wf = true) ∧ ((Lit.int .i64 x.f3).wf = true) ∧ ((Lit.int .i64 x.f4).wf = true)
theorem opn23 : Opn Try.prog 23 k23 wf23 := opn_struct (fun x : S23 => (x.f0, x.f1, x.f2, x.f3, x.f4)) (fun a => (⟨a.1, a.2.1, a.2.2.1, a.2.2.2.1, a.2.2.2.2⟩ : S23)) (fun _ => rfl) Try.underlying23 (opnF_cons rfl (opn_int Try.underlying3 (by kernel_rfl)) rfl (opnF_cons rfl (opn_int Try.underlying3 (by kernel_rfl)) rfl (opnF_cons rfl (opn_int Try.underlying3 (by kernel_rfl)) rfl (opnF_cons rfl (opn_int Try.underlying3 (by kernel_rfl)) rfl (opnF_one rfl (opn_int Try.underlying3 (by kernel_rfl))))))) (by kernel_rfl)
def wf25 (n : Nat) (x : S25) : Prop := (x.f0.size < n ∧ x.f0.size ≤ maxLen) ∧ ((Lit.int .i64 x.f1).wf = true) ∧ ((Lit.int .i64 x.f2).wf = true) ∧ (wf23 n x.f3) ∧ (x.f4.size < n ∧ x.f4.size ≤ maxLen) ∧ (x.f5.size < n ∧ x.f5.size ≤ maxLen) ∧ ((Lit.int .i64 x.f6).wf = true)
theorem opn25 : Opn Try.prog 25 k25 wf25 := opn_struct (fun x : S25 => (x.f0, x.f1, x.f2, x.f3, x.f4, x.f5, x.f6)) (fun a => (⟨a.1, a.2.1, a.2.2.1, a.2.2.2.1, a.2.2.2.2.1, a.2.2.2.2.2.1, a.2.2.2.2.2.2⟩ : S25)) (fun _ => rfl) Try.underlying25 (opnF_cons rfl (opn_string Try.underlying9 (by kernel_rfl)) rfl (opnF_cons rfl (opn_int Try.underlying3 (by kernel_rfl)) rfl (opnF_cons rfl (opn_int Try.underlying3 (by kernel_rfl)) rfl (opnF_cons rfl opn23 rfl (opnF_cons rfl (opn_string Try.underlying9 (by kernel_rfl)) rfl (opnF_cons rfl (opn_string Try.underlying9 (by kernel_rfl)) rfl (opnF_one rfl (opn_int Try.underlying3 (by kernel_rfl))))))))) (by kernel_rfl)
def wf27 (n : Nat) (x : S27) : Prop := ((Lit.int .i64 x.f0).wf = true) ∧ (x.f1.size < n ∧ x.f1.size ≤ maxLen) ∧ (x.f2.size < n ∧ x.f2.size ≤ maxLen) ∧ (wf25 n x.f3) ∧ ((Lit.int .i64 x.f4).wf = true)
theorem opn27 : Opn Try.prog 27 k27 wf27 := opn_struct (fun x : S27 => (x.f0, x.f1, x.f2, x.f3, x.f4)) (fun a => (⟨a.1, a.2.1, a.2.2.1, a.2.2.2.1, a.2.2.2.2⟩ : S27)) (fun _ => rfl) Try.underlying27 (opnF_cons rfl (opn_int Try.underlying3 (by kernel_rfl)) rfl (opnF_cons rfl (opn_string Try.underlying9 (by kernel_rfl)) rfl (opnF_cons rfl (opn_string Try.underlying9 (by kernel_rfl)) rfl (opnF_cons rfl opn25 rfl (opnF_one rfl (opn_int Try.underlying3 (by kernel_rfl))))))) (by kernel_rfl)

def cellS (x : S27) : Array Value := #[.int .i64 x.f0, .string x.f1, .string x.f2, .string x.f3.f0, .int .i64 x.f3.f1, .int .i64 x.f3.f2, .int .i64 x.f3.f3.f0, .int .i64 x.f3.f3.f1, .int .i64 x.f3.f3.f2, .int .i64 x.f3.f3.f3, .int .i64 x.f3.f3.f4, .string x.f3.f4, .string x.f3.f5, .int .i64 x.f3.f6, .int .i64 x.f4]
theorem rl0 : ∀ k a b c d, remoraref28_Lines.l0 k a b c d = item_Lines.l0 k a b c d
  | 0, _, _, _, _ => rfl
  | k + 1, a, b, c, d => by
    unfold remoraref28_Lines.l0 item_Lines.l0
    simp only [rl0 k, remoraref28_Line.f]
theorem rlines_f (L : List S27) (k : Nat) : remoraref28_Lines.f k L = item_Lines.f k L := rl0 _ _ _ _ _
def litB (x : S27) : Bool := decide ((x.f1.size : Int) ≤ 1000) && decide ((x.f2.size : Int) ≤ 1000)
theorem litB_iff (x : S27) : litB x = true ↔ litS x := by
  unfold litB litS
  rw [Bool.and_eq_true, decide_eq_true_iff, decide_eq_true_iff]
def tM (x : S27) : ByteArray := if litB x = true then (if chkS x = 0 then strOfNums (lnN x) else ⟨#[]⟩) else ⟨#[]⟩
def wM (L : List S27) : Nat → ByteArray
  | 0 => ⟨#[]⟩
  | i + 1 => wM L i ++ (tM (rd_T27 L (i : Int)) ++ (⟨#[10]⟩ : ByteArray))
def bM (L : List S27) : Nat → Int
  | 0 => 0
  | i + 1 => if bM L i = 0 then chkS (rd_T27 L (i : Int)) else bM L i
theorem tM_size (x : S27) : (tM x).size ≤ 6014 := by
  unfold tM
  split
  · rename_i h
    split
    · rw [nums_size]; exact lnN_len x ((litB_iff x).1 h)
    · exact Nat.zero_le _
  · exact Nat.zero_le _
theorem wM_size (L : List S27) : ∀ i, (wM L i).size ≤ 6015 * i
  | 0 => Nat.zero_le _
  | i + 1 => by
    have h1 := wM_size L i
    have h2 := tM_size (rd_T27 L (i : Int))
    have h3 : (⟨#[10]⟩ : ByteArray).size = 1 := rfl
    simp only [wM, ByteArray.size_append, h3]
    omega
theorem firstE_snoc (a : List S27) (x : S27) : firstE (a ++ [x]) = if firstE a = 0 then chkS x else firstE a := by
  induction a with
  | nil => by_cases h : chkS x = 0 <;> simp [firstE, h]
  | cons y t ih =>
    by_cases h : chkS y = 0
    · simp only [List.cons_append, firstE, if_pos h, ih]
    · simp only [List.cons_append, firstE, if_neg h]
theorem bM_take (L : List S27) : ∀ i, i ≤ L.length → bM L i = firstE (L.take i)
  | 0, _ => rfl
  | i + 1, h => by
    rw [bM, bM_take L i (by omega), List.take_succ_eq_append_getElem (show i < L.length by omega), firstE_snoc, rd_get L i (by omega)]
theorem wM_take (L : List S27) (hl : ∀ x ∈ L, litS x) : ∀ i, i ≤ L.length → firstE (L.take i) = 0 → wM L i = strOfNums (linesN (L.take i))
  | 0, _, _ => rfl
  | i + 1, h, he => by
    have hlt : i < L.length := by omega
    rw [List.take_succ_eq_append_getElem hlt, firstE_snoc] at he
    have h0 : firstE (L.take i) = 0 := by
      by_cases h0 : firstE (L.take i) = 0
      · exact h0
      · rw [if_neg h0] at he; exact he
    rw [if_pos h0] at he
    rw [wM, wM_take L hl i (by omega) h0, linesN_take L i hlt, sn_append, sn_append, rd_get L i hlt, tM, if_pos ((litB_iff _).2 (hl _ (List.getElem_mem hlt))), if_pos he]
    rfl
theorem lines_ok (L : List S27) (hL : L.length ≤ 40) (hl : ∀ x ∈ L, litS x) : item_Lines.f 41 L = some (if bM L L.length = 0 then wM L L.length else ⟨#[]⟩, bM L L.length) := by
  rw [lines_f L hL hl 41 (by omega), bM_take L _ (Nat.le_refl _), List.take_length, linesR]
  by_cases h : firstE L = 0
  · rw [if_pos h, if_pos h, wM_take L hl _ (Nat.le_refl _) (by rw [List.take_length]; exact h), List.take_length, h]
  · rw [if_neg h, if_neg h]
theorem light_rd (x : S27) (w : World) : Calls Try.prog 7 #[.agg (cellS x)] w fun e w' => e = .returned (.bool (litB x)) ∧ Below w.heap.size w w' :=
  remoralaw28_light.calls x.f0 x.f1 x.f2 x.f3.f0 x.f3.f1 x.f3.f2 x.f3.f3.f0 x.f3.f3.f1 x.f3.f3.f2 x.f3.f3.f3 x.f3.f3.f4 x.f3.f4 x.f3.f5 x.f3.f6 x.f4 _ w (light_f x.f0 x.f1 x.f2 x.f3.f0 x.f3.f1 x.f3.f2 x.f3.f3.f0 x.f3.f3.f1 x.f3.f3.f2 x.f3.f3.f3 x.f3.f3.f4 x.f3.f4 x.f3.f5 x.f3.f6 x.f4)
theorem line_rd (x : S27) (hx : litB x = true) (w : World) : Calls Try.prog 9 #[.agg (cellS x)] w fun e w' => e = .returned (.tuple #[.string (tM x), .int .i64 (chkS x)]) ∧ Below w.heap.size w w' := by
  refine item_Line.calls x.f0 x.f1 x.f2 x.f3.f0 x.f3.f1 x.f3.f2 x.f3.f3.f0 x.f3.f3.f1 x.f3.f3.f2 x.f3.f3.f3 x.f3.f3.f4 x.f3.f4 x.f3.f5 x.f3.f6 x.f4 _ _ w ?_
  rw [lineS_f x ((litB_iff x).1 hx), tM, if_pos hx]
  by_cases h : chkS x = 0
  · rw [if_pos h, if_pos h, h]
  · rw [if_neg h, if_neg h]
theorem itemMany_law (w : World) (A0 : Option Addr) (c0 : Nat) (x0 : List S27) (hC : Kd.C k27 w A0 x0.length x0) (hL : x0.length ≤ c0) (hw : ∃ n, x0.length < n ∧ ∀ a ∈ x0, wf27 n a) :
    Calls Try.prog 5 #[.slice A0 x0.length c0] w fun e w' => e = .returned (.bool true) ∧ Below w.heap.size w w' := by
  have hall : (∀ i, i < x0.length → litB (rd_T27 x0 (i : Int)) = true) → ∀ x ∈ x0, litS x := fun h x hx => by
    obtain ⟨i, hi, rfl⟩ := List.getElem_of_mem hx
    have := h i hi
    rw [rd_get x0 i hi] at this
    exact (litB_iff _).1 this
  refine itemMany_walk A0 x0.length c0 w (fun i => cellS (rd_T27 x0 (i : Int))) (fun i => rfl) (fun i => by simp [cellS, Value.oneCell']) ?_ (fun i => litB (rd_T27 x0 (i : Int))) (fun i => tM (rd_T27 x0 (i : Int))) (fun i => chkS (rd_T27 x0 (i : Int))) (fun _ i _ w_ => light_rd _ w_) (fun _ i _ h w_ => line_rd _ h w_) (wM x0) (bM x0) rfl rfl (fun _ => rfl) (fun _ => rfl) ?_ ?_ _ rfl ?_ ?_ (fun w_ => remoralaw28_awake.calls true w_ awake_f28)
  · intro h40 i hi
    obtain ⟨ad, cs, e, _, hK, hel⟩ := elt_of_C hC z27 (i : Int) (by omega) (by omega)
    have := k27_open hK
    rw [this] at hel
    exact ⟨ad, e, hel⟩
  · intro h40 i hi
    have := tM_size (rd_T27 x0 (i : Int))
    show (tM (rd_T27 x0 (i : Int))).size + 1 ≤ _
    omega
  · intro h40 i hi
    have := tM_size (rd_T27 x0 (i : Int))
    have := wM_size x0 i
    show (wM x0 i).size + ((tM (rd_T27 x0 (i : Int))).size + 1) ≤ _
    omega
  · intro h40 h w_ hb
    exact item_Lines.calls 41 A0 c0 x0 _ _ w_ (Kd.C_below hC hb) hL (lines_ok x0 h40 (hall h))
  · intro h40 h w_ hb
    exact remoraref28_Lines.calls 41 A0 c0 x0 _ _ w_ (Kd.C_below hC hb) hL (by rw [rlines_f]; exact lines_ok x0 h40 (hall h))
end Go.Proofs.Ytljpcmpjfklloaa.PA
namespace Go.Proofs.Ytljpcmpjfklloaa.itemManyRow
open Go.ChangeShapes Go.WideShapes Go.ChangeAt Go.RowKit Go.Proofs.Ytljpcmpjfklloaa.PA Go.Proofs.YtljpcmpjfklloaaW.PrintWords Go.Proofs.YtljpcmpjfklloaaW.PrintLast Go.Proofs.YtljpcmpjfklloaaW.PrintMore
open Go.ChangeMaps (open_string shut_string)
theorem own : ownKnob Try.prog.godebug = none := by kernel_rfl
theorem laidOut : laidOutB Try.prog = true := by kernel_rfl
set_option maxHeartbeats 1000000 in
set_option maxRecDepth 100000 in
theorem lifted (os : Os) (started : os.Started) (H : Type) (enc : TypeId × Value → H) :
    ReturnsInHanded {} Try.checked os 5 .any (Rows.itemManySpec.pre6 enc Try.prog Try.f5 Rows.itemManyRow.domain false) (Rows.itemManySpec.post enc Try.prog Try.f5 false true false false) := by
  refine returnsInHanded_of_change_sized (C := Try.checked) own started (by kernel_rfl) Try.func5
    (ChangeSpec.witness6 (enc := enc) (C := Try.checked) false ⟨#[], #[.slice none 0 0], []⟩ 8 (by kernel_rfl) (by kernel_rfl) (by kernel_rfl) (by kernel_rfl)) ?_
  intro W base args ds gs before hval0 hW hcnd hsz0 _
  have hval : ∀ (j : Nat) t v, Try.f5.params[j]? = some t → args[j]? = some v → Value.okWide Try.prog W .any base t v := hval0
  have hW' := hW
  obtain ⟨p, q, hA0, hV, rfl, hfz, hnd⟩ := hW
  have hA : DataW.TrodAll enc Try.prog W 0 (fun _ => true) true Try.f5.params.toList args.toList ds p := hA0
  rw [Try.params5] at hA hval
  obtain ⟨v0, vs0, d0, ds0, p0, q0, hargs, rfl, rfl, h0, r0⟩ := trodAll_cons hA
  obtain ⟨rfl, rfl, rfl⟩ := trodAll_nil r0
  obtain rfl : args = #[v0] := by cases args; simp_all
  obtain ⟨rfl, rfl⟩ := trodVars_none hV
  obtain ⟨A0, l0, c0, rfl⟩ := okWide_slice Try.underlying34 (hval 0 34 v0 rfl rfl)
  have k0 := h0
  have lt0 : ∀ x ∈ p0, x.block < W.heap.size := by obtain ⟨m, hm⟩ := k0; exact DataW.trod_lt m _ _ _ hm
  obtain ⟨fu0, hf0⟩ := h0
  obtain ⟨x0, hk0, hw0⟩ := (show Opn Try.prog 34 (Kd.slice 27 k27) (fun n x => x.length < n ∧ ∀ a ∈ x, wf27 n a) from (opn_slice Try.underlying34 (by kernel_rfl) opn27)).op enc W 0 _ true fu0 _ _ hf0
  obtain ⟨A_, c_, e0, hL0, hC0⟩ := hk0
  simp only [Value.cells, Array.toList, List.cons.injEq, Value.slice.injEq, and_true] at e0
  obtain ⟨rfl, rfl, rfl⟩ := e0
  refine (itemMany_law W A0 c0 x0 hC0 hL0 ⟨Rows.uptoBulk d0, hw0⟩).mono fun e W' ⟨he, bel⟩ => ?_
  subst he
  exact ⟨_, rfl, _, _, _, [], _, [], hW', trodAll_mk1 (shut_bool Try.underlying4 _), (trodAll_cons_mk (Below.trod laidOut (by kernel_rfl) (of_decide_eq_true (by kernel_rfl)) k0 bel lt0) trodAll_mk0), rfl, bel.frame _, fun h => by cases h⟩
theorem over : Rows.itemManyRow.holds Try.pinned (OpenSpec.ofChange Rows.itemManySpec) :=
  OpenClaim.holds_of_wide 5 Try.f5 rfl rfl rfl rfl rfl rfl rfl ⟨rfl, rfl, rfl, rfl, rfl⟩ rfl rfl rfl rfl rfl (by kernel_rfl) Try.func5 (by kernel_rfl)
    (of_decide_eq_true (by kernel_rfl)) (by unfold Func.isWrapper; first | (rw [if_pos (by decide +kernel)]; kernel_rfl) | (rw [if_neg (by decide +kernel)]; exact ⟨rfl, rfl⟩))
    (fun os started H enc _ => lifted os started H enc)
theorem proved : Rows.ItemManySaid := over
#print axioms proved
end Go.Proofs.Ytljpcmpjfklloaa.itemManyRow
namespace Go.Proofs.Ytljpcmpjfklloaa
/-- The row, under a short name, for the claim. -/
theorem itemMany_holds : Rows.ItemManySaid := itemManyRow.proved
end Go.Proofs.Ytljpcmpjfklloaa
namespace Go.Proofs.Ytljpcmpjfklloaa.PA
end Go.Proofs.Ytljpcmpjfklloaa.PA
