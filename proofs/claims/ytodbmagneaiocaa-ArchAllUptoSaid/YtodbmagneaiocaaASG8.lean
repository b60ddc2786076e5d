/- arch.Since as a printed contract. -/
import Derived.BigQuiet
import Derived.Deep.QuietTactic
import Derived.Great.BuildSlice
import Derived.Laws.NewBlocks
import Derived.Lib.QuietBelow
import Derived.Outline
import Derived.Shelf.Abstract
import Derived.Test.YtodbmagneaiocaaASG7
import Derived.Test.YtodbmagneaiocaaASG1
import Derived.Test.YtodbmagneaiocaaASG5
import Derived.Test.YtodbmagneaiocaaASG3
import Derived.Test.YtodbmagneaiocaaASG4
namespace Go.Proofs.Ytodbmagneaiocaa.PA
open Go.RowKit Go.Proofs.YtodbmagneaiocaaW.PrintWords Go.Proofs.YtodbmagneaiocaaW.PrintLast Go.Proofs.YtodbmagneaiocaaW.PrintMore
attribute [local go_sem] max2_int min2_int max_two min_two max_three min_three max_four min_four
set_option linter.unusedVariables false
set_option linter.unusedSimpArgs false
open Go Go.Shelf Go.Lib Go.Sort
def arch_both_h.T2 : Bool × List (List Nat × List Nat) := (true, [([], []), ([], []), ([], []), ([1, 2], [1, 2]), ([], []), ([], []), ([4, 5], [4, 5]), ([0, 3, 6], [0, 3, 6])])
def arch_both_h.B2 : List Nat := [0, 0, 0, 6, 0, 0, 48, 127]
theorem arch_both_h.tab2 : rtab .any (opsOf Try.f21 2) = arch_both_h.T2 := by kernel_rfl
theorem arch_both_h.bits2 : waitsOk arch_both_h.T2.2 arch_both_h.B2 = true := by kernel_rfl
theorem bothL_nil : bothL [] [] = [] := by rw [bothL]
theorem bothL_a (x : S43) (a : List S43) : bothL (x :: a) [] = (some x, none) :: bothL a [] := by rw [bothL]
theorem bothL_b (y : S43) (b : List S43) : bothL [] (y :: b) = (none, some y) :: bothL [] b := by rw [bothL]
theorem bothL_two (x y : S43) (a b : List S43) : bothL (x :: a) (y :: b) = if ltS x y = true then (some x, none) :: bothL a (y :: b) else if x.f0 ≠ y.f0 then (none, some y) :: bothL (x :: a) b else (some x, some y) :: bothL a b := by rw [bothL]
theorem before_lt (x y : S43) (hx : x.f0.size ≤ 1048576) (hy : y.f0.size ≤ 1048576) (w : World) : Calls Try.prog 30 #[.string x.f0, .string y.f0] w fun e w' => e = .returned (.bool (ltS x y)) ∧ Below w.heap.size w w' :=
 arch_before.calls 2000000 x.f0 y.f0 (ltS x y) w (by
  unfold arch_before.f
  rw [less_f x.f0 y.f0 hx hy 2000000 (by omega), Option.bind_some]
  rfl)
set_option maxHeartbeats 16000000 in
set_option maxRecDepth 100000 in
theorem both_call (a b : List S43) (Aa Ab : Option Addr) (ca cb : Nat) (w : World) (cl : Nat) (cap : Array Value) (eg : ∀ args w, (callFunc cl args).run Try.prog w = .ok (.enter cl args) w) (J : World → List (Option S43 × Option S43) → Prop)
  (h0 : J w []) (hJS : ∀ W W2 E, J W E → Below W.heap.size W W2 → J W2 E) (bs : Nat) (oka okb : Nat → Prop) (hJa : ∀ W E, J W E → Kd.R k43 43 W bs oka (.slice Aa a.length ca) a) (hJb : ∀ W E, J W E → Kd.R k43 43 W bs okb (.slice Ab b.length cb) b)
  (hla : a.length < 1000000000) (hlb : b.length < 1000000000) (hza : ∀ x ∈ a, x.f0.size ≤ 1048576) (hzb : ∀ x ∈ b, x.f0.size ≤ 1048576)
  (hcl : ∀ W E x y p q, J W E → (x ≠ none ∨ y ≠ none) → E.length ≤ 2000000000 → (pathE (x, y)).size ≤ 1048576 → EP W p x → EP W q y → Calls Try.prog cl (#[.pointer p, .pointer q] ++ cap) W fun e W' => e = .returned (.tuple #[]) ∧ J W' (E ++ [(x, y)])) :
  Calls Try.prog 21 #[.slice Aa a.length ca, .slice Ab b.length cb, .func (.func 23) #[] #[], .func (.func cl) #[] cap] w fun e w' => e = .returned (.tuple #[]) ∧ J w' (bothL a b) := by
 have mixed : Try.prog.follows .mixedOrders = true := by kernel_rfl
 have hu := Try.underlying43
 have HJ := Aside0.mk h0
 have HJS := Aside0.mk hJS
 have HJa := Aside0.mk hJa
 have HJb := Aside0.mk hJb
 have HLa := Aside0.mk hla
 have HLb := Aside0.mk hlb
 have HZa := Aside0.mk hza
 have HZb := Aside0.mk hzb
 have HCL := Aside0.mk hcl
 clear h0 hJS hJa hJb hla hlb hza hzb hcl
 go_enter Try.func21, Try.ntmps21
 go_wp2
 go_loopw [8, 9] (fun v8 v9 wr => ∃ (i k : Nat) (E : List (Option S43 × Option S43)), v8 = .int .i64 (i : Int) ∧ v9 = .int .i64 (k : Int) ∧ Aside0 (i ≤ a.length ∧ k ≤ b.length) ∧ Aside0 (E ++ bothL (a.drop i) (b.drop k) = bothL a b ∧ E.length ≤ i + k) ∧ Aside0 (J wr E)) (fun v8 v9 _ => (a.length - (intOf v8).toNat) + (b.length - (intOf v9).toNat))
 case atStart => exact ⟨0, 0, [], rfl, rfl, ⟨Nat.zero_le _, Nat.zero_le _⟩, ⟨rfl, Nat.le_refl _⟩, HJ⟩
 case round =>
  clear HJ
  obtain ⟨i, k, E, rfl, rfl, HI, HE0, HJ⟩ := hrel
  have HE : Aside0 (E ++ bothL (a.drop i) (b.drop k) = bothL a b ∧ E.length ≤ 2000000000) := ⟨HE0.out.1, by have := HE0.out.2; have := HI.out; have := HLa.out; have := HLb.out; omega⟩
  have HW1 := Aside0.mk (wrapE i (by have := HI.out; have := HLa.out; omega))
  have HW2 := Aside0.mk (wrapE k (by have := HI.out; have := HLb.out; omega))
  by_cases hi : i < a.length
  ·have d1 : decide ((i : Int) < (a.length : Int)) = true := decide_eq_true (by omega)
   have d1' : decide (i < a.length) = true := decide_eq_true hi
   have d2 : ((i : Int) == (a.length : Int)) = false := beq_eq_false_iff_ne.mpr (by omega)
   have d2' : (i == a.length) = false := beq_eq_false_iff_ne.mpr (by omega)
   obtain ⟨ga, ca_, ea, _, _, _, _⟩ := Kd.R_form (HJa.out wr _ HJ.out) (by omega)
   injection ea with e1 e2 e3
   subst e1
   subst e3
   clear e2
   obtain ⟨x, hx⟩ : ∃ x, rd_T43 a (i : Int) = x := ⟨_, rfl⟩
   have hxe : a[i] = x := by rw [← hx, rdE_get a i (by omega)]
   obtain ⟨cx, _, hMx, hcx, _⟩ := Kd.R_elem (HJa.out wr _ HJ.out) z43 (i : Int) (by omega) (by omega)
   obtain rfl := k43_openM hMx
   rw [Int.toNat_natCast] at hcx
   replace hcx : ∀ j u, (entA (rd_T43 a (i : Int)))[j]? = some u → wr.cell? ⟨ga, i * 11 + j, none⟩ = some u := hcx
   rw [hx] at hcx
   have HCx := Aside0.mk hcx
   have HDx := Aside0.mk (show a.drop i = x :: a.drop (i + 1) from by rw [List.drop_eq_getElem_cons (by omega), hxe])
   have HSx := Aside0.mk (HZa.out x (hxe ▸ List.getElem_mem (by omega)))
   clear hMx hcx hx hxe
   have px1 : (0 ≤ (i : Int)) = True := eq_true (by omega)
   have px2 : ((i : Int) < (a.length : Int)) = True := eq_true (by omega)
   by_cases hk : k < b.length
   ·have d3 : decide ((k : Int) < (b.length : Int)) = true := decide_eq_true (by omega)
    have d4 : ((k : Int) == (b.length : Int)) = false := beq_eq_false_iff_ne.mpr (by omega)
    have d4' : (k == b.length) = false := beq_eq_false_iff_ne.mpr (by omega)
    obtain ⟨gb, cb_, eb, _, _, _, _⟩ := Kd.R_form (HJb.out wr _ HJ.out) (by omega)
    injection eb with e1 e2 e3
    subst e1
    subst e3
    clear e2
    obtain ⟨y, hy⟩ : ∃ y, rd_T43 b (k : Int) = y := ⟨_, rfl⟩
    have hye : b[k] = y := by rw [← hy, rdE_get b k (by omega)]
    obtain ⟨cy, _, hMy, hcy, _⟩ := Kd.R_elem (HJb.out wr _ HJ.out) z43 (k : Int) (by omega) (by omega)
    obtain rfl := k43_openM hMy
    rw [Int.toNat_natCast] at hcy
    replace hcy : ∀ j u, (entA (rd_T43 b (k : Int)))[j]? = some u → wr.cell? ⟨gb, k * 11 + j, none⟩ = some u := hcy
    rw [hy] at hcy
    have HCy := Aside0.mk hcy
    have HDy := Aside0.mk (show b.drop k = y :: b.drop (k + 1) from by rw [List.drop_eq_getElem_cons (by omega), hye])
    have HSy := Aside0.mk (HZb.out y (hye ▸ List.getElem_mem (by omega)))
    clear hMy hcy hy hye
    have py1 : (0 ≤ (k : Int)) = True := eq_true (by omega)
    have py2 : ((k : Int) < (b.length : Int)) = True := eq_true (by omega)
    have HBq := Aside0.mk (bothL_two x y (a.drop (i + 1)) (b.drop (k + 1)))
    have HIK := Aside0.mk (And.intro hi hk)
    clear hi hk
    have qx_0 : ∀ q' os', (grow (redrawn wr q') os').cell? ⟨ga, i * 11, none⟩ = some (.string x.f0) := fun q' os' => cell_regrown (HCx.out 0 _ rfl) q' os'
    have qx_1 : ∀ q' os', (grow (redrawn wr q') os').cell? ⟨ga, i * 11 + 1, none⟩ = some (.int .i64 x.f1) := fun q' os' => cell_regrown (HCx.out 1 _ rfl) q' os'
    have qx_2 : ∀ q' os', (grow (redrawn wr q') os').cell? ⟨ga, i * 11 + 2, none⟩ = some (.int .i64 x.f2) := fun q' os' => cell_regrown (HCx.out 2 _ rfl) q' os'
    have qx_3 : ∀ q' os', (grow (redrawn wr q') os').cell? ⟨ga, i * 11 + 3, none⟩ = some (.int .i64 x.f3.f0) := fun q' os' => cell_regrown (HCx.out 3 _ rfl) q' os'
    have qx_4 : ∀ q' os', (grow (redrawn wr q') os').cell? ⟨ga, i * 11 + 4, none⟩ = some (.int .i64 x.f3.f1) := fun q' os' => cell_regrown (HCx.out 4 _ rfl) q' os'
    have qx_5 : ∀ q' os', (grow (redrawn wr q') os').cell? ⟨ga, i * 11 + 5, none⟩ = some (.int .i64 x.f3.f2) := fun q' os' => cell_regrown (HCx.out 5 _ rfl) q' os'
    have qx_6 : ∀ q' os', (grow (redrawn wr q') os').cell? ⟨ga, i * 11 + 6, none⟩ = some (.int .i64 x.f3.f3) := fun q' os' => cell_regrown (HCx.out 6 _ rfl) q' os'
    have qx_7 : ∀ q' os', (grow (redrawn wr q') os').cell? ⟨ga, i * 11 + 7, none⟩ = some (.int .i64 x.f3.f4) := fun q' os' => cell_regrown (HCx.out 7 _ rfl) q' os'
    have qx_8 : ∀ q' os', (grow (redrawn wr q') os').cell? ⟨ga, i * 11 + 8, none⟩ = some (.string x.f4) := fun q' os' => cell_regrown (HCx.out 8 _ rfl) q' os'
    have qx_9 : ∀ q' os', (grow (redrawn wr q') os').cell? ⟨ga, i * 11 + 9, none⟩ = some (.string x.f5) := fun q' os' => cell_regrown (HCx.out 9 _ rfl) q' os'
    have qx_10 : ∀ q' os', (grow (redrawn wr q') os').cell? ⟨ga, i * 11 + 10, none⟩ = some (.int .i64 x.f6) := fun q' os' => cell_regrown (HCx.out 10 _ rfl) q' os'
    have hPx : ∀ q' os', Calls Try.prog 23 #[.agg #[.string x.f0, .int .i64 x.f1, .int .i64 x.f2, .int .i64 x.f3.f0, .int .i64 x.f3.f1, .int .i64 x.f3.f2, .int .i64 x.f3.f3, .int .i64 x.f3.f4, .string x.f4, .string x.f5, .int .i64 x.f6]] (grow (redrawn wr q') os') fun e w' => e = .returned (.string x.f0) ∧ Below (grow (redrawn wr q') os').heap.size (grow (redrawn wr q') os') w' := fun q' os' => arch_pathOf.calls _ _ _ _ _ _ _ _ _ _ _ _ _ rfl
    have qy_0 : ∀ q' os', (grow (redrawn wr q') os').cell? ⟨gb, k * 11, none⟩ = some (.string y.f0) := fun q' os' => cell_regrown (HCy.out 0 _ rfl) q' os'
    have qy_1 : ∀ q' os', (grow (redrawn wr q') os').cell? ⟨gb, k * 11 + 1, none⟩ = some (.int .i64 y.f1) := fun q' os' => cell_regrown (HCy.out 1 _ rfl) q' os'
    have qy_2 : ∀ q' os', (grow (redrawn wr q') os').cell? ⟨gb, k * 11 + 2, none⟩ = some (.int .i64 y.f2) := fun q' os' => cell_regrown (HCy.out 2 _ rfl) q' os'
    have qy_3 : ∀ q' os', (grow (redrawn wr q') os').cell? ⟨gb, k * 11 + 3, none⟩ = some (.int .i64 y.f3.f0) := fun q' os' => cell_regrown (HCy.out 3 _ rfl) q' os'
    have qy_4 : ∀ q' os', (grow (redrawn wr q') os').cell? ⟨gb, k * 11 + 4, none⟩ = some (.int .i64 y.f3.f1) := fun q' os' => cell_regrown (HCy.out 4 _ rfl) q' os'
    have qy_5 : ∀ q' os', (grow (redrawn wr q') os').cell? ⟨gb, k * 11 + 5, none⟩ = some (.int .i64 y.f3.f2) := fun q' os' => cell_regrown (HCy.out 5 _ rfl) q' os'
    have qy_6 : ∀ q' os', (grow (redrawn wr q') os').cell? ⟨gb, k * 11 + 6, none⟩ = some (.int .i64 y.f3.f3) := fun q' os' => cell_regrown (HCy.out 6 _ rfl) q' os'
    have qy_7 : ∀ q' os', (grow (redrawn wr q') os').cell? ⟨gb, k * 11 + 7, none⟩ = some (.int .i64 y.f3.f4) := fun q' os' => cell_regrown (HCy.out 7 _ rfl) q' os'
    have qy_8 : ∀ q' os', (grow (redrawn wr q') os').cell? ⟨gb, k * 11 + 8, none⟩ = some (.string y.f4) := fun q' os' => cell_regrown (HCy.out 8 _ rfl) q' os'
    have qy_9 : ∀ q' os', (grow (redrawn wr q') os').cell? ⟨gb, k * 11 + 9, none⟩ = some (.string y.f5) := fun q' os' => cell_regrown (HCy.out 9 _ rfl) q' os'
    have qy_10 : ∀ q' os', (grow (redrawn wr q') os').cell? ⟨gb, k * 11 + 10, none⟩ = some (.int .i64 y.f6) := fun q' os' => cell_regrown (HCy.out 10 _ rfl) q' os'
    have hPy : ∀ q' os', Calls Try.prog 23 #[.agg #[.string y.f0, .int .i64 y.f1, .int .i64 y.f2, .int .i64 y.f3.f0, .int .i64 y.f3.f1, .int .i64 y.f3.f2, .int .i64 y.f3.f3, .int .i64 y.f3.f4, .string y.f4, .string y.f5, .int .i64 y.f6]] (grow (redrawn wr q') os') fun e w' => e = .returned (.string y.f0) ∧ Below (grow (redrawn wr q') os').heap.size (grow (redrawn wr q') os') w' := fun q' os' => arch_pathOf.calls _ _ _ _ _ _ _ _ _ _ _ _ _ rfl
    obtain ⟨bb, hbb⟩ : ∃ bb, ltS x y = bb := ⟨_, rfl⟩
    have hBf : ∀ q' os', Calls Try.prog 30 #[.string x.f0, .string y.f0] (grow (redrawn wr q') os') fun e w' => e = .returned (.bool bb) ∧ Below (grow (redrawn wr q') os').heap.size (grow (redrawn wr q') os') w' := fun q' os' => hbb ▸ before_lt x y HSx.out HSy.out _
    cases bb with
    | true =>
     have HEQ := Aside0.mk (show bothL (a.drop i) (b.drop k) = (some x, none) :: bothL (a.drop (i + 1)) (b.drop k) from by rw [HDx.out, HDy.out, HBq.out, if_pos hbb])
     clear hbb
     go_wp2
     refine wp_region_quiet_below (by assumption) (by kernel_rfl) ?_
     repeat (go_big_quiet_step ((first | (go_at_call 23; exact Calls.regrown_of (hPx _ _)) | (go_at_call 23; exact Calls.regrown_of (hPy _ _)) | (go_at_call 30; exact Calls.regrown_of (hBf _ _)))))
     refine wpQuiet_nil ?_
     intro _ hw'
     obtain ⟨⟨dq, osq⟩, hw''⟩ := hw'
     subst hw''
     have hb9 := below_regrown wr dq osq
     generalize grow (redrawn wr dq) osq = w9 at hb9 ⊢
     have HJ9 := Aside0.mk (HJS.out wr w9 _ HJ.out hb9)
     have HW9 := Aside0.mk hb9
     clear hb9
     go_wp2_with (first | (go_at_fn cl; (refine (HCL.out w9 _ (some x) none (some ⟨ga, i * 11, none⟩) none HJ9.out (by simp) HE.out.2 HSx.out ⟨ga, i * 11, rfl, fun j u hj => (HW9.out.cell (World.block_lt_of_cell? wr _ (HCx.out j u hj))).trans (HCx.out j u hj)⟩ rfl).mono ?_); rintro e W8 ⟨rfl, hj⟩; have HJ8 := Aside0.mk hj; clear hj))
     go_roundw
     case rel => exact ⟨i + 1, k, E ++ [_], by rw [HW1.out], rfl, ⟨by have := HI.out; have := HIK.out; omega, by have := HI.out; have := HIK.out; omega⟩, ⟨by rw [List.append_assoc, ← HE.out.1]; congr 1; exact HEQ.out.symm, by rw [List.length_append, List.length_singleton]; have := HE0.out.2; omega⟩, HJ8⟩
     case measure =>
      rw [HW1.out]
      show (a.length - Int.toNat ((i + 1 : Nat) : Int)) + (b.length - Int.toNat ((k : Nat) : Int)) < (a.length - Int.toNat (i : Int)) + (b.length - Int.toNat (k : Int))
      simp only [Int.toNat_natCast]
      have := HI.out
      have := HIK.out
      omega
    | false =>
     by_cases hq : x.f0 = y.f0
     ·have r0 : (x.f0.toList == y.f0.toList) = true := beq_iff_eq.mpr (by rw [hq])
      have r1 : (x.f0.toList != y.f0.toList) = false := bne_eq_false_iff_eq.mpr (by rw [hq])
      have HEQ := Aside0.mk (show bothL (a.drop i) (b.drop k) = (some x, some y) :: bothL (a.drop (i + 1)) (b.drop (k + 1)) from by rw [HDx.out, HDy.out, HBq.out, if_neg (by rw [hbb]; decide), if_neg (fun h => h hq)])
      clear hbb hq
      go_wp2
      refine wp_region_quiet_below (by assumption) (by kernel_rfl) ?_
      repeat (go_big_quiet_step ((first | (go_at_call 23; exact Calls.regrown_of (hPx _ _)) | (go_at_call 23; exact Calls.regrown_of (hPy _ _)) | (go_at_call 30; exact Calls.regrown_of (hBf _ _)))))
      refine wpQuiet_nil ?_
      intro _ hw'
      obtain ⟨⟨dq, osq⟩, hw''⟩ := hw'
      subst hw''
      have hb6 := below_regrown wr dq osq
      generalize grow (redrawn wr dq) osq = w6 at hb6 ⊢
      have HJ6 := Aside0.mk (HJS.out wr w6 _ HJ.out hb6)
      clear HJ
      have HJ := HJ6
      clear HJ6
      have hc_ : ∀ j u, (entA x)[j]? = some u → w6.cell? ⟨ga, i * 11 + j, none⟩ = some u := fun j u hj => (hb6.cell (World.block_lt_of_cell? wr _ (HCx.out j u hj))).trans (HCx.out j u hj)
      clear hPx
      clear qx_0
      clear qx_1
      clear qx_2
      clear qx_3
      clear qx_4
      clear qx_5
      clear qx_6
      clear qx_7
      clear qx_8
      clear qx_9
      clear qx_10
      clear HCx
      have HCx := Aside0.mk hc_
      clear hc_
      have hc_ : ∀ j u, (entA y)[j]? = some u → w6.cell? ⟨gb, k * 11 + j, none⟩ = some u := fun j u hj => (hb6.cell (World.block_lt_of_cell? wr _ (HCy.out j u hj))).trans (HCy.out j u hj)
      clear hPy
      clear qy_0
      clear qy_1
      clear qy_2
      clear qy_3
      clear qy_4
      clear qy_5
      clear qy_6
      clear qy_7
      clear qy_8
      clear qy_9
      clear qy_10
      clear HCy
      have HCy := Aside0.mk hc_
      clear hc_
      clear hBf
      have qx_0 : ∀ q' os', (grow (redrawn w6 q') os').cell? ⟨ga, i * 11, none⟩ = some (.string x.f0) := fun q' os' => cell_regrown (HCx.out 0 _ rfl) q' os'
      have qx_1 : ∀ q' os', (grow (redrawn w6 q') os').cell? ⟨ga, i * 11 + 1, none⟩ = some (.int .i64 x.f1) := fun q' os' => cell_regrown (HCx.out 1 _ rfl) q' os'
      have qx_2 : ∀ q' os', (grow (redrawn w6 q') os').cell? ⟨ga, i * 11 + 2, none⟩ = some (.int .i64 x.f2) := fun q' os' => cell_regrown (HCx.out 2 _ rfl) q' os'
      have qx_3 : ∀ q' os', (grow (redrawn w6 q') os').cell? ⟨ga, i * 11 + 3, none⟩ = some (.int .i64 x.f3.f0) := fun q' os' => cell_regrown (HCx.out 3 _ rfl) q' os'
      have qx_4 : ∀ q' os', (grow (redrawn w6 q') os').cell? ⟨ga, i * 11 + 4, none⟩ = some (.int .i64 x.f3.f1) := fun q' os' => cell_regrown (HCx.out 4 _ rfl) q' os'
      have qx_5 : ∀ q' os', (grow (redrawn w6 q') os').cell? ⟨ga, i * 11 + 5, none⟩ = some (.int .i64 x.f3.f2) := fun q' os' => cell_regrown (HCx.out 5 _ rfl) q' os'
      have qx_6 : ∀ q' os', (grow (redrawn w6 q') os').cell? ⟨ga, i * 11 + 6, none⟩ = some (.int .i64 x.f3.f3) := fun q' os' => cell_regrown (HCx.out 6 _ rfl) q' os'
      have qx_7 : ∀ q' os', (grow (redrawn w6 q') os').cell? ⟨ga, i * 11 + 7, none⟩ = some (.int .i64 x.f3.f4) := fun q' os' => cell_regrown (HCx.out 7 _ rfl) q' os'
      have qx_8 : ∀ q' os', (grow (redrawn w6 q') os').cell? ⟨ga, i * 11 + 8, none⟩ = some (.string x.f4) := fun q' os' => cell_regrown (HCx.out 8 _ rfl) q' os'
      have qx_9 : ∀ q' os', (grow (redrawn w6 q') os').cell? ⟨ga, i * 11 + 9, none⟩ = some (.string x.f5) := fun q' os' => cell_regrown (HCx.out 9 _ rfl) q' os'
      have qx_10 : ∀ q' os', (grow (redrawn w6 q') os').cell? ⟨ga, i * 11 + 10, none⟩ = some (.int .i64 x.f6) := fun q' os' => cell_regrown (HCx.out 10 _ rfl) q' os'
      have hPx : ∀ q' os', Calls Try.prog 23 #[.agg #[.string x.f0, .int .i64 x.f1, .int .i64 x.f2, .int .i64 x.f3.f0, .int .i64 x.f3.f1, .int .i64 x.f3.f2, .int .i64 x.f3.f3, .int .i64 x.f3.f4, .string x.f4, .string x.f5, .int .i64 x.f6]] (grow (redrawn w6 q') os') fun e w' => e = .returned (.string x.f0) ∧ Below (grow (redrawn w6 q') os').heap.size (grow (redrawn w6 q') os') w' := fun q' os' => arch_pathOf.calls _ _ _ _ _ _ _ _ _ _ _ _ _ rfl
      have qy_0 : ∀ q' os', (grow (redrawn w6 q') os').cell? ⟨gb, k * 11, none⟩ = some (.string y.f0) := fun q' os' => cell_regrown (HCy.out 0 _ rfl) q' os'
      have qy_1 : ∀ q' os', (grow (redrawn w6 q') os').cell? ⟨gb, k * 11 + 1, none⟩ = some (.int .i64 y.f1) := fun q' os' => cell_regrown (HCy.out 1 _ rfl) q' os'
      have qy_2 : ∀ q' os', (grow (redrawn w6 q') os').cell? ⟨gb, k * 11 + 2, none⟩ = some (.int .i64 y.f2) := fun q' os' => cell_regrown (HCy.out 2 _ rfl) q' os'
      have qy_3 : ∀ q' os', (grow (redrawn w6 q') os').cell? ⟨gb, k * 11 + 3, none⟩ = some (.int .i64 y.f3.f0) := fun q' os' => cell_regrown (HCy.out 3 _ rfl) q' os'
      have qy_4 : ∀ q' os', (grow (redrawn w6 q') os').cell? ⟨gb, k * 11 + 4, none⟩ = some (.int .i64 y.f3.f1) := fun q' os' => cell_regrown (HCy.out 4 _ rfl) q' os'
      have qy_5 : ∀ q' os', (grow (redrawn w6 q') os').cell? ⟨gb, k * 11 + 5, none⟩ = some (.int .i64 y.f3.f2) := fun q' os' => cell_regrown (HCy.out 5 _ rfl) q' os'
      have qy_6 : ∀ q' os', (grow (redrawn w6 q') os').cell? ⟨gb, k * 11 + 6, none⟩ = some (.int .i64 y.f3.f3) := fun q' os' => cell_regrown (HCy.out 6 _ rfl) q' os'
      have qy_7 : ∀ q' os', (grow (redrawn w6 q') os').cell? ⟨gb, k * 11 + 7, none⟩ = some (.int .i64 y.f3.f4) := fun q' os' => cell_regrown (HCy.out 7 _ rfl) q' os'
      have qy_8 : ∀ q' os', (grow (redrawn w6 q') os').cell? ⟨gb, k * 11 + 8, none⟩ = some (.string y.f4) := fun q' os' => cell_regrown (HCy.out 8 _ rfl) q' os'
      have qy_9 : ∀ q' os', (grow (redrawn w6 q') os').cell? ⟨gb, k * 11 + 9, none⟩ = some (.string y.f5) := fun q' os' => cell_regrown (HCy.out 9 _ rfl) q' os'
      have qy_10 : ∀ q' os', (grow (redrawn w6 q') os').cell? ⟨gb, k * 11 + 10, none⟩ = some (.int .i64 y.f6) := fun q' os' => cell_regrown (HCy.out 10 _ rfl) q' os'
      have hPy : ∀ q' os', Calls Try.prog 23 #[.agg #[.string y.f0, .int .i64 y.f1, .int .i64 y.f2, .int .i64 y.f3.f0, .int .i64 y.f3.f1, .int .i64 y.f3.f2, .int .i64 y.f3.f3, .int .i64 y.f3.f4, .string y.f4, .string y.f5, .int .i64 y.f6]] (grow (redrawn w6 q') os') fun e w' => e = .returned (.string y.f0) ∧ Below (grow (redrawn w6 q') os').heap.size (grow (redrawn w6 q') os') w' := fun q' os' => arch_pathOf.calls _ _ _ _ _ _ _ _ _ _ _ _ _ rfl
      go_wp2
      refine wp_region_quiet_below (by assumption) (by kernel_rfl) ?_
      repeat (go_big_quiet_step ((first | (go_at_call 23; exact Calls.regrown_of (hPx _ _)) | (go_at_call 23; exact Calls.regrown_of (hPy _ _)) | (go_at_call 30; exact Calls.regrown_of (hBf _ _)))))
      refine wpQuiet_nil ?_
      intro _ hw'
      obtain ⟨⟨dq, osq⟩, hw''⟩ := hw'
      subst hw''
      have hb9 := below_regrown w6 dq osq
      generalize grow (redrawn w6 dq) osq = w9 at hb9 ⊢
      have HJ9 := Aside0.mk (HJS.out w6 w9 _ HJ.out hb9)
      have HW9 := Aside0.mk hb9
      clear hb9
      go_wp2
      refine start_ (n := 8) (S := fun _ => True) (ds := [7]) #[false, false, false, false, false, false, false, false] (by kernel_rfl) rfl rfl trivial (fun hHeld => ?_)
      refine with_tabW arch_both_h.tab2 arch_both_h.bits2 (fun HT_ HW_ => ?_)
      have hb7 : Below w9.heap.size w9 w9.drew := below_drew (Below.refl _ _)
      have HJ7 := Aside0.mk (HJS.out _ _ _ HJ9.out hb7)
      have HW7 := Aside0.mk (below_step HW9.out hb7)
      clear hb7
      generalize w9.drew = w7 at HJ7 HW7 hHeld ⊢
      refine pure_ (i := 0) (N := some 20) (v := ?_) (a' := ?_) #[true, false, false, false, false, false, false, false] rfl rfl (any_of HT_.out (by kernel_rfl)) (fun _ _ _ h => h) (Or.inl ⟨by rfl, ?_⟩) ?_ ?_
      rotate_left
      ·intro w'
       go_simp
       with_reducible rfl
      rotate_left
      ·simp only [Act.put, List.setIfInBounds_toArray, List.set_cons_zero, List.set_cons_succ, i64_w, i32_w]
       rfl
      refine pure_ (i := 1) (N := some 21) (v := ?_) (a' := ?_) #[true, true, false, false, false, false, false, false] rfl rfl (any_of HT_.out (by kernel_rfl)) (fun _ _ _ h => h) (Or.inl ⟨by rfl, ?_⟩) ?_ ?_
      rotate_left
      ·intro w'
       go_simp
       with_reducible rfl
      rotate_left
      ·simp only [Act.put, List.setIfInBounds_toArray, List.set_cons_zero, List.set_cons_succ, i64_w, i32_w]
       rfl
      refine pure_ (i := 2) (N := some 22) (v := ?_) (a' := ?_) #[true, true, true, false, false, false, false, false] rfl rfl (any_of HT_.out (by kernel_rfl)) (fun _ _ _ h => h) (Or.inl ⟨by rfl, ?_⟩) ?_ ?_
      rotate_left
      ·intro w'
       go_simp
       with_reducible rfl
      rotate_left
      ·simp only [Act.put, List.setIfInBounds_toArray, List.set_cons_zero, List.set_cons_succ, i64_w, i32_w]
       rfl
      refine pure_ (i := 3) (N := some 23) (v := ?_) (a' := ?_) #[true, true, true, true, false, false, false, false] rfl rfl (any_of HT_.out (by kernel_rfl)) (fun _ _ _ h => h) (Or.inl ⟨by rfl, ?_⟩) ?_ ?_
      rotate_left
      ·intro w'
       go_simp
       with_reducible rfl
      rotate_left
      ·simp only [Act.put, List.setIfInBounds_toArray, List.set_cons_zero, List.set_cons_succ, i64_w, i32_w]
       rfl
      refine pure_ (i := 4) (N := some 24) (v := ?_) (a' := ?_) #[true, true, true, true, true, false, false, false] rfl rfl (any_of HT_.out (by kernel_rfl)) (fun _ _ _ h => h) (Or.inl ⟨by rfl, ?_⟩) ?_ ?_
      rotate_left
      ·intro w'
       go_simp
       with_reducible rfl
      rotate_left
      ·simp only [Act.put, List.setIfInBounds_toArray, List.set_cons_zero, List.set_cons_succ, i64_w, i32_w]
       rfl
      refine pure_ (i := 5) (N := some 25) (v := ?_) (a' := ?_) #[true, true, true, true, true, true, false, false] rfl rfl (any_of HT_.out (by kernel_rfl)) (fun _ _ _ h => h) (Or.inl ⟨by rfl, ?_⟩) ?_ ?_
      rotate_left
      ·intro w'
       go_simp
       with_reducible rfl
      rotate_left
      ·simp only [Act.put, List.setIfInBounds_toArray, List.set_cons_zero, List.set_cons_succ, i64_w, i32_w]
       rfl
      refine pure_ (i := 6) (N := some 26) (v := ?_) (a' := ?_) #[true, true, true, true, true, true, true, false] rfl rfl (any_of HT_.out (by kernel_rfl)) (fun _ _ _ h => h) (Or.inl ⟨by rfl, ?_⟩) ?_ ?_
      rotate_left
      ·intro w'
       go_simp
       with_reducible rfl
      rotate_left
      ·simp only [Act.put, List.setIfInBounds_toArray, List.set_cons_zero, List.set_cons_succ, i64_w, i32_w]
       rfl
      refine last_ (i := 7) (N := some 27) #[true, true, true, true, true, true, true, true] rfl rfl (one_of HT_.out (by kernel_rfl)) (by decide) (fun K hK => ?_)
      refine call_ cl (#[.pointer (some ⟨ga, i * 11, none⟩), .pointer (some ⟨gb, k * 11, none⟩)] ++ cap) (by rfl) rfl (by first | (go_simp; done) | (go_simp; rfl)) ?_
      refine (HCL.out w7 _ (some x) (some y) (some ⟨ga, i * 11, none⟩) (some ⟨gb, k * 11, none⟩) HJ7.out (by simp) HE.out.2 HSx.out ⟨ga, i * 11, rfl, fun j u hj => (HW7.out.cell (World.block_lt_of_cell? w6 _ (HCx.out j u hj))).trans (HCx.out j u hj)⟩ ⟨gb, k * 11, rfl, fun j u hj => (HW7.out.cell (World.block_lt_of_cell? w6 _ (HCy.out j u hj))).trans (HCy.out j u hj)⟩).mono ?_
      rintro e W8 ⟨rfl, hj⟩
      have HJ8 := Aside0.mk hj
      clear hj
      refine ⟨_, rfl, ?_⟩
      refine hK.out _ _ ?_
      clear hK K
      refine done_ (done_of HT_.out (by kernel_rfl)) ?_
      try go_wp2
      go_roundw
      case rel => exact ⟨i + 1, k + 1, E ++ [_], by rw [HW1.out], by rw [HW2.out], ⟨by have := HI.out; have := HIK.out; omega, by have := HI.out; have := HIK.out; omega⟩, ⟨by rw [List.append_assoc, ← HE.out.1]; congr 1; exact HEQ.out.symm, by rw [List.length_append, List.length_singleton]; have := HE0.out.2; omega⟩, HJ8⟩
      case measure =>
       rw [HW1.out, HW2.out]
       show (a.length - Int.toNat ((i + 1 : Nat) : Int)) + (b.length - Int.toNat ((k + 1 : Nat) : Int)) < (a.length - Int.toNat (i : Int)) + (b.length - Int.toNat (k : Int))
       simp only [Int.toNat_natCast]
       have := HI.out
       have := HIK.out
       omega
     ·have r0 : (x.f0.toList == y.f0.toList) = false := beq_eq_false_iff_ne.mpr (fun e => hq ((tl_eq _ _).1 e))
      have r1 : (x.f0.toList != y.f0.toList) = true := bne_iff_ne.mpr (fun e => hq ((tl_eq _ _).1 e))
      have HEQ := Aside0.mk (show bothL (a.drop i) (b.drop k) = (none, some y) :: bothL (a.drop i) (b.drop (k + 1)) from by rw [HDx.out, HDy.out, HBq.out, if_neg (by rw [hbb]; decide), if_pos hq])
      clear hbb hq
      go_wp2
      refine wp_region_quiet_below (by assumption) (by kernel_rfl) ?_
      repeat (go_big_quiet_step ((first | (go_at_call 23; exact Calls.regrown_of (hPx _ _)) | (go_at_call 23; exact Calls.regrown_of (hPy _ _)) | (go_at_call 30; exact Calls.regrown_of (hBf _ _)))))
      refine wpQuiet_nil ?_
      intro _ hw'
      obtain ⟨⟨dq, osq⟩, hw''⟩ := hw'
      subst hw''
      have hb6 := below_regrown wr dq osq
      generalize grow (redrawn wr dq) osq = w6 at hb6 ⊢
      have HJ6 := Aside0.mk (HJS.out wr w6 _ HJ.out hb6)
      clear HJ
      have HJ := HJ6
      clear HJ6
      have hc_ : ∀ j u, (entA x)[j]? = some u → w6.cell? ⟨ga, i * 11 + j, none⟩ = some u := fun j u hj => (hb6.cell (World.block_lt_of_cell? wr _ (HCx.out j u hj))).trans (HCx.out j u hj)
      clear hPx
      clear qx_0
      clear qx_1
      clear qx_2
      clear qx_3
      clear qx_4
      clear qx_5
      clear qx_6
      clear qx_7
      clear qx_8
      clear qx_9
      clear qx_10
      clear HCx
      have HCx := Aside0.mk hc_
      clear hc_
      have hc_ : ∀ j u, (entA y)[j]? = some u → w6.cell? ⟨gb, k * 11 + j, none⟩ = some u := fun j u hj => (hb6.cell (World.block_lt_of_cell? wr _ (HCy.out j u hj))).trans (HCy.out j u hj)
      clear hPy
      clear qy_0
      clear qy_1
      clear qy_2
      clear qy_3
      clear qy_4
      clear qy_5
      clear qy_6
      clear qy_7
      clear qy_8
      clear qy_9
      clear qy_10
      clear HCy
      have HCy := Aside0.mk hc_
      clear hc_
      clear hBf
      have qx_0 : ∀ q' os', (grow (redrawn w6 q') os').cell? ⟨ga, i * 11, none⟩ = some (.string x.f0) := fun q' os' => cell_regrown (HCx.out 0 _ rfl) q' os'
      have qx_1 : ∀ q' os', (grow (redrawn w6 q') os').cell? ⟨ga, i * 11 + 1, none⟩ = some (.int .i64 x.f1) := fun q' os' => cell_regrown (HCx.out 1 _ rfl) q' os'
      have qx_2 : ∀ q' os', (grow (redrawn w6 q') os').cell? ⟨ga, i * 11 + 2, none⟩ = some (.int .i64 x.f2) := fun q' os' => cell_regrown (HCx.out 2 _ rfl) q' os'
      have qx_3 : ∀ q' os', (grow (redrawn w6 q') os').cell? ⟨ga, i * 11 + 3, none⟩ = some (.int .i64 x.f3.f0) := fun q' os' => cell_regrown (HCx.out 3 _ rfl) q' os'
      have qx_4 : ∀ q' os', (grow (redrawn w6 q') os').cell? ⟨ga, i * 11 + 4, none⟩ = some (.int .i64 x.f3.f1) := fun q' os' => cell_regrown (HCx.out 4 _ rfl) q' os'
      have qx_5 : ∀ q' os', (grow (redrawn w6 q') os').cell? ⟨ga, i * 11 + 5, none⟩ = some (.int .i64 x.f3.f2) := fun q' os' => cell_regrown (HCx.out 5 _ rfl) q' os'
      have qx_6 : ∀ q' os', (grow (redrawn w6 q') os').cell? ⟨ga, i * 11 + 6, none⟩ = some (.int .i64 x.f3.f3) := fun q' os' => cell_regrown (HCx.out 6 _ rfl) q' os'
      have qx_7 : ∀ q' os', (grow (redrawn w6 q') os').cell? ⟨ga, i * 11 + 7, none⟩ = some (.int .i64 x.f3.f4) := fun q' os' => cell_regrown (HCx.out 7 _ rfl) q' os'
      have qx_8 : ∀ q' os', (grow (redrawn w6 q') os').cell? ⟨ga, i * 11 + 8, none⟩ = some (.string x.f4) := fun q' os' => cell_regrown (HCx.out 8 _ rfl) q' os'
      have qx_9 : ∀ q' os', (grow (redrawn w6 q') os').cell? ⟨ga, i * 11 + 9, none⟩ = some (.string x.f5) := fun q' os' => cell_regrown (HCx.out 9 _ rfl) q' os'
      have qx_10 : ∀ q' os', (grow (redrawn w6 q') os').cell? ⟨ga, i * 11 + 10, none⟩ = some (.int .i64 x.f6) := fun q' os' => cell_regrown (HCx.out 10 _ rfl) q' os'
      have hPx : ∀ q' os', Calls Try.prog 23 #[.agg #[.string x.f0, .int .i64 x.f1, .int .i64 x.f2, .int .i64 x.f3.f0, .int .i64 x.f3.f1, .int .i64 x.f3.f2, .int .i64 x.f3.f3, .int .i64 x.f3.f4, .string x.f4, .string x.f5, .int .i64 x.f6]] (grow (redrawn w6 q') os') fun e w' => e = .returned (.string x.f0) ∧ Below (grow (redrawn w6 q') os').heap.size (grow (redrawn w6 q') os') w' := fun q' os' => arch_pathOf.calls _ _ _ _ _ _ _ _ _ _ _ _ _ rfl
      have qy_0 : ∀ q' os', (grow (redrawn w6 q') os').cell? ⟨gb, k * 11, none⟩ = some (.string y.f0) := fun q' os' => cell_regrown (HCy.out 0 _ rfl) q' os'
      have qy_1 : ∀ q' os', (grow (redrawn w6 q') os').cell? ⟨gb, k * 11 + 1, none⟩ = some (.int .i64 y.f1) := fun q' os' => cell_regrown (HCy.out 1 _ rfl) q' os'
      have qy_2 : ∀ q' os', (grow (redrawn w6 q') os').cell? ⟨gb, k * 11 + 2, none⟩ = some (.int .i64 y.f2) := fun q' os' => cell_regrown (HCy.out 2 _ rfl) q' os'
      have qy_3 : ∀ q' os', (grow (redrawn w6 q') os').cell? ⟨gb, k * 11 + 3, none⟩ = some (.int .i64 y.f3.f0) := fun q' os' => cell_regrown (HCy.out 3 _ rfl) q' os'
      have qy_4 : ∀ q' os', (grow (redrawn w6 q') os').cell? ⟨gb, k * 11 + 4, none⟩ = some (.int .i64 y.f3.f1) := fun q' os' => cell_regrown (HCy.out 4 _ rfl) q' os'
      have qy_5 : ∀ q' os', (grow (redrawn w6 q') os').cell? ⟨gb, k * 11 + 5, none⟩ = some (.int .i64 y.f3.f2) := fun q' os' => cell_regrown (HCy.out 5 _ rfl) q' os'
      have qy_6 : ∀ q' os', (grow (redrawn w6 q') os').cell? ⟨gb, k * 11 + 6, none⟩ = some (.int .i64 y.f3.f3) := fun q' os' => cell_regrown (HCy.out 6 _ rfl) q' os'
      have qy_7 : ∀ q' os', (grow (redrawn w6 q') os').cell? ⟨gb, k * 11 + 7, none⟩ = some (.int .i64 y.f3.f4) := fun q' os' => cell_regrown (HCy.out 7 _ rfl) q' os'
      have qy_8 : ∀ q' os', (grow (redrawn w6 q') os').cell? ⟨gb, k * 11 + 8, none⟩ = some (.string y.f4) := fun q' os' => cell_regrown (HCy.out 8 _ rfl) q' os'
      have qy_9 : ∀ q' os', (grow (redrawn w6 q') os').cell? ⟨gb, k * 11 + 9, none⟩ = some (.string y.f5) := fun q' os' => cell_regrown (HCy.out 9 _ rfl) q' os'
      have qy_10 : ∀ q' os', (grow (redrawn w6 q') os').cell? ⟨gb, k * 11 + 10, none⟩ = some (.int .i64 y.f6) := fun q' os' => cell_regrown (HCy.out 10 _ rfl) q' os'
      have hPy : ∀ q' os', Calls Try.prog 23 #[.agg #[.string y.f0, .int .i64 y.f1, .int .i64 y.f2, .int .i64 y.f3.f0, .int .i64 y.f3.f1, .int .i64 y.f3.f2, .int .i64 y.f3.f3, .int .i64 y.f3.f4, .string y.f4, .string y.f5, .int .i64 y.f6]] (grow (redrawn w6 q') os') fun e w' => e = .returned (.string y.f0) ∧ Below (grow (redrawn w6 q') os').heap.size (grow (redrawn w6 q') os') w' := fun q' os' => arch_pathOf.calls _ _ _ _ _ _ _ _ _ _ _ _ _ rfl
      go_wp2
      refine wp_region_quiet_below (by assumption) (by kernel_rfl) ?_
      repeat (go_big_quiet_step ((first | (go_at_call 23; exact Calls.regrown_of (hPx _ _)) | (go_at_call 23; exact Calls.regrown_of (hPy _ _)) | (go_at_call 30; exact Calls.regrown_of (hBf _ _)))))
      refine wpQuiet_nil ?_
      intro _ hw'
      obtain ⟨⟨dq, osq⟩, hw''⟩ := hw'
      subst hw''
      have hb9 := below_regrown w6 dq osq
      generalize grow (redrawn w6 dq) osq = w9 at hb9 ⊢
      have HJ9 := Aside0.mk (HJS.out w6 w9 _ HJ.out hb9)
      have HW9 := Aside0.mk hb9
      clear hb9
      go_wp2_with (first | (go_at_fn cl; (refine (HCL.out w9 _ none (some y) none (some ⟨gb, k * 11, none⟩) HJ9.out (by simp) HE.out.2 HSy.out rfl ⟨gb, k * 11, rfl, fun j u hj => (HW9.out.cell (World.block_lt_of_cell? w6 _ (HCy.out j u hj))).trans (HCy.out j u hj)⟩).mono ?_); rintro e W8 ⟨rfl, hj⟩; have HJ8 := Aside0.mk hj; clear hj))
      go_roundw
      case rel => exact ⟨i, k + 1, E ++ [_], rfl, by rw [HW2.out], ⟨by have := HI.out; have := HIK.out; omega, by have := HI.out; have := HIK.out; omega⟩, ⟨by rw [List.append_assoc, ← HE.out.1]; congr 1; exact HEQ.out.symm, by rw [List.length_append, List.length_singleton]; have := HE0.out.2; omega⟩, HJ8⟩
      case measure =>
       rw [HW2.out]
       show (a.length - Int.toNat ((i : Nat) : Int)) + (b.length - Int.toNat ((k + 1 : Nat) : Int)) < (a.length - Int.toNat (i : Int)) + (b.length - Int.toNat (k : Int))
       simp only [Int.toNat_natCast]
       have := HI.out
       have := HIK.out
       omega
   ·obtain rfl : k = b.length := by have := HI.out; omega
    have HIK := Aside0.mk hi
    have HEQ := Aside0.mk (show bothL (a.drop i) (b.drop b.length) = (some x, none) :: bothL (a.drop (i + 1)) (b.drop b.length) from by rw [HDx.out, show b.drop b.length = [] from List.drop_eq_nil_of_le (by omega), bothL_a])
    clear hi hk
    go_wp2
    refine wp_region_quiet_below (by assumption) (by kernel_rfl) ?_
    repeat (go_big_quiet_step ((first | (go_at_call 23; exact Calls.regrown_of (hPx _ _)) | (go_at_call 23; exact Calls.regrown_of (hPy _ _)) | (go_at_call 30; exact Calls.regrown_of (hBf _ _)))))
    refine wpQuiet_nil ?_
    intro _ hw'
    obtain ⟨⟨dq, osq⟩, hw''⟩ := hw'
    subst hw''
    have hb9 := below_regrown wr dq osq
    generalize grow (redrawn wr dq) osq = w9 at hb9 ⊢
    have HJ9 := Aside0.mk (HJS.out wr w9 _ HJ.out hb9)
    have HW9 := Aside0.mk hb9
    clear hb9
    go_wp2_with (first | (go_at_fn cl; (refine (HCL.out w9 _ (some x) none (some ⟨ga, i * 11, none⟩) none HJ9.out (by simp) HE.out.2 HSx.out ⟨ga, i * 11, rfl, fun j u hj => (HW9.out.cell (World.block_lt_of_cell? wr _ (HCx.out j u hj))).trans (HCx.out j u hj)⟩ rfl).mono ?_); rintro e W8 ⟨rfl, hj⟩; have HJ8 := Aside0.mk hj; clear hj))
    go_roundw
    case rel => exact ⟨i + 1, b.length, E ++ [_], by rw [HW1.out], rfl, ⟨by have := HI.out; have := HIK.out; omega, by have := HI.out; have := HIK.out; omega⟩, ⟨by rw [List.append_assoc, ← HE.out.1]; congr 1; exact HEQ.out.symm, by rw [List.length_append, List.length_singleton]; have := HE0.out.2; omega⟩, HJ8⟩
    case measure =>
     rw [HW1.out]
     show (a.length - Int.toNat ((i + 1 : Nat) : Int)) + (b.length - Int.toNat ((b.length : Nat) : Int)) < (a.length - Int.toNat (i : Int)) + (b.length - Int.toNat (b.length : Int))
     simp only [Int.toNat_natCast]
     have := HI.out
     have := HIK.out
     omega
  ·obtain rfl : i = a.length := by have := HI.out; omega
   by_cases hk : k < b.length
   ·have d3 : decide ((k : Int) < (b.length : Int)) = true := decide_eq_true (by omega)
    have d4 : ((k : Int) == (b.length : Int)) = false := beq_eq_false_iff_ne.mpr (by omega)
    have d4' : (k == b.length) = false := beq_eq_false_iff_ne.mpr (by omega)
    obtain ⟨gb, cb_, eb, _, _, _, _⟩ := Kd.R_form (HJb.out wr _ HJ.out) (by omega)
    injection eb with e1 e2 e3
    subst e1
    subst e3
    clear e2
    obtain ⟨y, hy⟩ : ∃ y, rd_T43 b (k : Int) = y := ⟨_, rfl⟩
    have hye : b[k] = y := by rw [← hy, rdE_get b k (by omega)]
    obtain ⟨cy, _, hMy, hcy, _⟩ := Kd.R_elem (HJb.out wr _ HJ.out) z43 (k : Int) (by omega) (by omega)
    obtain rfl := k43_openM hMy
    rw [Int.toNat_natCast] at hcy
    replace hcy : ∀ j u, (entA (rd_T43 b (k : Int)))[j]? = some u → wr.cell? ⟨gb, k * 11 + j, none⟩ = some u := hcy
    rw [hy] at hcy
    have HCy := Aside0.mk hcy
    have HDy := Aside0.mk (show b.drop k = y :: b.drop (k + 1) from by rw [List.drop_eq_getElem_cons (by omega), hye])
    have HSy := Aside0.mk (HZb.out y (hye ▸ List.getElem_mem (by omega)))
    clear hMy hcy hy hye
    have py1 : (0 ≤ (k : Int)) = True := eq_true (by omega)
    have py2 : ((k : Int) < (b.length : Int)) = True := eq_true (by omega)
    have HIK := Aside0.mk hk
    have HEQ := Aside0.mk (show bothL (a.drop a.length) (b.drop k) = (none, some y) :: bothL (a.drop a.length) (b.drop (k + 1)) from by rw [HDy.out, show a.drop a.length = [] from List.drop_eq_nil_of_le (by omega), bothL_b])
    clear hi hk
    go_wp2
    refine wp_region_quiet_below (by assumption) (by kernel_rfl) ?_
    repeat (go_big_quiet_step ((first | (go_at_call 23; exact Calls.regrown_of (hPx _ _)) | (go_at_call 23; exact Calls.regrown_of (hPy _ _)) | (go_at_call 30; exact Calls.regrown_of (hBf _ _)))))
    refine wpQuiet_nil ?_
    intro _ hw'
    obtain ⟨⟨dq, osq⟩, hw''⟩ := hw'
    subst hw''
    have hb6 := below_regrown wr dq osq
    generalize grow (redrawn wr dq) osq = w6 at hb6 ⊢
    have HJ6 := Aside0.mk (HJS.out wr w6 _ HJ.out hb6)
    clear HJ
    have HJ := HJ6
    clear HJ6
    have hc_ : ∀ j u, (entA y)[j]? = some u → w6.cell? ⟨gb, k * 11 + j, none⟩ = some u := fun j u hj => (hb6.cell (World.block_lt_of_cell? wr _ (HCy.out j u hj))).trans (HCy.out j u hj)
    clear HCy
    have HCy := Aside0.mk hc_
    clear hc_
    go_wp2
    refine wp_region_quiet_below (by assumption) (by kernel_rfl) ?_
    repeat (go_big_quiet_step ((first | (go_at_call 23; exact Calls.regrown_of (hPx _ _)) | (go_at_call 23; exact Calls.regrown_of (hPy _ _)) | (go_at_call 30; exact Calls.regrown_of (hBf _ _)))))
    refine wpQuiet_nil ?_
    intro _ hw'
    obtain ⟨⟨dq, osq⟩, hw''⟩ := hw'
    subst hw''
    have hb9 := below_regrown w6 dq osq
    generalize grow (redrawn w6 dq) osq = w9 at hb9 ⊢
    have HJ9 := Aside0.mk (HJS.out w6 w9 _ HJ.out hb9)
    have HW9 := Aside0.mk hb9
    clear hb9
    go_wp2_with (first | (go_at_fn cl; (refine (HCL.out w9 _ none (some y) none (some ⟨gb, k * 11, none⟩) HJ9.out (by simp) HE.out.2 HSy.out rfl ⟨gb, k * 11, rfl, fun j u hj => (HW9.out.cell (World.block_lt_of_cell? w6 _ (HCy.out j u hj))).trans (HCy.out j u hj)⟩).mono ?_); rintro e W8 ⟨rfl, hj⟩; have HJ8 := Aside0.mk hj; clear hj))
    go_roundw
    case rel => exact ⟨a.length, k + 1, E ++ [_], rfl, by rw [HW2.out], ⟨by have := HI.out; have := HIK.out; omega, by have := HI.out; have := HIK.out; omega⟩, ⟨by rw [List.append_assoc, ← HE.out.1]; congr 1; exact HEQ.out.symm, by rw [List.length_append, List.length_singleton]; have := HE0.out.2; omega⟩, HJ8⟩
    case measure =>
     rw [HW2.out]
     show (a.length - Int.toNat ((a.length : Nat) : Int)) + (b.length - Int.toNat ((k + 1 : Nat) : Int)) < (a.length - Int.toNat (a.length : Int)) + (b.length - Int.toNat (k : Int))
     simp only [Int.toNat_natCast]
     have := HI.out
     have := HIK.out
     omega
   ·obtain rfl : k = b.length := by have := HI.out; omega
    have HEQ := Aside0.mk (show E = bothL a b from by
     have h := HE.out.1
     rwa [List.drop_eq_nil_of_le (by omega), List.drop_eq_nil_of_le (by omega), bothL_nil, List.append_nil] at h)
    clear hi hk
    go_wp2
    go_end0
    exact ⟨rfl, HEQ.out ▸ HJ.out⟩
end Go.Proofs.Ytodbmagneaiocaa.PA
namespace Go.Proofs.Ytodbmagneaiocaa.PA
open Go.RowKit Go.Proofs.YtodbmagneaiocaaW.PrintWords Go.Proofs.YtodbmagneaiocaaW.PrintLast Go.Proofs.YtodbmagneaiocaaW.PrintMore
attribute [local go_sem] max2_int min2_int max_two min_two max_three min_three max_four min_four
set_option linter.unusedVariables false
set_option linter.unusedSimpArgs false
set_option maxHeartbeats 2000000 in
set_option maxRecDepth 100000 in
theorem became_nil (p : Option Addr) (w : World) : Calls Try.prog 25 #[.pointer none, .pointer p] w fun e w' => e = .returned (.int .i64 1) ∧ Below w.heap.size w w' := by
 have HB := Aside0.mk (Below.refl w.heap.size w)
 go_enter Try.func25, Try.ntmps25
 go_wp2
 go_ret
 exact ⟨rfl, HB.out⟩
set_option maxHeartbeats 2000000 in
set_option maxRecDepth 100000 in
theorem became_end (a : Addr) (w : World) : Calls Try.prog 25 #[.pointer (some a), .pointer none] w fun e w' => e = .returned (.int .i64 2) ∧ Below w.heap.size w w' := by
 have HB := Aside0.mk (Below.refl w.heap.size w)
 go_enter Try.func25, Try.ntmps25
 go_wp2
 go_ret
 exact ⟨rfl, HB.out⟩
set_option maxHeartbeats 8000000 in
set_option maxRecDepth 100000 in
theorem became_two (x y : S43) (g1 o1 g2 o2 : Nat) (w : World) (hx : ∀ j u, (entA x)[j]? = some u → w.cell? ⟨g1, o1 + j, none⟩ = some u) (hy : ∀ j u, (entA y)[j]? = some u → w.cell? ⟨g2, o2 + j, none⟩ = some u) :
  Calls Try.prog 25 #[.pointer (some ⟨g1, o1, none⟩), .pointer (some ⟨g2, o2, none⟩)] w fun e w' => e = .returned (.int .i64 (becameI (some x) (some y))) ∧ Below w.heap.size w w' := by
 have hu1 := Try.underlying43
 have hu2 := Try.underlying41
 have hx_0 : w.cell? ⟨g1, o1, none⟩ = some (.string x.f0) := hx 0 _ rfl
 have hy_0 : w.cell? ⟨g2, o2, none⟩ = some (.string y.f0) := hy 0 _ rfl
 have hx_1 : w.cell? ⟨g1, o1 + 1, none⟩ = some (.int .i64 x.f1) := hx 1 _ rfl
 have hy_1 : w.cell? ⟨g2, o2 + 1, none⟩ = some (.int .i64 y.f1) := hy 1 _ rfl
 have hx_2 : w.cell? ⟨g1, o1 + 2, none⟩ = some (.int .i64 x.f2) := hx 2 _ rfl
 have hy_2 : w.cell? ⟨g2, o2 + 2, none⟩ = some (.int .i64 y.f2) := hy 2 _ rfl
 have hx_3 : w.cell? ⟨g1, o1 + 3, none⟩ = some (.int .i64 x.f3.f0) := hx 3 _ rfl
 have hy_3 : w.cell? ⟨g2, o2 + 3, none⟩ = some (.int .i64 y.f3.f0) := hy 3 _ rfl
 have hx_4 : w.cell? ⟨g1, o1 + 4, none⟩ = some (.int .i64 x.f3.f1) := hx 4 _ rfl
 have hy_4 : w.cell? ⟨g2, o2 + 4, none⟩ = some (.int .i64 y.f3.f1) := hy 4 _ rfl
 have hx_5 : w.cell? ⟨g1, o1 + 5, none⟩ = some (.int .i64 x.f3.f2) := hx 5 _ rfl
 have hy_5 : w.cell? ⟨g2, o2 + 5, none⟩ = some (.int .i64 y.f3.f2) := hy 5 _ rfl
 have hx_6 : w.cell? ⟨g1, o1 + 6, none⟩ = some (.int .i64 x.f3.f3) := hx 6 _ rfl
 have hy_6 : w.cell? ⟨g2, o2 + 6, none⟩ = some (.int .i64 y.f3.f3) := hy 6 _ rfl
 have hx_7 : w.cell? ⟨g1, o1 + 7, none⟩ = some (.int .i64 x.f3.f4) := hx 7 _ rfl
 have hy_7 : w.cell? ⟨g2, o2 + 7, none⟩ = some (.int .i64 y.f3.f4) := hy 7 _ rfl
 have hx_8 : w.cell? ⟨g1, o1 + 8, none⟩ = some (.string x.f4) := hx 8 _ rfl
 have hy_8 : w.cell? ⟨g2, o2 + 8, none⟩ = some (.string y.f4) := hy 8 _ rfl
 have hx_9 : w.cell? ⟨g1, o1 + 9, none⟩ = some (.string x.f5) := hx 9 _ rfl
 have hy_9 : w.cell? ⟨g2, o2 + 9, none⟩ = some (.string y.f5) := hy 9 _ rfl
 have hx_10 : w.cell? ⟨g1, o1 + 10, none⟩ = some (.int .i64 x.f6) := hx 10 _ rfl
 have hy_10 : w.cell? ⟨g2, o2 + 10, none⟩ = some (.int .i64 y.f6) := hy 10 _ rfl
 clear hx hy
 have HB := Aside0.mk (Below.refl w.heap.size w)
 by_cases k : x.f1 = y.f1
 ·have k_ := Aside0.mk k
  have ke : (x.f1 == y.f1) = true := beq_iff_eq.mpr (by rw [k])
  have kn : (x.f1 != y.f1) = false := bne_eq_false_iff_eq.mpr (by rw [k])
  clear k
  by_cases f : x.f1 = 1
  ·have f_ := Aside0.mk f
   have fe : (x.f1 == 1) = true := beq_iff_eq.mpr (by rw [f])
   have fn : (x.f1 != 1) = false := bne_eq_false_iff_eq.mpr (by rw [f])
   clear f
   by_cases z : x.f2 = y.f2
   ·have z_ := Aside0.mk z
    have ze : (x.f2 == y.f2) = true := beq_iff_eq.mpr (by rw [z])
    have zn : (x.f2 != y.f2) = false := bne_eq_false_iff_eq.mpr (by rw [z])
    clear z
    by_cases s : x.f5 = y.f5
    ·have s_ := Aside0.mk s
     have se : (x.f5.toList == y.f5.toList) = true := beq_iff_eq.mpr (by rw [s])
     have sn : (x.f5.toList != y.f5.toList) = false := bne_eq_false_iff_eq.mpr (by rw [s])
     clear s
     by_cases l : x.f1 = 3
     ·have l_ := Aside0.mk l
      have le : (x.f1 == 3) = true := beq_iff_eq.mpr (by rw [l])
      have ln : (x.f1 != 3) = false := bne_eq_false_iff_eq.mpr (by rw [l])
      clear l
      exact absurd (f_.out.symm.trans l_.out) (by decide)
     ·have l_ := Aside0.mk l
      have le : (x.f1 == 3) = false := beq_eq_false_iff_ne.mpr l
      have ln : (x.f1 != 3) = true := bne_iff_ne.mpr l
      clear l
      cases m0 : (x.f3.f0 == y.f3.f0) with
      | false =>
       have HR := Aside0.mk (show becameI (some x) (some y) = 4 from by rw [became_eq, if_neg (fun h => by rcases h with h | ⟨_, h | h⟩ | ⟨h, _⟩; exact h k_.out; exact h z_.out; exact h s_.out; exact l_.out h), if_neg (by unfold mEq; simp only [m0, Bool.false_and, Bool.and_false]; decide)])
       go_enter Try.func25, Try.ntmps25
       go_wp2
       try (go_quiet (fail); go_wp2)
       try (go_quiet (fail); go_wp2)
       try (go_quiet (fail); go_wp2)
       try (go_quiet (fail); go_wp2)
       go_ret
       exact ⟨by first | rfl | (rw [HR.out]; rfl), by repeat (first | (with_reducible first | exact HB.out | apply below_alloc | apply pw_below_drewN | apply below_drew1) | exact HB.out)⟩
      | true =>
       cases m1 : (x.f3.f1 == y.f3.f1) with
       | false =>
        have HR := Aside0.mk (show becameI (some x) (some y) = 4 from by rw [became_eq, if_neg (fun h => by rcases h with h | ⟨_, h | h⟩ | ⟨h, _⟩; exact h k_.out; exact h z_.out; exact h s_.out; exact l_.out h), if_neg (by unfold mEq; simp only [m1, Bool.false_and, Bool.and_false]; decide)])
        go_enter Try.func25, Try.ntmps25
        go_wp2
        try (go_quiet (fail); go_wp2)
        try (go_quiet (fail); go_wp2)
        try (go_quiet (fail); go_wp2)
        try (go_quiet (fail); go_wp2)
        go_ret
        exact ⟨by first | rfl | (rw [HR.out]; rfl), by repeat (first | (with_reducible first | exact HB.out | apply below_alloc | apply pw_below_drewN | apply below_drew1) | exact HB.out)⟩
       | true =>
        cases m2 : (x.f3.f2 == y.f3.f2) with
        | false =>
         have HR := Aside0.mk (show becameI (some x) (some y) = 4 from by rw [became_eq, if_neg (fun h => by rcases h with h | ⟨_, h | h⟩ | ⟨h, _⟩; exact h k_.out; exact h z_.out; exact h s_.out; exact l_.out h), if_neg (by unfold mEq; simp only [m2, Bool.false_and, Bool.and_false]; decide)])
         go_enter Try.func25, Try.ntmps25
         go_wp2
         try (go_quiet (fail); go_wp2)
         try (go_quiet (fail); go_wp2)
         try (go_quiet (fail); go_wp2)
         try (go_quiet (fail); go_wp2)
         go_ret
         exact ⟨by first | rfl | (rw [HR.out]; rfl), by repeat (first | (with_reducible first | exact HB.out | apply below_alloc | apply pw_below_drewN | apply below_drew1) | exact HB.out)⟩
        | true =>
         cases m3 : (x.f3.f3 == y.f3.f3) with
         | false =>
          have HR := Aside0.mk (show becameI (some x) (some y) = 4 from by rw [became_eq, if_neg (fun h => by rcases h with h | ⟨_, h | h⟩ | ⟨h, _⟩; exact h k_.out; exact h z_.out; exact h s_.out; exact l_.out h), if_neg (by unfold mEq; simp only [m3, Bool.false_and, Bool.and_false]; decide)])
          go_enter Try.func25, Try.ntmps25
          go_wp2
          try (go_quiet (fail); go_wp2)
          try (go_quiet (fail); go_wp2)
          try (go_quiet (fail); go_wp2)
          try (go_quiet (fail); go_wp2)
          go_ret
          exact ⟨by first | rfl | (rw [HR.out]; rfl), by repeat (first | (with_reducible first | exact HB.out | apply below_alloc | apply pw_below_drewN | apply below_drew1) | exact HB.out)⟩
         | true =>
          cases m4 : (x.f3.f4 == y.f3.f4) with
          | false =>
           have HR := Aside0.mk (show becameI (some x) (some y) = 4 from by rw [became_eq, if_neg (fun h => by rcases h with h | ⟨_, h | h⟩ | ⟨h, _⟩; exact h k_.out; exact h z_.out; exact h s_.out; exact l_.out h), if_neg (by unfold mEq; simp only [m4, Bool.false_and, Bool.and_false]; decide)])
           go_enter Try.func25, Try.ntmps25
           go_wp2
           try (go_quiet (fail); go_wp2)
           try (go_quiet (fail); go_wp2)
           try (go_quiet (fail); go_wp2)
           try (go_quiet (fail); go_wp2)
           go_ret
           exact ⟨by first | rfl | (rw [HR.out]; rfl), by repeat (first | (with_reducible first | exact HB.out | apply below_alloc | apply pw_below_drewN | apply below_drew1) | exact HB.out)⟩
          | true =>
           have HR := Aside0.mk (show becameI (some x) (some y) = 0 from by rw [became_eq, if_neg (fun h => by rcases h with h | ⟨_, h | h⟩ | ⟨h, _⟩; exact h k_.out; exact h z_.out; exact h s_.out; exact l_.out h), if_pos (by unfold mEq; rw [m0, m1, m2, m3, m4]; rfl)])
           go_enter Try.func25, Try.ntmps25
           go_wp2
           try (go_quiet (fail); go_wp2)
           try (go_quiet (fail); go_wp2)
           try (go_quiet (fail); go_wp2)
           try (go_quiet (fail); go_wp2)
           go_ret
           exact ⟨by first | rfl | (rw [HR.out]; rfl), by repeat (first | (with_reducible first | exact HB.out | apply below_alloc | apply pw_below_drewN | apply below_drew1) | exact HB.out)⟩
    ·have s_ := Aside0.mk s
     have se : (x.f5.toList == y.f5.toList) = false := beq_eq_false_iff_ne.mpr (fun e => s ((tl_eq _ _).1 e))
     have sn : (x.f5.toList != y.f5.toList) = true := bne_iff_ne.mpr (fun e => s ((tl_eq _ _).1 e))
     clear s
     have HR := Aside0.mk (show becameI (some x) (some y) = 3 from by rw [became_eq]; exact if_pos (Or.inr (Or.inl ⟨f_.out, Or.inr s_.out⟩)))
     go_enter Try.func25, Try.ntmps25
     go_wp2
     try (go_quiet (fail); go_wp2)
     try (go_quiet (fail); go_wp2)
     try (go_quiet (fail); go_wp2)
     try (go_quiet (fail); go_wp2)
     go_ret
     exact ⟨by first | rfl | (rw [HR.out]; rfl), by repeat (first | (with_reducible first | exact HB.out | apply below_alloc | apply pw_below_drewN | apply below_drew1) | exact HB.out)⟩
   ·have z_ := Aside0.mk z
    have ze : (x.f2 == y.f2) = false := beq_eq_false_iff_ne.mpr z
    have zn : (x.f2 != y.f2) = true := bne_iff_ne.mpr z
    clear z
    have HR := Aside0.mk (show becameI (some x) (some y) = 3 from by rw [became_eq]; exact if_pos (Or.inr (Or.inl ⟨f_.out, Or.inl z_.out⟩)))
    go_enter Try.func25, Try.ntmps25
    go_wp2
    try (go_quiet (fail); go_wp2)
    try (go_quiet (fail); go_wp2)
    try (go_quiet (fail); go_wp2)
    try (go_quiet (fail); go_wp2)
    go_ret
    exact ⟨by first | rfl | (rw [HR.out]; rfl), by repeat (first | (with_reducible first | exact HB.out | apply below_alloc | apply pw_below_drewN | apply below_drew1) | exact HB.out)⟩
  ·have f_ := Aside0.mk f
   have fe : (x.f1 == 1) = false := beq_eq_false_iff_ne.mpr f
   have fn : (x.f1 != 1) = true := bne_iff_ne.mpr f
   clear f
   by_cases l : x.f1 = 3
   ·have l_ := Aside0.mk l
    have le : (x.f1 == 3) = true := beq_iff_eq.mpr (by rw [l])
    have ln : (x.f1 != 3) = false := bne_eq_false_iff_eq.mpr (by rw [l])
    clear l
    by_cases t : x.f4 = y.f4
    ·have t_ := Aside0.mk t
     have te : (x.f4.toList == y.f4.toList) = true := beq_iff_eq.mpr (by rw [t])
     have tn : (x.f4.toList != y.f4.toList) = false := bne_eq_false_iff_eq.mpr (by rw [t])
     clear t
     cases m0 : (x.f3.f0 == y.f3.f0) with
     | false =>
      have HR := Aside0.mk (show becameI (some x) (some y) = 4 from by rw [became_eq, if_neg (fun h => by rcases h with h | ⟨h, _⟩ | ⟨_, h⟩; exact h k_.out; exact f_.out h; exact h t_.out), if_neg (by unfold mEq; simp only [m0, Bool.false_and, Bool.and_false]; decide)])
      go_enter Try.func25, Try.ntmps25
      go_wp2
      try (go_quiet (fail); go_wp2)
      try (go_quiet (fail); go_wp2)
      try (go_quiet (fail); go_wp2)
      try (go_quiet (fail); go_wp2)
      go_ret
      exact ⟨by first | rfl | (rw [HR.out]; rfl), by repeat (first | (with_reducible first | exact HB.out | apply below_alloc | apply pw_below_drewN | apply below_drew1) | exact HB.out)⟩
     | true =>
      cases m1 : (x.f3.f1 == y.f3.f1) with
      | false =>
       have HR := Aside0.mk (show becameI (some x) (some y) = 4 from by rw [became_eq, if_neg (fun h => by rcases h with h | ⟨h, _⟩ | ⟨_, h⟩; exact h k_.out; exact f_.out h; exact h t_.out), if_neg (by unfold mEq; simp only [m1, Bool.false_and, Bool.and_false]; decide)])
       go_enter Try.func25, Try.ntmps25
       go_wp2
       try (go_quiet (fail); go_wp2)
       try (go_quiet (fail); go_wp2)
       try (go_quiet (fail); go_wp2)
       try (go_quiet (fail); go_wp2)
       go_ret
       exact ⟨by first | rfl | (rw [HR.out]; rfl), by repeat (first | (with_reducible first | exact HB.out | apply below_alloc | apply pw_below_drewN | apply below_drew1) | exact HB.out)⟩
      | true =>
       cases m2 : (x.f3.f2 == y.f3.f2) with
       | false =>
        have HR := Aside0.mk (show becameI (some x) (some y) = 4 from by rw [became_eq, if_neg (fun h => by rcases h with h | ⟨h, _⟩ | ⟨_, h⟩; exact h k_.out; exact f_.out h; exact h t_.out), if_neg (by unfold mEq; simp only [m2, Bool.false_and, Bool.and_false]; decide)])
        go_enter Try.func25, Try.ntmps25
        go_wp2
        try (go_quiet (fail); go_wp2)
        try (go_quiet (fail); go_wp2)
        try (go_quiet (fail); go_wp2)
        try (go_quiet (fail); go_wp2)
        go_ret
        exact ⟨by first | rfl | (rw [HR.out]; rfl), by repeat (first | (with_reducible first | exact HB.out | apply below_alloc | apply pw_below_drewN | apply below_drew1) | exact HB.out)⟩
       | true =>
        cases m3 : (x.f3.f3 == y.f3.f3) with
        | false =>
         have HR := Aside0.mk (show becameI (some x) (some y) = 4 from by rw [became_eq, if_neg (fun h => by rcases h with h | ⟨h, _⟩ | ⟨_, h⟩; exact h k_.out; exact f_.out h; exact h t_.out), if_neg (by unfold mEq; simp only [m3, Bool.false_and, Bool.and_false]; decide)])
         go_enter Try.func25, Try.ntmps25
         go_wp2
         try (go_quiet (fail); go_wp2)
         try (go_quiet (fail); go_wp2)
         try (go_quiet (fail); go_wp2)
         try (go_quiet (fail); go_wp2)
         go_ret
         exact ⟨by first | rfl | (rw [HR.out]; rfl), by repeat (first | (with_reducible first | exact HB.out | apply below_alloc | apply pw_below_drewN | apply below_drew1) | exact HB.out)⟩
        | true =>
         cases m4 : (x.f3.f4 == y.f3.f4) with
         | false =>
          have HR := Aside0.mk (show becameI (some x) (some y) = 4 from by rw [became_eq, if_neg (fun h => by rcases h with h | ⟨h, _⟩ | ⟨_, h⟩; exact h k_.out; exact f_.out h; exact h t_.out), if_neg (by unfold mEq; simp only [m4, Bool.false_and, Bool.and_false]; decide)])
          go_enter Try.func25, Try.ntmps25
          go_wp2
          try (go_quiet (fail); go_wp2)
          try (go_quiet (fail); go_wp2)
          try (go_quiet (fail); go_wp2)
          try (go_quiet (fail); go_wp2)
          go_ret
          exact ⟨by first | rfl | (rw [HR.out]; rfl), by repeat (first | (with_reducible first | exact HB.out | apply below_alloc | apply pw_below_drewN | apply below_drew1) | exact HB.out)⟩
         | true =>
          have HR := Aside0.mk (show becameI (some x) (some y) = 0 from by rw [became_eq, if_neg (fun h => by rcases h with h | ⟨h, _⟩ | ⟨_, h⟩; exact h k_.out; exact f_.out h; exact h t_.out), if_pos (by unfold mEq; rw [m0, m1, m2, m3, m4]; rfl)])
          go_enter Try.func25, Try.ntmps25
          go_wp2
          try (go_quiet (fail); go_wp2)
          try (go_quiet (fail); go_wp2)
          try (go_quiet (fail); go_wp2)
          try (go_quiet (fail); go_wp2)
          go_ret
          exact ⟨by first | rfl | (rw [HR.out]; rfl), by repeat (first | (with_reducible first | exact HB.out | apply below_alloc | apply pw_below_drewN | apply below_drew1) | exact HB.out)⟩
    ·have t_ := Aside0.mk t
     have te : (x.f4.toList == y.f4.toList) = false := beq_eq_false_iff_ne.mpr (fun e => t ((tl_eq _ _).1 e))
     have tn : (x.f4.toList != y.f4.toList) = true := bne_iff_ne.mpr (fun e => t ((tl_eq _ _).1 e))
     clear t
     have HR := Aside0.mk (show becameI (some x) (some y) = 3 from by rw [became_eq]; exact if_pos (Or.inr (Or.inr ⟨l_.out, t_.out⟩)))
     go_enter Try.func25, Try.ntmps25
     go_wp2
     try (go_quiet (fail); go_wp2)
     try (go_quiet (fail); go_wp2)
     try (go_quiet (fail); go_wp2)
     try (go_quiet (fail); go_wp2)
     go_ret
     exact ⟨by first | rfl | (rw [HR.out]; rfl), by repeat (first | (with_reducible first | exact HB.out | apply below_alloc | apply pw_below_drewN | apply below_drew1) | exact HB.out)⟩
   ·have l_ := Aside0.mk l
    have le : (x.f1 == 3) = false := beq_eq_false_iff_ne.mpr l
    have ln : (x.f1 != 3) = true := bne_iff_ne.mpr l
    clear l
    cases m0 : (x.f3.f0 == y.f3.f0) with
    | false =>
     have HR := Aside0.mk (show becameI (some x) (some y) = 4 from by rw [became_eq, if_neg (fun h => by rcases h with h | ⟨h, _⟩ | ⟨h, _⟩; exact h k_.out; exact f_.out h; exact l_.out h), if_neg (by unfold mEq; simp only [m0, Bool.false_and, Bool.and_false]; decide)])
     go_enter Try.func25, Try.ntmps25
     go_wp2
     try (go_quiet (fail); go_wp2)
     try (go_quiet (fail); go_wp2)
     try (go_quiet (fail); go_wp2)
     try (go_quiet (fail); go_wp2)
     go_ret
     exact ⟨by first | rfl | (rw [HR.out]; rfl), by repeat (first | (with_reducible first | exact HB.out | apply below_alloc | apply pw_below_drewN | apply below_drew1) | exact HB.out)⟩
    | true =>
     cases m1 : (x.f3.f1 == y.f3.f1) with
     | false =>
      have HR := Aside0.mk (show becameI (some x) (some y) = 4 from by rw [became_eq, if_neg (fun h => by rcases h with h | ⟨h, _⟩ | ⟨h, _⟩; exact h k_.out; exact f_.out h; exact l_.out h), if_neg (by unfold mEq; simp only [m1, Bool.false_and, Bool.and_false]; decide)])
      go_enter Try.func25, Try.ntmps25
      go_wp2
      try (go_quiet (fail); go_wp2)
      try (go_quiet (fail); go_wp2)
      try (go_quiet (fail); go_wp2)
      try (go_quiet (fail); go_wp2)
      go_ret
      exact ⟨by first | rfl | (rw [HR.out]; rfl), by repeat (first | (with_reducible first | exact HB.out | apply below_alloc | apply pw_below_drewN | apply below_drew1) | exact HB.out)⟩
     | true =>
      cases m2 : (x.f3.f2 == y.f3.f2) with
      | false =>
       have HR := Aside0.mk (show becameI (some x) (some y) = 4 from by rw [became_eq, if_neg (fun h => by rcases h with h | ⟨h, _⟩ | ⟨h, _⟩; exact h k_.out; exact f_.out h; exact l_.out h), if_neg (by unfold mEq; simp only [m2, Bool.false_and, Bool.and_false]; decide)])
       go_enter Try.func25, Try.ntmps25
       go_wp2
       try (go_quiet (fail); go_wp2)
       try (go_quiet (fail); go_wp2)
       try (go_quiet (fail); go_wp2)
       try (go_quiet (fail); go_wp2)
       go_ret
       exact ⟨by first | rfl | (rw [HR.out]; rfl), by repeat (first | (with_reducible first | exact HB.out | apply below_alloc | apply pw_below_drewN | apply below_drew1) | exact HB.out)⟩
      | true =>
       cases m3 : (x.f3.f3 == y.f3.f3) with
       | false =>
        have HR := Aside0.mk (show becameI (some x) (some y) = 4 from by rw [became_eq, if_neg (fun h => by rcases h with h | ⟨h, _⟩ | ⟨h, _⟩; exact h k_.out; exact f_.out h; exact l_.out h), if_neg (by unfold mEq; simp only [m3, Bool.false_and, Bool.and_false]; decide)])
        go_enter Try.func25, Try.ntmps25
        go_wp2
        try (go_quiet (fail); go_wp2)
        try (go_quiet (fail); go_wp2)
        try (go_quiet (fail); go_wp2)
        try (go_quiet (fail); go_wp2)
        go_ret
        exact ⟨by first | rfl | (rw [HR.out]; rfl), by repeat (first | (with_reducible first | exact HB.out | apply below_alloc | apply pw_below_drewN | apply below_drew1) | exact HB.out)⟩
       | true =>
        cases m4 : (x.f3.f4 == y.f3.f4) with
        | false =>
         have HR := Aside0.mk (show becameI (some x) (some y) = 4 from by rw [became_eq, if_neg (fun h => by rcases h with h | ⟨h, _⟩ | ⟨h, _⟩; exact h k_.out; exact f_.out h; exact l_.out h), if_neg (by unfold mEq; simp only [m4, Bool.false_and, Bool.and_false]; decide)])
         go_enter Try.func25, Try.ntmps25
         go_wp2
         try (go_quiet (fail); go_wp2)
         try (go_quiet (fail); go_wp2)
         try (go_quiet (fail); go_wp2)
         try (go_quiet (fail); go_wp2)
         go_ret
         exact ⟨by first | rfl | (rw [HR.out]; rfl), by repeat (first | (with_reducible first | exact HB.out | apply below_alloc | apply pw_below_drewN | apply below_drew1) | exact HB.out)⟩
        | true =>
         have HR := Aside0.mk (show becameI (some x) (some y) = 0 from by rw [became_eq, if_neg (fun h => by rcases h with h | ⟨h, _⟩ | ⟨h, _⟩; exact h k_.out; exact f_.out h; exact l_.out h), if_pos (by unfold mEq; rw [m0, m1, m2, m3, m4]; rfl)])
         go_enter Try.func25, Try.ntmps25
         go_wp2
         try (go_quiet (fail); go_wp2)
         try (go_quiet (fail); go_wp2)
         try (go_quiet (fail); go_wp2)
         try (go_quiet (fail); go_wp2)
         go_ret
         exact ⟨by first | rfl | (rw [HR.out]; rfl), by repeat (first | (with_reducible first | exact HB.out | apply below_alloc | apply pw_below_drewN | apply below_drew1) | exact HB.out)⟩
 ·have k_ := Aside0.mk k
  have ke : (x.f1 == y.f1) = false := beq_eq_false_iff_ne.mpr k
  have kn : (x.f1 != y.f1) = true := bne_iff_ne.mpr k
  clear k
  have HR := Aside0.mk (show becameI (some x) (some y) = 3 from by rw [became_eq]; exact if_pos (Or.inl k_.out))
  go_enter Try.func25, Try.ntmps25
  go_wp2
  try (go_quiet (fail); go_wp2)
  try (go_quiet (fail); go_wp2)
  try (go_quiet (fail); go_wp2)
  try (go_quiet (fail); go_wp2)
  go_ret
  exact ⟨by first | rfl | (rw [HR.out]; rfl), by repeat (first | (with_reducible first | exact HB.out | apply below_alloc | apply pw_below_drewN | apply below_drew1) | exact HB.out)⟩
theorem became_call (x y : Option S43) (p q : Option Addr) (w : World) (hx : EP w p x) (hy : EP w q y) : Calls Try.prog 25 #[.pointer p, .pointer q] w fun e w' => e = .returned (.int .i64 (becameI x y)) ∧ Below w.heap.size w w' := by
 cases x with
 | none =>
  cases hx
  exact became_nil q w
 | some x =>
  obtain ⟨g, o, rfl, hx⟩ := hx
  cases y with
  | none =>
   cases hy
   exact became_end _ w
  | some y =>
   obtain ⟨g2, o2, rfl, hy⟩ := hy
   exact became_two x y g o g2 o2 w hx hy
end Go.Proofs.Ytodbmagneaiocaa.PA
namespace Go.Proofs.Ytodbmagneaiocaa.PA
open Go.RowKit Go.Proofs.YtodbmagneaiocaaW.PrintWords Go.Proofs.YtodbmagneaiocaaW.PrintLast Go.Proofs.YtodbmagneaiocaaW.PrintMore
attribute [local go_sem] max2_int min2_int max_two min_two max_three min_three max_four min_four
set_option linter.unusedVariables false
set_option linter.unusedSimpArgs false
def arch_Since1_h.T4 : Bool × List (List Nat × List Nat) := (true, [([], []), ([], []), ([1], [1]), ([2], [2]), ([3], [3]), ([], []), ([4, 5], [4, 5]), ([6], [6]), ([0, 7], [0, 7]), ([8, 8, 0, 1, 2, 3, 4, 5, 6, 7, 8], [8])])
def arch_Since1_h.B4 : List Nat := [0, 0, 2, 6, 14, 0, 62, 126, 255, 511]
theorem arch_Since1_h.tab4 : rtab .any (opsOf Try.f24 4) = arch_Since1_h.T4 := by kernel_rfl
theorem arch_Since1_h.bits4 : waitsOk arch_Since1_h.T4.2 arch_Since1_h.B4 = true := by kernel_rfl
def arch_Since1_h.T1 : Bool × List (List Nat × List Nat) := (true, [([], []), ([], []), ([1], [1]), ([2], [2]), ([3], [3]), ([], []), ([4, 5], [4, 5]), ([6], [6]), ([0, 7], [0, 7]), ([8, 8, 0, 1, 2, 3, 4, 5, 6, 7, 8], [8])])
def arch_Since1_h.B1 : List Nat := [0, 0, 2, 6, 14, 0, 62, 126, 255, 511]
theorem arch_Since1_h.tab1 : rtab .any (opsOf Try.f24 1) = arch_Since1_h.T1 := by kernel_rfl
theorem arch_Since1_h.bits1 : waitsOk arch_Since1_h.T1.2 arch_Since1_h.B1 = true := by kernel_rfl
def arch_Common1_h.T1 : Bool × List (List Nat × List Nat) := (true, [([], []), ([], []), ([1], [1]), ([2], [2]), ([3], [3]), ([0, 4], [0, 4]), ([5, 5, 0, 1, 2, 3, 4, 5], [5])])
def arch_Common1_h.B1 : List Nat := [0, 0, 2, 6, 14, 31, 63]
theorem arch_Common1_h.tab1 : rtab .any (opsOf Try.f27 1) = arch_Common1_h.T1 := by kernel_rfl
theorem arch_Common1_h.bits1 : waitsOk arch_Common1_h.T1.2 arch_Common1_h.B1 = true := by kernel_rfl
def Box1 {α : Type} (d : Kd α) (e TB : Nat) (w w1 W : World) (g : Nat) (l : List α) : Prop :=
 Below w.heap.size w W ∧ KeepBut w1 W g none ∧ ∃ v, W.heap[g]? = some (.cells #[v] TB (0, 0)) ∧ Kd.R d e W w.heap.size (fun k => w1.heap.size ≤ k) v l
theorem Box1.drew {α : Type} {d : Kd α} {e TB g : Nat} {w w1 W : World} {l : List α} (h : Box1 d e TB w w1 W g l) : Box1 d e TB w w1 W.drew g l :=
 ⟨below_drew h.1, h.2.1, h.2.2.elim fun v hv => ⟨v, hv.1, Kd.R_drew hv.2⟩⟩
theorem Box1.drewN {α : Type} {d : Kd α} {e TB g : Nat} {w w1 W : World} {l : List α} (h : Box1 d e TB w w1 W g l) (m : Nat) : Box1 d e TB w w1 (W.drewN m) g l :=
 ⟨pw_below_drewN h.1 m, h.2.1, h.2.2.elim fun v hv => ⟨v, hv.1, Kd.R_drewN hv.2 m⟩⟩
theorem Box1.step {α : Type} {d : Kd α} {e TB g : Nat} {w w1 W W2 : World} {l : List α} (h : Box1 d e TB w w1 W g l) (hg1 : g < w1.heap.size) (hb : Below W.heap.size W W2) : Box1 d e TB w w1 W2 g l :=
 ⟨below_step h.1 hb, h.2.1.trans (KeepBut.of_below hb g none) (.inl rfl), h.2.2.elim fun v hv => ⟨v, blk_below hv.1 hb, Kd.R_below hv.2 hb⟩⟩
theorem EP.step {W W2 : World} {p : Option Addr} {x : Option S43} (h : EP W p x) (hb : Below W.heap.size W W2) : EP W2 p x := by
 cases x with
 | none => exact h
 | some x =>
  obtain ⟨g, o, rfl, hx⟩ := h
  exact ⟨g, o, rfl, fun j u hj => (hb.cell (World.block_lt_of_cell? W _ (hx j u hj))).trans (hx j u hj)⟩
theorem Box1.kept {α : Type} {d : Kd α} {e TB g : Nat} {w w1 W w2 : World} {l : List α} (_h : Box1 d e TB w w1 W g l) (hg1 : g < w1.heap.size) {v : Value} (hv : W.heap[g]? = some (.cells #[v] TB (0, 0))) (hvo : ∀ k, v.ownBlock = some k → w1.heap.size ≤ k) (hgr : W.grownBy w2 v.ownBlock) : w2.heap[g]? = some (.cells #[v] TB (0, 0)) :=
 (hgr.block g (blk_lt hv) (fun e => by have := hvo g e.symm; omega)).trans hv
theorem Box1.put {α : Type} {d : Kd α} {e TB g : Nat} {w w1 W w2 : World} {l l2 : List α} (h : Box1 d e TB w w1 W g l) (hg : w.heap.size ≤ g) (hg1 : g < w1.heap.size) {v v2 : Value} (hv : W.heap[g]? = some (.cells #[v] TB (0, 0))) (hvo : ∀ k, v.ownBlock = some k → w1.heap.size ≤ k)
  (ho : Kd.R d e w2 w.heap.size (fun k => w1.heap.size ≤ k) v2 l2) (hb : Below w.heap.size w w2) (hgr : W.grownBy w2 v.ownBlock) : Box1 d e TB w w1 (w2.setCell ⟨g, 0, none⟩ v2) g l2 := by
 have hk : w2.heap[g]? = some (.cells #[v] TB (0, 0)) := h.kept hg1 hv hvo hgr
 refine ⟨below_set hb hg, KeepBut.set_ ?_ 0 v2, v2, by simpa using blk_set hk 0 v2, Kd.R_step ho (fun k hok hlt => ?_)⟩
 ·refine h.2.1.trans (KeepBut.of_grown hgr g) ?_
  cases hv0 : v.ownBlock with
  | none => exact .inl rfl
  | some k => exact .inr ⟨k, rfl, hvo k hv0⟩
 ·exact Below.heap_setCell w2 ⟨g, 0, none⟩ v2 k (by show k ≠ g; omega)
set_option maxHeartbeats 4000000 in
set_option maxRecDepth 100000 in
theorem since1_some (x : S43) (y : Option S43) (gx ox : Nat) (q : Option Addr) (w w1 W : World) (g : Nat) (l : List S28) (h : Box1 k28 28 25 w w1 W g l) (hg : w.heap.size ≤ g) (hg1 : g < w1.heap.size) (hl : l.length < 1000000000000)
  (hx : ∀ j u, (entA x)[j]? = some u → W.cell? ⟨gx, ox + j, none⟩ = some u) (hy : EP W q y) :
  Calls Try.prog 24 #[.pointer (some ⟨gx, ox, none⟩), .pointer q, .pointer (some ⟨g, 0, none⟩)] W fun e W' => e = .returned (.tuple #[]) ∧ Box1 k28 28 25 w w1 W' g (l ++ sinceE (some x, y)) := by
 have HG := Aside0.mk (And.intro hg hg1)
 have HL := Aside0.mk hl
 have HX := Aside0.mk h
 clear h hg hg1 hl
 have hu := Try.underlying43
 obtain ⟨b, hb⟩ : ∃ b, becameI (some x) y = b := ⟨_, rfl⟩
 have hbc : ∀ W2, Below W.heap.size W W2 → Calls Try.prog 25 #[.pointer (some ⟨gx, ox, none⟩), .pointer q] W2 fun e w' => e = .returned (.int .i64 b) ∧ Below W2.heap.size W2 w' := fun W2 h2 => by
  rw [← hb]
  exact became_call (some x) y _ q W2 (EP.step ⟨gx, ox, rfl, hx⟩ h2) (hy.step h2)
 obtain ⟨nm, hnm⟩ : ∃ nm, x.f0 = nm := ⟨_, rfl⟩
 have hx0 : W.cell? ⟨gx, ox, none⟩ = some (.string nm) := by rw [← hnm]; exact hx 0 _ rfl
 have HX0 := Aside0.mk hx0
 have HN := Aside0.mk (And.intro hb hnm)
 clear hx hy hb hnm hx0
 by_cases h0 : b = 0
 ·have q0 : (b == 0) = true := beq_iff_eq.mpr h0
  have H0 := Aside0.mk (show sinceE (some x, y) = [] from if_pos (HN.out.1.trans h0))
  clear h0
  go_enter Try.func24, Try.ntmps24
  go_wp2_with (first | (go_at_call 25; (with_reducible refine (hbc _ (Below.refl _ _)).mono ?_); rintro e W9 ⟨rfl, hb⟩; have HX9 := Aside0.mk (HX.out.step HG.out.2 hb); have HW9 := Aside0.mk hb; clear HX hb hbc))
  go_end0
  exact ⟨rfl, by rw [H0.out, List.append_nil]; exact HX9.out⟩
 ·have q0 : (b == 0) = false := beq_eq_false_iff_ne.mpr h0
  have H0 := Aside0.mk (show sinceE (some x, y) = [⟨nm, b⟩] from by
   show (if becameI (some x) y = 0 then [] else [(⟨x.f0, becameI (some x) y⟩ : S28)]) = _
   rw [HN.out.1, HN.out.2, if_neg h0])
  clear h0
  go_enter Try.func24, Try.ntmps24
  go_wp2_with (first | (go_at_call 25; (with_reducible refine (hbc _ (Below.refl _ _)).mono ?_); rintro e W9 ⟨rfl, hb⟩; have HX9 := Aside0.mk (HX.out.step HG.out.2 hb); have HW9 := Aside0.mk hb; clear HX hb hbc))
  obtain ⟨v, hv, hr⟩ := HX9.out.2.2; have HR9 := Aside0.mk hr; have HV9 := Aside0.mk hv; have hcg : W9.cell? ⟨g, 0, none⟩ = some v := (blk_cell hv 0).trans rfl; clear hv hr
  have hcx : W9.cell? ⟨gx, ox, none⟩ = some (.string nm) := (HW9.out.cell (World.block_lt_of_cell? W _ HX0.out)).trans HX0.out
  refine start_ (n := 10) (S := fun w' => w'.cell? ⟨g, 0, none⟩ = some v ∧ w'.cell? ⟨gx, ox, none⟩ = some (.string nm)) (ds := [8, 9]) #[false, false, false, false, false, false, false, false, false, false] (by kernel_rfl) rfl rfl ⟨hcg, hcx⟩ (fun hHeld => ?_)
  refine with_tabW arch_Since1_h.tab4 arch_Since1_h.bits4 (fun HT_ HW_ => ?_)
  obtain ⟨W5, hW5⟩ : ∃ W5, W9.drew = W5 := ⟨_, rfl⟩
  rw [hW5] at hHeld ⊢
  have HBX := Aside0.mk (hW5 ▸ HX9.out.drew)
  have HR := Aside0.mk (hW5 ▸ Kd.R_drew HR9.out)
  have HV := Aside0.mk (show W5.heap[g]? = some (.cells #[v] 25 (0, 0)) from hW5 ▸ HV9.out)
  clear HX9 HR9 HV9 hW5 hcg hcx
  refine pure_ (i := 1) (N := some 25) (v := ?_) (a' := ?_) #[false, true, false, false, false, false, false, false, false, false] rfl rfl (any_of HT_.out (by kernel_rfl)) (fun _ _ _ h => h) (Or.inl ⟨by rfl, ?_⟩) ?_ ?_
  rotate_left
  ·intro w'
   go_simp
   with_reducible rfl
  rotate_left
  ·simp only [Act.put, List.setIfInBounds_toArray, List.set_cons_zero, List.set_cons_succ, i64_w, i32_w]
   rfl
  refine pure_ (i := 2) (N := some 26) (v := ?_) (a' := ?_) #[false, true, true, false, false, false, false, false, false, false] rfl rfl (any_of HT_.out (by kernel_rfl)) (fun _ _ _ h => h) (Or.inl ⟨by rfl, ?_⟩) ?_ ?_
  rotate_left
  ·intro w'
   go_simp
   with_reducible rfl
  rotate_left
  ·simp only [Act.put, List.setIfInBounds_toArray, List.set_cons_zero, List.set_cons_succ, i64_w, i32_w]
   rfl
  refine pure_ (i := 3) (N := some 27) (v := ?_) (a' := ?_) #[false, true, true, true, false, false, false, false, false, false] rfl rfl (any_of HT_.out (by kernel_rfl)) (fun _ _ _ h => h) (Or.inl ⟨by rfl, ?_⟩) ?_ ?_
  rotate_left
  ·intro w'
   go_simp
   with_reducible rfl
  rotate_left
  ·simp only [Act.put, List.setIfInBounds_toArray, List.set_cons_zero, List.set_cons_succ, i64_w, i32_w]
   rfl
  refine pure_ (i := 5) (N := some 29) (v := ?_) (a' := ?_) #[false, true, true, true, false, true, false, false, false, false] rfl rfl (any_of HT_.out (by kernel_rfl)) (fun _ _ _ h => h) (Or.inl ⟨by rfl, ?_⟩) ?_ ?_
  rotate_left
  ·intro w'
   go_simp
   with_reducible rfl
  rotate_left
  ·simp only [Act.put, List.setIfInBounds_toArray, List.set_cons_zero, List.set_cons_succ, i64_w, i32_w]
   rfl
  refine take_ (i := 0) (N := some 24) (v := ?_) (a' := ?_) #[true, true, true, true, false, true, false, false, false, false] rfl rfl (take_ofW HT_.out HW_.out (by kernel_rfl)) (fun _ _ _ h => h) (Or.inl ⟨by rfl, ?_⟩) hHeld ?_ ?_
  rotate_left
  ·rintro w' ⟨s0_, s1_⟩
   go_simp
   with_reducible rfl
  rotate_left
  ·simp only [Act.put, List.setIfInBounds_toArray, List.set_cons_zero, List.set_cons_succ, i64_w, i32_w]
   rfl
  refine take_ (i := 4) (N := some 28) (v := ?_) (a' := ?_) #[true, true, true, true, true, true, false, false, false, false] rfl rfl (take_ofW HT_.out HW_.out (by kernel_rfl)) (fun _ _ _ h => h) (Or.inl ⟨by rfl, ?_⟩) hHeld ?_ ?_
  rotate_left
  ·rintro w' ⟨s0_, s1_⟩
   go_simp
   with_reducible rfl
  rotate_left
  ·simp only [Act.put, List.setIfInBounds_toArray, List.set_cons_zero, List.set_cons_succ, i64_w, i32_w]
   rfl
  refine pure_ (i := 6) (N := some 30) (v := ?_) (a' := ?_) #[true, true, true, true, true, true, true, false, false, false] rfl rfl (any_of HT_.out (by kernel_rfl)) (fun _ _ _ h => h) (Or.inl ⟨by rfl, ?_⟩) ?_ ?_
  rotate_left
  ·intro w'
   go_simp
   with_reducible rfl
  rotate_left
  ·simp only [Act.put, List.setIfInBounds_toArray, List.set_cons_zero, List.set_cons_succ, i64_w, i32_w]
   rfl
  refine one_ (i := 7) (N := some 31) #[true, true, true, true, true, true, true, true, false, false] rfl rfl (one_of HT_.out (by kernel_rfl)) (by decide) (fun K hK => ?_)
  refine value_ (w1 := W5.alloc (.cells #[.string nm, .int .i64 b] 28)) (v := .slice (some ⟨W5.heap.size, 0, none⟩) 1 1) (by rfl) rfl (by first | (go_simp; done) | (go_simp; rfl)) ?_
  refine hK.out _ _ ⟨((below_alloc (Below.refl _ _) _).cell (World.block_lt_of_cell? _ _ hHeld.1)).trans hHeld.1, ((below_alloc (Below.refl _ _) _).cell (World.block_lt_of_cell? _ _ hHeld.2)).trans hHeld.2⟩ (fun hHeld => ?_)
  clear hK K
  refine norm_ (a' := ?_) ?_ ?_
  rotate_left
  ·show Act.put _ (some 31) _ = _
   simp only [Act.put, List.setIfInBounds_toArray, List.set_cons_zero, List.set_cons_succ, i64_w, i32_w]
   rfl
  refine last_ (i := 8) (N := some 32) #[true, true, true, true, true, true, true, true, true, false] rfl rfl (one_of HT_.out (by kernel_rfl)) (by decide) (fun K hK => ?_)
  refine Kd.R_append_step k28 (w0 := w) w.heap.size (by rfl) (.tmp 24) (.tmp 31) 25 28 (.agg #[.string ⟨#[]⟩, .int .i64 0]) 24 rfl Try.underlying25 info28 rfl (by decide) (by omega) v l ⟨nm, b⟩ [.string nm, .int .i64 b] (fun k => w1.heap.size ≤ k) (fun _ => False) rfl rfl (k28_mkM _ _ _ (⟨nm, b⟩ : S28)) (fun _ h => h.elim) (fun k hk => Nat.le_trans HBX.out.2.1.1 hk) HR.out HBX.out.1 (below_size HBX.out.1) (by have := HL.out; omega) ?_
  intro v2 w2 ho hb1 hg hat
  obtain ⟨A2, c2, e2⟩ := Kd.R_slice ho
  subst e2
  have HE := Aside0.mk (HBX.out.put HG.out.1 HG.out.2 HV.out HR.out.1 ho hb1 hg)
  have hc2 : w2.cell? ⟨g, 0, none⟩ = some v := (blk_cell (HBX.out.kept HG.out.2 HV.out HR.out.1 hg) 0).trans rfl
  have hf2 := blk_frozen (HBX.out.kept HG.out.2 HV.out HR.out.1 hg) 0
  clear ho hb1 hg hat
  refine hK.out _ _ ?_
  clear hK K
  refine norm_ (a' := ?_) ?_ ?_
  rotate_left
  ·show Act.put _ (some 32) _ = _
   simp only [Act.put, List.setIfInBounds_toArray, List.set_cons_zero, List.set_cons_succ, i64_w, i32_w]
   rfl
  refine last_ (i := 9) (N := none) #[true, true, true, true, true, true, true, true, true, true] rfl rfl (one_of HT_.out (by kernel_rfl)) (by decide) (fun K hK => ?_)
  refine skip_ (w1 := w2.setCell ⟨g, 0, none⟩ (.slice A2 (l ++ [(⟨nm, b⟩ : S28)]).length c2)) (by rfl) rfl (by first | (go_simp; done) | (go_simp; rfl)) ?_
  refine hK.out _ _ ?_
  clear hK K
  refine done_ (done_of HT_.out (by kernel_rfl)) ?_
  try go_wp2
  go_end0
  exact ⟨rfl, by rw [H0.out]; exact HE.out⟩
set_option maxHeartbeats 4000000 in
set_option maxRecDepth 100000 in
theorem since1_none (y : S43) (gx ox : Nat) (w w1 W : World) (g : Nat) (l : List S28) (h : Box1 k28 28 25 w w1 W g l) (hg : w.heap.size ≤ g) (hg1 : g < w1.heap.size) (hl : l.length < 1000000000000)
  (hy : ∀ j u, (entA y)[j]? = some u → W.cell? ⟨gx, ox + j, none⟩ = some u) :
  Calls Try.prog 24 #[.pointer none, .pointer (some ⟨gx, ox, none⟩), .pointer (some ⟨g, 0, none⟩)] W fun e W' => e = .returned (.tuple #[]) ∧ Box1 k28 28 25 w w1 W' g (l ++ sinceE (none, some y)) := by
 have HG := Aside0.mk (And.intro hg hg1)
 have HL := Aside0.mk hl
 have HX := Aside0.mk h
 clear h hg hg1 hl
 have hu := Try.underlying43
 obtain ⟨b, hb⟩ : ∃ b : Int, b = 1 := ⟨_, rfl⟩
 have hbc : ∀ W2, Below W.heap.size W W2 → Calls Try.prog 25 #[.pointer none, .pointer (some ⟨gx, ox, none⟩)] W2 fun e w' => e = .returned (.int .i64 b) ∧ Below W2.heap.size W2 w' := fun W2 h2 => by
  rw [hb]
  exact became_nil _ W2
 obtain ⟨nm, hnm⟩ : ∃ nm, y.f0 = nm := ⟨_, rfl⟩
 have hx0 : W.cell? ⟨gx, ox, none⟩ = some (.string nm) := by rw [← hnm]; exact hy 0 _ rfl
 have HX0 := Aside0.mk hx0
 have q0 : (b == 0) = false := by rw [hb]; rfl
 have H0 := Aside0.mk (show sinceE (none, some y) = [⟨nm, b⟩] from by
  show (if (1 : Int) = 0 then [] else [(⟨y.f0, 1⟩ : S28)]) = _
  rw [hnm, hb, if_neg (by decide)])
 clear hy hb hnm hx0
 go_enter Try.func24, Try.ntmps24
 go_wp2_with (first | (go_at_call 25; (with_reducible refine (hbc _ (Below.refl _ _)).mono ?_); rintro e W9 ⟨rfl, hb⟩; have HX9 := Aside0.mk (HX.out.step HG.out.2 hb); have HW9 := Aside0.mk hb; clear HX hb hbc))
 obtain ⟨v, hv, hr⟩ := HX9.out.2.2; have HR9 := Aside0.mk hr; have HV9 := Aside0.mk hv; have hcg : W9.cell? ⟨g, 0, none⟩ = some v := (blk_cell hv 0).trans rfl; clear hv hr
 have hcx : W9.cell? ⟨gx, ox, none⟩ = some (.string nm) := (HW9.out.cell (World.block_lt_of_cell? W _ HX0.out)).trans HX0.out
 refine start_ (n := 10) (S := fun w' => w'.cell? ⟨g, 0, none⟩ = some v ∧ w'.cell? ⟨gx, ox, none⟩ = some (.string nm)) (ds := [8, 9]) #[false, false, false, false, false, false, false, false, false, false] (by kernel_rfl) rfl rfl ⟨hcg, hcx⟩ (fun hHeld => ?_)
 refine with_tabW arch_Since1_h.tab1 arch_Since1_h.bits1 (fun HT_ HW_ => ?_)
 obtain ⟨W5, hW5⟩ : ∃ W5, W9.drew = W5 := ⟨_, rfl⟩
 rw [hW5] at hHeld ⊢
 have HBX := Aside0.mk (hW5 ▸ HX9.out.drew)
 have HR := Aside0.mk (hW5 ▸ Kd.R_drew HR9.out)
 have HV := Aside0.mk (show W5.heap[g]? = some (.cells #[v] 25 (0, 0)) from hW5 ▸ HV9.out)
 clear HX9 HR9 HV9 hW5 hcg hcx
 refine pure_ (i := 1) (N := some 10) (v := ?_) (a' := ?_) #[false, true, false, false, false, false, false, false, false, false] rfl rfl (any_of HT_.out (by kernel_rfl)) (fun _ _ _ h => h) (Or.inl ⟨by rfl, ?_⟩) ?_ ?_
 rotate_left
 ·intro w'
  go_simp
  with_reducible rfl
 rotate_left
 ·simp only [Act.put, List.setIfInBounds_toArray, List.set_cons_zero, List.set_cons_succ, i64_w, i32_w]
  rfl
 refine pure_ (i := 2) (N := some 11) (v := ?_) (a' := ?_) #[false, true, true, false, false, false, false, false, false, false] rfl rfl (any_of HT_.out (by kernel_rfl)) (fun _ _ _ h => h) (Or.inl ⟨by rfl, ?_⟩) ?_ ?_
 rotate_left
 ·intro w'
  go_simp
  with_reducible rfl
 rotate_left
 ·simp only [Act.put, List.setIfInBounds_toArray, List.set_cons_zero, List.set_cons_succ, i64_w, i32_w]
  rfl
 refine pure_ (i := 3) (N := some 12) (v := ?_) (a' := ?_) #[false, true, true, true, false, false, false, false, false, false] rfl rfl (any_of HT_.out (by kernel_rfl)) (fun _ _ _ h => h) (Or.inl ⟨by rfl, ?_⟩) ?_ ?_
 rotate_left
 ·intro w'
  go_simp
  with_reducible rfl
 rotate_left
 ·simp only [Act.put, List.setIfInBounds_toArray, List.set_cons_zero, List.set_cons_succ, i64_w, i32_w]
  rfl
 refine pure_ (i := 5) (N := some 14) (v := ?_) (a' := ?_) #[false, true, true, true, false, true, false, false, false, false] rfl rfl (any_of HT_.out (by kernel_rfl)) (fun _ _ _ h => h) (Or.inl ⟨by rfl, ?_⟩) ?_ ?_
 rotate_left
 ·intro w'
  go_simp
  with_reducible rfl
 rotate_left
 ·simp only [Act.put, List.setIfInBounds_toArray, List.set_cons_zero, List.set_cons_succ, i64_w, i32_w]
  rfl
 refine take_ (i := 0) (N := some 9) (v := ?_) (a' := ?_) #[true, true, true, true, false, true, false, false, false, false] rfl rfl (take_ofW HT_.out HW_.out (by kernel_rfl)) (fun _ _ _ h => h) (Or.inl ⟨by rfl, ?_⟩) hHeld ?_ ?_
 rotate_left
 ·rintro w' ⟨s0_, s1_⟩
  go_simp
  with_reducible rfl
 rotate_left
 ·simp only [Act.put, List.setIfInBounds_toArray, List.set_cons_zero, List.set_cons_succ, i64_w, i32_w]
  rfl
 refine take_ (i := 4) (N := some 13) (v := ?_) (a' := ?_) #[true, true, true, true, true, true, false, false, false, false] rfl rfl (take_ofW HT_.out HW_.out (by kernel_rfl)) (fun _ _ _ h => h) (Or.inl ⟨by rfl, ?_⟩) hHeld ?_ ?_
 rotate_left
 ·rintro w' ⟨s0_, s1_⟩
  go_simp
  with_reducible rfl
 rotate_left
 ·simp only [Act.put, List.setIfInBounds_toArray, List.set_cons_zero, List.set_cons_succ, i64_w, i32_w]
  rfl
 refine pure_ (i := 6) (N := some 15) (v := ?_) (a' := ?_) #[true, true, true, true, true, true, true, false, false, false] rfl rfl (any_of HT_.out (by kernel_rfl)) (fun _ _ _ h => h) (Or.inl ⟨by rfl, ?_⟩) ?_ ?_
 rotate_left
 ·intro w'
  go_simp
  with_reducible rfl
 rotate_left
 ·simp only [Act.put, List.setIfInBounds_toArray, List.set_cons_zero, List.set_cons_succ, i64_w, i32_w]
  rfl
 refine one_ (i := 7) (N := some 16) #[true, true, true, true, true, true, true, true, false, false] rfl rfl (one_of HT_.out (by kernel_rfl)) (by decide) (fun K hK => ?_)
 refine value_ (w1 := W5.alloc (.cells #[.string nm, .int .i64 b] 28)) (v := .slice (some ⟨W5.heap.size, 0, none⟩) 1 1) (by rfl) rfl (by first | (go_simp; done) | (go_simp; rfl)) ?_
 refine hK.out _ _ ⟨((below_alloc (Below.refl _ _) _).cell (World.block_lt_of_cell? _ _ hHeld.1)).trans hHeld.1, ((below_alloc (Below.refl _ _) _).cell (World.block_lt_of_cell? _ _ hHeld.2)).trans hHeld.2⟩ (fun hHeld => ?_)
 clear hK K
 refine norm_ (a' := ?_) ?_ ?_
 rotate_left
 ·show Act.put _ (some 16) _ = _
  simp only [Act.put, List.setIfInBounds_toArray, List.set_cons_zero, List.set_cons_succ, i64_w, i32_w]
  rfl
 refine last_ (i := 8) (N := some 17) #[true, true, true, true, true, true, true, true, true, false] rfl rfl (one_of HT_.out (by kernel_rfl)) (by decide) (fun K hK => ?_)
 refine Kd.R_append_step k28 (w0 := w) w.heap.size (by rfl) (.tmp 9) (.tmp 16) 25 28 (.agg #[.string ⟨#[]⟩, .int .i64 0]) 24 rfl Try.underlying25 info28 rfl (by decide) (by omega) v l ⟨nm, b⟩ [.string nm, .int .i64 b] (fun k => w1.heap.size ≤ k) (fun _ => False) rfl rfl (k28_mkM _ _ _ (⟨nm, b⟩ : S28)) (fun _ h => h.elim) (fun k hk => Nat.le_trans HBX.out.2.1.1 hk) HR.out HBX.out.1 (below_size HBX.out.1) (by have := HL.out; omega) ?_
 intro v2 w2 ho hb1 hg hat
 obtain ⟨A2, c2, e2⟩ := Kd.R_slice ho
 subst e2
 have HE := Aside0.mk (HBX.out.put HG.out.1 HG.out.2 HV.out HR.out.1 ho hb1 hg)
 have hc2 : w2.cell? ⟨g, 0, none⟩ = some v := (blk_cell (HBX.out.kept HG.out.2 HV.out HR.out.1 hg) 0).trans rfl
 have hf2 := blk_frozen (HBX.out.kept HG.out.2 HV.out HR.out.1 hg) 0
 clear ho hb1 hg hat
 refine hK.out _ _ ?_
 clear hK K
 refine norm_ (a' := ?_) ?_ ?_
 rotate_left
 ·show Act.put _ (some 17) _ = _
  simp only [Act.put, List.setIfInBounds_toArray, List.set_cons_zero, List.set_cons_succ, i64_w, i32_w]
  rfl
 refine last_ (i := 9) (N := none) #[true, true, true, true, true, true, true, true, true, true] rfl rfl (one_of HT_.out (by kernel_rfl)) (by decide) (fun K hK => ?_)
 refine skip_ (w1 := w2.setCell ⟨g, 0, none⟩ (.slice A2 (l ++ [(⟨nm, b⟩ : S28)]).length c2)) (by rfl) rfl (by first | (go_simp; done) | (go_simp; rfl)) ?_
 refine hK.out _ _ ?_
 clear hK K
 refine done_ (done_of HT_.out (by kernel_rfl)) ?_
 try go_wp2
 go_end0
 exact ⟨rfl, by rw [H0.out]; exact HE.out⟩
theorem since1_call (x y : Option S43) (hne : x ≠ none ∨ y ≠ none) (p q : Option Addr) (w w1 W : World) (g : Nat) (l : List S28) (h : Box1 k28 28 25 w w1 W g l) (hg : w.heap.size ≤ g) (hg1 : g < w1.heap.size) (hl : l.length < 1000000000000) (hx : EP W p x) (hy : EP W q y) :
  Calls Try.prog 24 #[.pointer p, .pointer q, .pointer (some ⟨g, 0, none⟩)] W fun e W' => e = .returned (.tuple #[]) ∧ Box1 k28 28 25 w w1 W' g (l ++ sinceE (x, y)) := by
 cases x with
 | some x =>
  obtain ⟨gx, ox, rfl, hx⟩ := hx
  exact since1_some x y gx ox q w w1 W g l h hg hg1 hl hx hy
 | none =>
  cases y with
  | none => simp at hne
  | some y =>
   cases hx
   obtain ⟨gx, ox, rfl, hy⟩ := hy
   exact since1_none y gx ox w w1 W g l h hg hg1 hl hy
set_option maxHeartbeats 4000000 in
set_option maxRecDepth 100000 in
theorem common1_call (x y : Option S43) (p q : Option Addr) (w w1 W : World) (g : Nat) (l : List S43) (h : Box1 k43 43 22 w w1 W g l) (hg : w.heap.size ≤ g) (hg1 : g < w1.heap.size) (hl : l.length < 1000000000000) (hx : EP W p x) (hy : EP W q y) :
  Calls Try.prog 27 #[.pointer p, .pointer q, .pointer (some ⟨g, 0, none⟩)] W fun e W' => e = .returned (.tuple #[]) ∧ Box1 k43 43 22 w w1 W' g (l ++ commonE (x, y)) := by
 have HG := Aside0.mk (And.intro hg hg1)
 have HL := Aside0.mk hl
 have HX := Aside0.mk h
 clear h hg hg1 hl
 have hu := Try.underlying43
 obtain ⟨b, hb⟩ : ∃ b, becameI x y = b := ⟨_, rfl⟩
 have hbc : ∀ W2, Below W.heap.size W W2 → Calls Try.prog 25 #[.pointer p, .pointer q] W2 fun e w' => e = .returned (.int .i64 b) ∧ Below W2.heap.size W2 w' := fun W2 h2 => by
  rw [← hb]
  exact became_call x y p q W2 (hx.step h2) (hy.step h2)
 by_cases h0 : b = 0
 ·have q0 : (b == 0) = true := beq_iff_eq.mpr h0
  cases x with
  | none => rw [show becameI none y = 1 from rfl] at hb; omega
  | some x =>
   obtain ⟨gx, ox, rfl, hx⟩ := hx
   have HX0 := Aside0.mk hx
   have H0 := Aside0.mk (show commonE (some x, y) = [x] from if_pos (hb.trans h0))
   clear h0 hb hx hy
   go_enter Try.func27, Try.ntmps27
   go_wp2_with (first | (go_at_call 25; (with_reducible refine (hbc _ (Below.refl _ _)).mono ?_); rintro e W9 ⟨rfl, hb⟩; have HX9 := Aside0.mk (HX.out.step HG.out.2 hb); have HW9 := Aside0.mk hb; clear HX hb hbc))
   obtain ⟨v, hv, hr⟩ := HX9.out.2.2; have HR9 := Aside0.mk hr; have HV9 := Aside0.mk hv; have hcg : W9.cell? ⟨g, 0, none⟩ = some v := (blk_cell hv 0).trans rfl; clear hv hr
   have hcx : ∀ j u, (entA x)[j]? = some u → W9.cell? ⟨gx, ox + j, none⟩ = some u := fun j u hj => (HW9.out.cell (World.block_lt_of_cell? W _ (HX0.out j u hj))).trans (HX0.out j u hj)
   refine start_ (n := 7) (S := fun w' => w'.cell? ⟨g, 0, none⟩ = some v ∧ ∀ j u, (entA x)[j]? = some u → w'.cell? ⟨gx, ox + j, none⟩ = some u) (ds := [5, 6]) #[false, false, false, false, false, false, false] (by kernel_rfl) rfl rfl ⟨hcg, hcx⟩ (fun hHeld => ?_)
   refine with_tabW arch_Common1_h.tab1 arch_Common1_h.bits1 (fun HT_ HW_ => ?_)
   obtain ⟨W5, hW5⟩ : ∃ W5, W9.drew = W5 := ⟨_, rfl⟩
   rw [hW5] at hHeld ⊢
   have HBX := Aside0.mk (hW5 ▸ HX9.out.drew)
   have HR := Aside0.mk (hW5 ▸ Kd.R_drew HR9.out)
   have HV := Aside0.mk (show W5.heap[g]? = some (.cells #[v] 22 (0, 0)) from hW5 ▸ HV9.out)
   clear HX9 HR9 HV9 hW5 hcg hcx
   refine pure_ (i := 1) (N := some 10) (v := ?_) (a' := ?_) #[false, true, false, false, false, false, false] rfl rfl (any_of HT_.out (by kernel_rfl)) (fun _ _ _ h => h) (Or.inl ⟨by rfl, ?_⟩) ?_ ?_
   rotate_left
   ·intro w'
    go_simp
    with_reducible rfl
   rotate_left
   ·simp only [Act.put, List.setIfInBounds_toArray, List.set_cons_zero, List.set_cons_succ, i64_w, i32_w]
    rfl
   refine pure_ (i := 2) (N := some 11) (v := ?_) (a' := ?_) #[false, true, true, false, false, false, false] rfl rfl (any_of HT_.out (by kernel_rfl)) (fun _ _ _ h => h) (Or.inl ⟨by rfl, ?_⟩) ?_ ?_
   rotate_left
   ·intro w'
    go_simp
    with_reducible rfl
   rotate_left
   ·simp only [Act.put, List.setIfInBounds_toArray, List.set_cons_zero, List.set_cons_succ, i64_w, i32_w]
    rfl
   refine take_ (i := 0) (N := some 9) (v := ?_) (a' := ?_) #[true, true, true, false, false, false, false] rfl rfl (take_ofW HT_.out HW_.out (by kernel_rfl)) (fun _ _ _ h => h) (Or.inl ⟨by rfl, ?_⟩) hHeld ?_ ?_
   rotate_left
   ·rintro w' ⟨s0_, s1_⟩
    go_simp
    with_reducible rfl
   rotate_left
   ·simp only [Act.put, List.setIfInBounds_toArray, List.set_cons_zero, List.set_cons_succ, i64_w, i32_w]
    rfl
   refine take_ (i := 3) (N := some 12) (v := ?_) (a' := ?_) #[true, true, true, true, false, false, false] rfl rfl (take_ofW HT_.out HW_.out (by kernel_rfl)) (fun _ _ _ h => h) (Or.inl ⟨by rfl, ?_⟩) hHeld ?_ ?_
   rotate_left
   ·rintro w' ⟨s0_, s1_⟩
    have sz_0 : w'.cell? ⟨gx, ox, none⟩ = some (.string x.f0) := s1_ 0 _ rfl
    have sz_1 := s1_ 1 _ rfl
    have sz_2 := s1_ 2 _ rfl
    have sz_3 := s1_ 3 _ rfl
    have sz_4 := s1_ 4 _ rfl
    have sz_5 := s1_ 5 _ rfl
    have sz_6 := s1_ 6 _ rfl
    have sz_7 := s1_ 7 _ rfl
    have sz_8 := s1_ 8 _ rfl
    have sz_9 := s1_ 9 _ rfl
    have sz_10 := s1_ 10 _ rfl
    clear s1_
    go_simp
    with_reducible rfl
   rotate_left
   ·simp only [Act.put, List.setIfInBounds_toArray, List.set_cons_zero, List.set_cons_succ, i64_w, i32_w]
    rfl
   refine one_ (i := 4) (N := some 13) #[true, true, true, true, true, false, false] rfl rfl (one_of HT_.out (by kernel_rfl)) (by decide) (fun K hK => ?_)
   refine value_ (w1 := W5.alloc (.cells #[.string x.f0, .int .i64 x.f1, .int .i64 x.f2, .int .i64 x.f3.f0, .int .i64 x.f3.f1, .int .i64 x.f3.f2, .int .i64 x.f3.f3, .int .i64 x.f3.f4, .string x.f4, .string x.f5, .int .i64 x.f6] 43)) (v := .slice (some ⟨W5.heap.size, 0, none⟩) 1 1) (by rfl) rfl (by first | (go_simp; done) | (go_simp; rfl)) ?_
   refine hK.out _ _ ⟨((below_alloc (Below.refl _ _) _).cell (World.block_lt_of_cell? _ _ hHeld.1)).trans hHeld.1, fun j u hj => ((below_alloc (Below.refl _ _) _).cell (World.block_lt_of_cell? _ _ (hHeld.2 j u hj))).trans (hHeld.2 j u hj)⟩ (fun hHeld => ?_)
   clear hK K
   refine norm_ (a' := ?_) ?_ ?_
   rotate_left
   ·show Act.put _ (some 13) _ = _
    simp only [Act.put, List.setIfInBounds_toArray, List.set_cons_zero, List.set_cons_succ, i64_w, i32_w]
    rfl
   refine last_ (i := 5) (N := some 14) #[true, true, true, true, true, true, false] rfl rfl (one_of HT_.out (by kernel_rfl)) (by decide) (fun K hK => ?_)
   refine Kd.R_append_step k43 (w0 := w) w.heap.size (by rfl) (.tmp 9) (.tmp 13) 22 43 (.agg #[(.string ⟨#[]⟩), (.int .i64 0), (.int .i64 0), (.int .i64 0), (.int .i64 0), (.int .i64 0), (.int .i64 0), (.int .i64 0), (.string ⟨#[]⟩), (.string ⟨#[]⟩), (.int .i64 0)]) 112 rfl Try.underlying22 info43 rfl (by decide) (by omega) v l x [.string x.f0, .int .i64 x.f1, .int .i64 x.f2, .int .i64 x.f3.f0, .int .i64 x.f3.f1, .int .i64 x.f3.f2, .int .i64 x.f3.f3, .int .i64 x.f3.f4, .string x.f4, .string x.f5, .int .i64 x.f6] (fun k => w1.heap.size ≤ k) (fun _ => False) rfl rfl (k43_mkM _ _ _ x) (fun _ h => h.elim) (fun k hk => Nat.le_trans HBX.out.2.1.1 hk) HR.out HBX.out.1 (below_size HBX.out.1) (by have := HL.out; omega) ?_
   intro v2 w2 ho hb1 hg hat
   obtain ⟨A2, c2, e2⟩ := Kd.R_slice ho
   subst e2
   have HE := Aside0.mk (HBX.out.put HG.out.1 HG.out.2 HV.out HR.out.1 ho hb1 hg)
   have hc2 : w2.cell? ⟨g, 0, none⟩ = some v := (blk_cell (HBX.out.kept HG.out.2 HV.out HR.out.1 hg) 0).trans rfl
   have hf2 := blk_frozen (HBX.out.kept HG.out.2 HV.out HR.out.1 hg) 0
   clear ho hb1 hg hat
   refine hK.out _ _ ?_
   clear hK K
   refine norm_ (a' := ?_) ?_ ?_
   rotate_left
   ·show Act.put _ (some 14) _ = _
    simp only [Act.put, List.setIfInBounds_toArray, List.set_cons_zero, List.set_cons_succ, i64_w, i32_w]
    rfl
   refine last_ (i := 6) (N := none) #[true, true, true, true, true, true, true] rfl rfl (one_of HT_.out (by kernel_rfl)) (by decide) (fun K hK => ?_)
   refine skip_ (w1 := w2.setCell ⟨g, 0, none⟩ (.slice A2 (l ++ [x]).length c2)) (by rfl) rfl (by first | (go_simp; done) | (go_simp; rfl)) ?_
   refine hK.out _ _ ?_
   clear hK K
   refine done_ (done_of HT_.out (by kernel_rfl)) ?_
   try go_wp2
   go_end0
   exact ⟨rfl, by rw [H0.out]; exact HE.out⟩
 ·have q0 : (b == 0) = false := beq_eq_false_iff_ne.mpr h0
  have H0 := Aside0.mk (show commonE (x, y) = [] from if_neg (by rw [hb]; exact h0))
  clear h0 hb hx hy
  go_enter Try.func27, Try.ntmps27
  go_wp2_with (first | (go_at_call 25; (with_reducible refine (hbc _ (Below.refl _ _)).mono ?_); rintro e W9 ⟨rfl, hb⟩; have HX9 := Aside0.mk (HX.out.step HG.out.2 hb); have HW9 := Aside0.mk hb; clear HX hb hbc))
  go_end0
  exact ⟨rfl, by rw [H0.out, List.append_nil]; exact HX9.out⟩
end Go.Proofs.Ytodbmagneaiocaa.PA
namespace Go.Proofs.Ytodbmagneaiocaa.PA
open Go.RowKit Go.Proofs.YtodbmagneaiocaaW.PrintWords Go.Proofs.YtodbmagneaiocaaW.PrintLast Go.Proofs.YtodbmagneaiocaaW.PrintMore
attribute [local go_sem] max2_int min2_int max_two min_two max_three min_three max_four min_four
set_option linter.unusedVariables false
set_option linter.unusedSimpArgs false
def okL43 (l : List S43) : Prop := l.length < 1000000000 ∧ ∀ y ∈ l, y.f0.size ≤ 1048576
instance (l : List S43) : Decidable (okL43 l) := inferInstanceAs (Decidable (_ ∧ _))
theorem first_ok (l : List S43) (h : okL43 l) : okL43 (firstL (sortS l)) := by
 have hs := (sortS_ok l).1
 refine ⟨?_, fun y hy => h.2 y (hs.1.mem_iff.1 (firstL_mem _ y hy))⟩
 have h1 := firstL_len (sortS l)
 rw [hs.len] at h1
 exact Nat.lt_of_le_of_lt h1 h.1
theorem rowKept {α : Type} {d : Kd α} {e : Nat} {w3 W : World} {base b0 g : Nat} {v : Value} {l : List α} (h : Kd.R d e w3 base (fun _ => True) v l) (hb : b0 ≤ base) (hk : KeepBut w3 W g none) (hg : g < b0) : Kd.R d e W b0 (fun k => b0 ≤ k ∧ k < w3.heap.size) v l :=
 Kd.R_kept (S := fun k => k = g) (Kd.R_mono (Kd.R_bound (Kd.R_lower h hb)) (fun k hk => ⟨hk.2.1, hk.2.2.1⟩)) ⟨hk.1, fun i hi hn => hk.2 i hi hn (by simp)⟩ (fun k hk e => by omega)
theorem flat_len {α β : Type} (f : α → List β) (hf : ∀ x, (f x).length ≤ 1) (E : List α) : (E.flatMap f).length ≤ E.length := by
 induction E with
 | nil => exact Nat.le_refl _
 | cons x E ih =>
  rw [List.flatMap_cons, List.length_append, List.length_cons]
  have := hf x
  omega
theorem sinceE_len (p : Option S43 × Option S43) : (sinceE p).length ≤ 1 := by
 unfold sinceE
 split
 ·exact Nat.zero_le _
 ·exact Nat.le_refl _
theorem commonE_len (p : Option S43 × Option S43) : (commonE p).length ≤ 1 := by
 unfold commonE
 split
 ·cases p.1 <;> simp
 ·exact Nat.zero_le _
theorem since_both (w w2 w3 : World) (a b : List S43) (Aa Ab : Option Addr) (ca cb : Nat) (HB2 : Below (w.alloc (.cells #[.slice none 0 0] 25)).heap.size (w.alloc (.cells #[.slice none 0 0] 25)) w2) (HB3 : Below w2.heap.size w2 w3)
  (HOa : Kd.R k43 43 w2 (w.alloc (.cells #[.slice none 0 0] 25)).heap.size (fun _ => True) (.slice Aa a.length ca) a) (HOb : Kd.R k43 43 w3 w2.heap.size (fun _ => True) (.slice Ab b.length cb) b) (hla : a.length < 1000000000) (hlb : b.length < 1000000000) (hza : ∀ x ∈ a, x.f0.size ≤ 1048576) (hzb : ∀ x ∈ b, x.f0.size ≤ 1048576)
  (eg : ∀ args w, (callFunc 24 args).run Try.prog w = .ok (.enter 24 args) w) :
  Calls Try.prog 21 #[.slice Aa a.length ca, .slice Ab b.length cb, .func (.func 23) #[] #[], .func (.func 24) #[] #[.pointer (some ⟨w.heap.size, 0, none⟩)]] w3 fun e w' => e = .returned (.tuple #[]) ∧ Box1 k28 28 25 w w3 w' w.heap.size ((bothL a b).flatMap sinceE) := by
 have hs0 : (w.alloc (.cells #[.slice none 0 0] 25)).heap.size = w.heap.size + 1 := World.size_alloc _ _
 have hs2 := HB2.size
 have hs3 := HB3.size
 rw [hs0] at hs2
 have hb0 : Below w.heap.size w w3 := below_step (below_step (below_alloc (Below.refl _ _) _) HB2) HB3
 refine both_call a b Aa Ab ca cb w3 24 _ eg (fun W E => Box1 k28 28 25 w w3 W w.heap.size (E.flatMap sinceE)) ?_ ?_ (w.heap.size + 1) (fun k => w.heap.size + 1 ≤ k ∧ k < w3.heap.size) (fun k => w.heap.size + 1 ≤ k ∧ k < w3.heap.size) ?_ ?_ hla hlb hza hzb ?_
 ·exact ⟨hb0, KeepBut.refl _ _ _, .slice none 0 0, blk_below (blk_below (blk_new w _) HB2) HB3, Kd.R_nil _ _ _ _ _⟩
 ·exact fun W W2 E h hb => h.step (by omega) hb
 ·exact fun W E h => rowKept (Kd.R_below (hs0 ▸ HOa) HB3) (Nat.le_refl _) h.2.1 (Nat.lt_succ_self _)
 ·exact fun W E h => rowKept HOb (by omega) h.2.1 (Nat.lt_succ_self _)
 ·intro W E x y p q h hne hl hsz hx hy
  have hfl := flat_len sinceE sinceE_len E
  rw [List.flatMap_append, List.flatMap_singleton]
  exact since1_call x y hne p q w w3 W w.heap.size _ h (Nat.le_refl _) (by omega) (by omega) hx hy
set_option maxHeartbeats 4000000 in
set_option maxRecDepth 100000 in
theorem since_call (A0 : Option Addr) (c0 : Nat) (l0 : List S43) (A1 : Option Addr) (c1 : Nat) (l1 : List S43) (w : World) (hr0 : Kd.C k43 w A0 l0.length l0) (hc0 : l0.length ≤ c0) (hr1 : Kd.C k43 w A1 l1.length l1) (hc1 : l1.length ≤ c1) (h0 : okL43 l0) (h1 : okL43 l1) :
  Calls Try.prog 11 #[.slice A0 l0.length c0, .slice A1 l1.length c1] w fun e w' => ∃ v0_ : Value, e = .returned v0_ ∧ Kd.R k28 28 w' w.heap.size (fun _ => True) v0_ (sinceL l0 l1) ∧ Below w.heap.size w w' := by
 have hb0 := below_alloc (Below.refl w.heap.size w) (.cells #[.slice none 0 0] 25)
 have HF0 := Aside0.mk (first_call A0 c0 l0 (w.alloc (.cells #[.slice none 0 0] 25)) (Kd.C_below hr0 hb0) hc0 h0.1 h0.2)
 have HF1 : Aside0 (∀ W, Below w.heap.size w W → Calls Try.prog 22 #[.slice A1 l1.length c1] W fun e w' => ∃ v0_ : Value, e = .returned v0_ ∧ Kd.R k43 43 w' W.heap.size (fun _ => True) v0_ (firstL (sortS l1)) ∧ Below W.heap.size W w') := ⟨fun W hb => first_call A1 c1 l1 W (Kd.C_below hr1 hb) hc1 h1.1 h1.2⟩
 have HB0 := Aside0.mk hb0
 obtain ⟨ha1, ha2⟩ := first_ok l0 h0
 obtain ⟨hb1, hb2⟩ := first_ok l1 h1
 have HFS := Aside0.mk (show sinceL l0 l1 = (bothL (firstL (sortS l0)) (firstL (sortS l1))).flatMap sinceE from rfl)
 obtain ⟨a, ea⟩ : ∃ a, firstL (sortS l0) = a := ⟨_, rfl⟩
 obtain ⟨b, eb⟩ : ∃ b, firstL (sortS l1) = b := ⟨_, rfl⟩
 rw [ea] at HF0 ha1 ha2 HFS
 rw [eb] at HF1 hb1 hb2 HFS
 have HLa := Aside0.mk ha1
 have HZa := Aside0.mk ha2
 have HLb := Aside0.mk hb1
 have HZb := Aside0.mk hb2
 clear hr0 hc0 hr1 hc1 h0 h1 hb0 ha1 ha2 hb1 hb2 ea eb
 have eg : ∀ args w, (callFunc 24 args).run Try.prog w = .ok (.enter 24 args) w := enters_ Try.func24 (by kernel_rfl) rfl
 go_enter Try.func11, Try.ntmps11
 go_wp2_with (first | (go_at_call 21; (with_reducible refine (since_both w w2 w3 a b Aa Ab ca cb HB2.out HB3.out HOa.out HOb.out HLa.out HLb.out HZa.out HZb.out eg).mono ?_); rintro e w4 ⟨rfl, hj⟩; obtain ⟨v, hv, hr⟩ := hj.2.2; have HR4 := Aside0.mk hr; have HB4 := Aside0.mk hj.1; have hc4 : w4.cell? ⟨w.heap.size, 0, none⟩ = some v := (blk_cell hv 0).trans rfl; clear hj hv hr) | (go_at_call 22; (with_reducible refine (HF0.out).mono ?_); rintro e w2 ⟨v2, rfl, ho, hb⟩; obtain ⟨Aa, ca, ea⟩ := Kd.R_slice ho; subst ea; have HOa := Aside0.mk ho; have HB2 := Aside0.mk hb; clear ho hb HF0) | (go_at_call 22; (with_reducible refine (HF1.out w2 (below_step HB0.out HB2.out)).mono ?_); rintro e w3 ⟨v3, rfl, ho, hb⟩; obtain ⟨Ab, cb, eb⟩ := Kd.R_slice ho; subst eb; have HOb := Aside0.mk ho; have HB3 := Aside0.mk hb; clear ho hb HF1))
 go_ret
 exact ⟨v, rfl, by rw [HFS.out]; exact Kd.R_mono HR4.out (fun _ _ => trivial), HB4.out⟩
theorem common_both (w w2 w3 : World) (a b : List S43) (Aa Ab : Option Addr) (ca cb : Nat) (HB2 : Below (w.alloc (.cells #[.slice none 0 0] 22)).heap.size (w.alloc (.cells #[.slice none 0 0] 22)) w2) (HB3 : Below w2.heap.size w2 w3)
  (HOa : Kd.R k43 43 w2 (w.alloc (.cells #[.slice none 0 0] 22)).heap.size (fun _ => True) (.slice Aa a.length ca) a) (HOb : Kd.R k43 43 w3 w2.heap.size (fun _ => True) (.slice Ab b.length cb) b) (hla : a.length < 1000000000) (hlb : b.length < 1000000000) (hza : ∀ x ∈ a, x.f0.size ≤ 1048576) (hzb : ∀ x ∈ b, x.f0.size ≤ 1048576)
  (eg : ∀ args w, (callFunc 27 args).run Try.prog w = .ok (.enter 27 args) w) :
  Calls Try.prog 21 #[.slice Aa a.length ca, .slice Ab b.length cb, .func (.func 23) #[] #[], .func (.func 27) #[] #[.pointer (some ⟨w.heap.size, 0, none⟩)]] w3 fun e w' => e = .returned (.tuple #[]) ∧ Box1 k43 43 22 w w3 w' w.heap.size ((bothL a b).flatMap commonE) := by
 have hs0 : (w.alloc (.cells #[.slice none 0 0] 22)).heap.size = w.heap.size + 1 := World.size_alloc _ _
 have hs2 := HB2.size
 have hs3 := HB3.size
 rw [hs0] at hs2
 have hb0 : Below w.heap.size w w3 := below_step (below_step (below_alloc (Below.refl _ _) _) HB2) HB3
 refine both_call a b Aa Ab ca cb w3 27 _ eg (fun W E => Box1 k43 43 22 w w3 W w.heap.size (E.flatMap commonE)) ?_ ?_ (w.heap.size + 1) (fun k => w.heap.size + 1 ≤ k ∧ k < w3.heap.size) (fun k => w.heap.size + 1 ≤ k ∧ k < w3.heap.size) ?_ ?_ hla hlb hza hzb ?_
 ·exact ⟨hb0, KeepBut.refl _ _ _, .slice none 0 0, blk_below (blk_below (blk_new w _) HB2) HB3, Kd.R_nil _ _ _ _ _⟩
 ·exact fun W W2 E h hb => h.step (by omega) hb
 ·exact fun W E h => rowKept (Kd.R_below (hs0 ▸ HOa) HB3) (Nat.le_refl _) h.2.1 (Nat.lt_succ_self _)
 ·exact fun W E h => rowKept HOb (by omega) h.2.1 (Nat.lt_succ_self _)
 ·intro W E x y p q h hne hl hsz hx hy
  have hfl := flat_len commonE commonE_len E
  rw [List.flatMap_append, List.flatMap_singleton]
  exact common1_call x y p q w w3 W w.heap.size _ h (Nat.le_refl _) (by omega) (by omega) hx hy
set_option maxHeartbeats 4000000 in
set_option maxRecDepth 100000 in
theorem common_call (A0 : Option Addr) (c0 : Nat) (l0 : List S43) (A1 : Option Addr) (c1 : Nat) (l1 : List S43) (w : World) (hr0 : Kd.C k43 w A0 l0.length l0) (hc0 : l0.length ≤ c0) (hr1 : Kd.C k43 w A1 l1.length l1) (hc1 : l1.length ≤ c1) (h0 : okL43 l0) (h1 : okL43 l1) :
  Calls Try.prog 15 #[.slice A0 l0.length c0, .slice A1 l1.length c1] w fun e w' => ∃ v0_ : Value, e = .returned v0_ ∧ Kd.R k43 43 w' w.heap.size (fun _ => True) v0_ (commonL l0 l1) ∧ Below w.heap.size w w' := by
 have hb0 := below_alloc (Below.refl w.heap.size w) (.cells #[.slice none 0 0] 22)
 have HF0 := Aside0.mk (first_call A0 c0 l0 (w.alloc (.cells #[.slice none 0 0] 22)) (Kd.C_below hr0 hb0) hc0 h0.1 h0.2)
 have HF1 : Aside0 (∀ W, Below w.heap.size w W → Calls Try.prog 22 #[.slice A1 l1.length c1] W fun e w' => ∃ v0_ : Value, e = .returned v0_ ∧ Kd.R k43 43 w' W.heap.size (fun _ => True) v0_ (firstL (sortS l1)) ∧ Below W.heap.size W w') := ⟨fun W hb => first_call A1 c1 l1 W (Kd.C_below hr1 hb) hc1 h1.1 h1.2⟩
 have HB0 := Aside0.mk hb0
 obtain ⟨ha1, ha2⟩ := first_ok l0 h0
 obtain ⟨hb1, hb2⟩ := first_ok l1 h1
 have HFS := Aside0.mk (show commonL l0 l1 = (bothL (firstL (sortS l0)) (firstL (sortS l1))).flatMap commonE from rfl)
 obtain ⟨a, ea⟩ : ∃ a, firstL (sortS l0) = a := ⟨_, rfl⟩
 obtain ⟨b, eb⟩ : ∃ b, firstL (sortS l1) = b := ⟨_, rfl⟩
 rw [ea] at HF0 ha1 ha2 HFS
 rw [eb] at HF1 hb1 hb2 HFS
 have HLa := Aside0.mk ha1
 have HZa := Aside0.mk ha2
 have HLb := Aside0.mk hb1
 have HZb := Aside0.mk hb2
 clear hr0 hc0 hr1 hc1 h0 h1 hb0 ha1 ha2 hb1 hb2 ea eb
 have eg : ∀ args w, (callFunc 27 args).run Try.prog w = .ok (.enter 27 args) w := enters_ Try.func27 (by kernel_rfl) rfl
 go_enter Try.func15, Try.ntmps15
 go_wp2_with (first | (go_at_call 21; (with_reducible refine (common_both w w2 w3 a b Aa Ab ca cb HB2.out HB3.out HOa.out HOb.out HLa.out HLb.out HZa.out HZb.out eg).mono ?_); rintro e w4 ⟨rfl, hj⟩; obtain ⟨v, hv, hr⟩ := hj.2.2; have HR4 := Aside0.mk hr; have HB4 := Aside0.mk hj.1; have hc4 : w4.cell? ⟨w.heap.size, 0, none⟩ = some v := (blk_cell hv 0).trans rfl; clear hj hv hr) | (go_at_call 22; (with_reducible refine (HF0.out).mono ?_); rintro e w2 ⟨v2, rfl, ho, hb⟩; obtain ⟨Aa, ca, ea⟩ := Kd.R_slice ho; subst ea; have HOa := Aside0.mk ho; have HB2 := Aside0.mk hb; clear ho hb HF0) | (go_at_call 22; (with_reducible refine (HF1.out w2 (below_step HB0.out HB2.out)).mono ?_); rintro e w3 ⟨v3, rfl, ho, hb⟩; obtain ⟨Ab, cb, eb⟩ := Kd.R_slice ho; subst eb; have HOb := Aside0.mk ho; have HB3 := Aside0.mk hb; clear ho hb HF1))
 go_ret
 exact ⟨v, rfl, by rw [HFS.out]; exact Kd.R_mono HR4.out (fun _ _ => trivial), HB4.out⟩
end Go.Proofs.Ytodbmagneaiocaa.PA
namespace Go.Proofs.Ytodbmagneaiocaa.PA
open Go.RowKit Go.Proofs.YtodbmagneaiocaaW.PrintWords Go.Proofs.YtodbmagneaiocaaW.PrintLast Go.Proofs.YtodbmagneaiocaaW.PrintMore
attribute [local go_sem] max2_int min2_int max_two min_two max_three min_three max_four min_four
set_option linter.unusedVariables false
set_option linter.unusedSimpArgs false
def arch_Common.f (l0 l1 : List S43) : Option (List S43) := if okL43 l0 ∧ okL43 l1 then some (commonL l0 l1) else none
theorem arch_Common.calls (A0 : Option Addr) (c0 : Nat) (l0 : List S43) (A1 : Option Addr) (c1 : Nat) (l1 : List S43) (r : List S43) (w : World) (hr0 : Kd.C k43 w A0 l0.length l0) (hc0 : l0.length ≤ c0) (hr1 : Kd.C k43 w A1 l1.length l1) (hc1 : l1.length ≤ c1) (h : arch_Common.f l0 l1 = some r) :
  Calls Try.prog 15 #[.slice A0 l0.length c0, .slice A1 l1.length c1] w fun e w' => ∃ v0_ : Value, e = .returned v0_ ∧ Kd.R k43 43 w' w.heap.size (fun _ => True) v0_ r ∧ Below w.heap.size w w' := by
 unfold arch_Common.f at h
 split at h
 ·rename_i hs
  obtain rfl := Option.some.inj h
  exact common_call A0 c0 l0 A1 c1 l1 w hr0 hc0 hr1 hc1 hs.1 hs.2
 ·exact absurd h (by simp)
end Go.Proofs.Ytodbmagneaiocaa.PA
namespace Go.Proofs.Ytodbmagneaiocaa.PA
open Go.RowKit Go.Proofs.YtodbmagneaiocaaW.PrintWords Go.Proofs.YtodbmagneaiocaaW.PrintLast Go.Proofs.YtodbmagneaiocaaW.PrintMore
attribute [local go_sem] max2_int min2_int max_two min_two max_three min_three max_four min_four
set_option linter.unusedVariables false
set_option linter.unusedSimpArgs false
def arch_Since.f (l0 l1 : List S43) : Option (List S28) := if okL43 l0 ∧ okL43 l1 then some (sinceL l0 l1) else none
theorem arch_Since.calls (A0 : Option Addr) (c0 : Nat) (l0 : List S43) (A1 : Option Addr) (c1 : Nat) (l1 : List S43) (r : List S28) (w : World) (hr0 : Kd.C k43 w A0 l0.length l0) (hc0 : l0.length ≤ c0) (hr1 : Kd.C k43 w A1 l1.length l1) (hc1 : l1.length ≤ c1) (h : arch_Since.f l0 l1 = some r) :
  Calls Try.prog 11 #[.slice A0 l0.length c0, .slice A1 l1.length c1] w fun e w' => ∃ v0_ : Value, e = .returned v0_ ∧ Kd.R k28 28 w' w.heap.size (fun _ => True) v0_ r ∧ Below w.heap.size w w' := by
 unfold arch_Since.f at h
 split at h
 ·rename_i hs
  obtain rfl := Option.some.inj h
  exact since_call A0 c0 l0 A1 c1 l1 w hr0 hc0 hr1 hc1 hs.1 hs.2
 ·exact absurd h (by simp)
end Go.Proofs.Ytodbmagneaiocaa.PA
