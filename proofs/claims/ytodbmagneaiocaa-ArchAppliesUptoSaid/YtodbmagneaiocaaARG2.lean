/- How an argument's reading (trod) is opened into a value of a kind (Kd): whole numbers, bools, strings, slices and structs of these. -/
import Derived.BigQuiet
import Derived.Deep.QuietTactic
import Derived.Great.BuildSlice
import Derived.Laws.NewBlocks
import Derived.Lib.QuietBelow
import Derived.Outline
import Derived.Shelf.Abstract
import Derived.Test.YtodbmagneaiocaaARG1
import Derived.ProofKit
import Derived.Test.YtodbmagneaiocaaRows
import Derived.WalkKit
namespace Go.Proofs.Ytodbmagneaiocaa.PA
open Go.RowKit Go.Proofs.YtodbmagneaiocaaW.PrintWords Go.Proofs.YtodbmagneaiocaaW.PrintLast Go.Proofs.YtodbmagneaiocaaW.PrintMore
attribute [local go_sem] max2_int min2_int max_two min_two max_three min_three max_four min_four
set_option linter.unusedVariables false
set_option linter.unusedSimpArgs false
open Go Go.Shelf Go.Lib Go.Sort
def arch_both_h.T2 : Bool × List (List Nat × List Nat) := (true, [([], []), ([], []), ([], []), ([1, 2], [1, 2]), ([], []), ([], []), ([4, 5], [4, 5]), ([0, 3, 6], [0, 3, 6])])
def arch_both_h.B2 : List Nat := [0, 0, 0, 6, 0, 0, 48, 127]
theorem arch_both_h.tab2 : rtab .any (opsOf Try.f21 2) = arch_both_h.T2 := by kernel_rfl
theorem arch_both_h.bits2 : waitsOk arch_both_h.T2.2 arch_both_h.B2 = true := by kernel_rfl
theorem bothL_nil : bothL [] [] = [] := by rw [bothL]
theorem bothL_a (x : S43) (a : List S43) : bothL (x :: a) [] = (some x, none) :: bothL a [] := by rw [bothL]
theorem bothL_b (y : S43) (b : List S43) : bothL [] (y :: b) = (none, some y) :: bothL [] b := by rw [bothL]
theorem bothL_two (x y : S43) (a b : List S43) : bothL (x :: a) (y :: b) = if ltS x y = true then (some x, none) :: bothL a (y :: b) else if x.f0 ≠ y.f0 then (none, some y) :: bothL (x :: a) b else (some x, some y) :: bothL a b := by rw [bothL]
theorem before_lt (x y : S43) (hx : x.f0.size ≤ 1048576) (hy : y.f0.size ≤ 1048576) (w : World) : Calls Try.prog 30 #[.string x.f0, .string y.f0] w fun e w' => e = .returned (.bool (ltS x y)) ∧ Below w.heap.size w w' :=
 arch_before.calls 2000000 x.f0 y.f0 (ltS x y) w (by
  unfold arch_before.f
  rw [less_f x.f0 y.f0 hx hy 2000000 (by omega), Option.bind_some]
  rfl)
set_option maxHeartbeats 16000000 in
set_option maxRecDepth 100000 in
theorem both_call (a b : List S43) (Aa Ab : Option Addr) (ca cb : Nat) (w : World) (cl : Nat) (cap : Array Value) (eg : ∀ args w, (callFunc cl args).run Try.prog w = .ok (.enter cl args) w) (J : World → List (Option S43 × Option S43) → Prop)
  (h0 : J w []) (hJS : ∀ W W2 E, J W E → Below W.heap.size W W2 → J W2 E) (bs : Nat) (oka okb : Nat → Prop) (hJa : ∀ W E, J W E → Kd.R k43 43 W bs oka (.slice Aa a.length ca) a) (hJb : ∀ W E, J W E → Kd.R k43 43 W bs okb (.slice Ab b.length cb) b)
  (hla : a.length < 1000000000) (hlb : b.length < 1000000000) (hza : ∀ x ∈ a, x.f0.size ≤ 1048576) (hzb : ∀ x ∈ b, x.f0.size ≤ 1048576)
  (hcl : ∀ W E x y p q, J W E → (x ≠ none ∨ y ≠ none) → E.length ≤ 2000000000 → (pathE (x, y)).size ≤ 1048576 → EP W p x → EP W q y → Calls Try.prog cl (#[.pointer p, .pointer q] ++ cap) W fun e W' => e = .returned (.tuple #[]) ∧ J W' (E ++ [(x, y)])) :
  Calls Try.prog 21 #[.slice Aa a.length ca, .slice Ab b.length cb, .func (.func 23) #[] #[], .func (.func cl) #[] cap] w fun e w' => e = .returned (.tuple #[]) ∧ J w' (bothL a b) := by
 have mixed : Try.prog.follows .mixedOrders = true := by kernel_rfl
 have hu := Try.underlying43
 have HJ := Aside0.mk h0
 have HJS := Aside0.mk hJS
 have HJa := Aside0.mk hJa
 have HJb := Aside0.mk hJb
 have HLa := Aside0.mk hla
 have HLb := Aside0.mk hlb
 have HZa := Aside0.mk hza
 have HZb := Aside0.mk hzb
 have HCL := Aside0.mk hcl
 clear h0 hJS hJa hJb hla hlb hza hzb hcl
 go_enter Try.func21, Try.ntmps21
 go_wp2
 go_loopw [8, 9] (fun v8 v9 wr => ∃ (i k : Nat) (E : List (Option S43 × Option S43)), v8 = .int .i64 (i : Int) ∧ v9 = .int .i64 (k : Int) ∧ Aside0 (i ≤ a.length ∧ k ≤ b.length) ∧ Aside0 (E ++ bothL (a.drop i) (b.drop k) = bothL a b ∧ E.length ≤ i + k) ∧ Aside0 (J wr E)) (fun v8 v9 _ => (a.length - (intOf v8).toNat) + (b.length - (intOf v9).toNat))
 case atStart => exact ⟨0, 0, [], rfl, rfl, ⟨Nat.zero_le _, Nat.zero_le _⟩, ⟨rfl, Nat.le_refl _⟩, HJ⟩
 case round =>
  clear HJ
  obtain ⟨i, k, E, rfl, rfl, HI, HE0, HJ⟩ := hrel
  have HE : Aside0 (E ++ bothL (a.drop i) (b.drop k) = bothL a b ∧ E.length ≤ 2000000000) := ⟨HE0.out.1, by have := HE0.out.2; have := HI.out; have := HLa.out; have := HLb.out; omega⟩
  have HW1 := Aside0.mk (wrapE i (by have := HI.out; have := HLa.out; omega))
  have HW2 := Aside0.mk (wrapE k (by have := HI.out; have := HLb.out; omega))
  by_cases hi : i < a.length
  ·have d1 : decide ((i : Int) < (a.length : Int)) = true := decide_eq_true (by omega)
   have d1' : decide (i < a.length) = true := decide_eq_true hi
   have d2 : ((i : Int) == (a.length : Int)) = false := beq_eq_false_iff_ne.mpr (by omega)
   have d2' : (i == a.length) = false := beq_eq_false_iff_ne.mpr (by omega)
   obtain ⟨ga, ca_, ea, _, _, _, _⟩ := Kd.R_form (HJa.out wr _ HJ.out) (by omega)
   injection ea with e1 e2 e3
   subst e1
   subst e3
   clear e2
   obtain ⟨x, hx⟩ : ∃ x, rd_T43 a (i : Int) = x := ⟨_, rfl⟩
   have hxe : a[i] = x := by rw [← hx, rdE_get a i (by omega)]
   obtain ⟨cx, _, hMx, hcx, _⟩ := Kd.R_elem (HJa.out wr _ HJ.out) z43 (i : Int) (by omega) (by omega)
   obtain rfl := k43_openM hMx
   rw [Int.toNat_natCast] at hcx
   replace hcx : ∀ j u, (entA (rd_T43 a (i : Int)))[j]? = some u → wr.cell? ⟨ga, i * 11 + j, none⟩ = some u := hcx
   rw [hx] at hcx
   have HCx := Aside0.mk hcx
   have HDx := Aside0.mk (show a.drop i = x :: a.drop (i + 1) from by rw [List.drop_eq_getElem_cons (by omega), hxe])
   have HSx := Aside0.mk (HZa.out x (hxe ▸ List.getElem_mem (by omega)))
   clear hMx hcx hx hxe
   have px1 : (0 ≤ (i : Int)) = True := eq_true (by omega)
   have px2 : ((i : Int) < (a.length : Int)) = True := eq_true (by omega)
   by_cases hk : k < b.length
   ·have d3 : decide ((k : Int) < (b.length : Int)) = true := decide_eq_true (by omega)
    have d4 : ((k : Int) == (b.length : Int)) = false := beq_eq_false_iff_ne.mpr (by omega)
    have d4' : (k == b.length) = false := beq_eq_false_iff_ne.mpr (by omega)
    obtain ⟨gb, cb_, eb, _, _, _, _⟩ := Kd.R_form (HJb.out wr _ HJ.out) (by omega)
    injection eb with e1 e2 e3
    subst e1
    subst e3
    clear e2
    obtain ⟨y, hy⟩ : ∃ y, rd_T43 b (k : Int) = y := ⟨_, rfl⟩
    have hye : b[k] = y := by rw [← hy, rdE_get b k (by omega)]
    obtain ⟨cy, _, hMy, hcy, _⟩ := Kd.R_elem (HJb.out wr _ HJ.out) z43 (k : Int) (by omega) (by omega)
    obtain rfl := k43_openM hMy
    rw [Int.toNat_natCast] at hcy
    replace hcy : ∀ j u, (entA (rd_T43 b (k : Int)))[j]? = some u → wr.cell? ⟨gb, k * 11 + j, none⟩ = some u := hcy
    rw [hy] at hcy
    have HCy := Aside0.mk hcy
    have HDy := Aside0.mk (show b.drop k = y :: b.drop (k + 1) from by rw [List.drop_eq_getElem_cons (by omega), hye])
    have HSy := Aside0.mk (HZb.out y (hye ▸ List.getElem_mem (by omega)))
    clear hMy hcy hy hye
    have py1 : (0 ≤ (k : Int)) = True := eq_true (by omega)
    have py2 : ((k : Int) < (b.length : Int)) = True := eq_true (by omega)
    have HBq := Aside0.mk (bothL_two x y (a.drop (i + 1)) (b.drop (k + 1)))
    have HIK := Aside0.mk (And.intro hi hk)
    clear hi hk
    have qx_0 : ∀ q' os', (grow (redrawn wr q') os').cell? ⟨ga, i * 11, none⟩ = some (.string x.f0) := fun q' os' => cell_regrown (HCx.out 0 _ rfl) q' os'
    have qx_1 : ∀ q' os', (grow (redrawn wr q') os').cell? ⟨ga, i * 11 + 1, none⟩ = some (.int .i64 x.f1) := fun q' os' => cell_regrown (HCx.out 1 _ rfl) q' os'
    have qx_2 : ∀ q' os', (grow (redrawn wr q') os').cell? ⟨ga, i * 11 + 2, none⟩ = some (.int .i64 x.f2) := fun q' os' => cell_regrown (HCx.out 2 _ rfl) q' os'
    have qx_3 : ∀ q' os', (grow (redrawn wr q') os').cell? ⟨ga, i * 11 + 3, none⟩ = some (.int .i64 x.f3.f0) := fun q' os' => cell_regrown (HCx.out 3 _ rfl) q' os'
    have qx_4 : ∀ q' os', (grow (redrawn wr q') os').cell? ⟨ga, i * 11 + 4, none⟩ = some (.int .i64 x.f3.f1) := fun q' os' => cell_regrown (HCx.out 4 _ rfl) q' os'
    have qx_5 : ∀ q' os', (grow (redrawn wr q') os').cell? ⟨ga, i * 11 + 5, none⟩ = some (.int .i64 x.f3.f2) := fun q' os' => cell_regrown (HCx.out 5 _ rfl) q' os'
    have qx_6 : ∀ q' os', (grow (redrawn wr q') os').cell? ⟨ga, i * 11 + 6, none⟩ = some (.int .i64 x.f3.f3) := fun q' os' => cell_regrown (HCx.out 6 _ rfl) q' os'
    have qx_7 : ∀ q' os', (grow (redrawn wr q') os').cell? ⟨ga, i * 11 + 7, none⟩ = some (.int .i64 x.f3.f4) := fun q' os' => cell_regrown (HCx.out 7 _ rfl) q' os'
    have qx_8 : ∀ q' os', (grow (redrawn wr q') os').cell? ⟨ga, i * 11 + 8, none⟩ = some (.string x.f4) := fun q' os' => cell_regrown (HCx.out 8 _ rfl) q' os'
    have qx_9 : ∀ q' os', (grow (redrawn wr q') os').cell? ⟨ga, i * 11 + 9, none⟩ = some (.string x.f5) := fun q' os' => cell_regrown (HCx.out 9 _ rfl) q' os'
    have qx_10 : ∀ q' os', (grow (redrawn wr q') os').cell? ⟨ga, i * 11 + 10, none⟩ = some (.int .i64 x.f6) := fun q' os' => cell_regrown (HCx.out 10 _ rfl) q' os'
    have hPx : ∀ q' os', Calls Try.prog 23 #[.agg #[.string x.f0, .int .i64 x.f1, .int .i64 x.f2, .int .i64 x.f3.f0, .int .i64 x.f3.f1, .int .i64 x.f3.f2, .int .i64 x.f3.f3, .int .i64 x.f3.f4, .string x.f4, .string x.f5, .int .i64 x.f6]] (grow (redrawn wr q') os') fun e w' => e = .returned (.string x.f0) ∧ Below (grow (redrawn wr q') os').heap.size (grow (redrawn wr q') os') w' := fun q' os' => arch_pathOf.calls _ _ _ _ _ _ _ _ _ _ _ _ _ rfl
    have qy_0 : ∀ q' os', (grow (redrawn wr q') os').cell? ⟨gb, k * 11, none⟩ = some (.string y.f0) := fun q' os' => cell_regrown (HCy.out 0 _ rfl) q' os'
    have qy_1 : ∀ q' os', (grow (redrawn wr q') os').cell? ⟨gb, k * 11 + 1, none⟩ = some (.int .i64 y.f1) := fun q' os' => cell_regrown (HCy.out 1 _ rfl) q' os'
    have qy_2 : ∀ q' os', (grow (redrawn wr q') os').cell? ⟨gb, k * 11 + 2, none⟩ = some (.int .i64 y.f2) := fun q' os' => cell_regrown (HCy.out 2 _ rfl) q' os'
    have qy_3 : ∀ q' os', (grow (redrawn wr q') os').cell? ⟨gb, k * 11 + 3, none⟩ = some (.int .i64 y.f3.f0) := fun q' os' => cell_regrown (HCy.out 3 _ rfl) q' os'
    have qy_4 : ∀ q' os', (grow (redrawn wr q') os').cell? ⟨gb, k * 11 + 4, none⟩ = some (.int .i64 y.f3.f1) := fun q' os' => cell_regrown (HCy.out 4 _ rfl) q' os'
    have qy_5 : ∀ q' os', (grow (redrawn wr q') os').cell? ⟨gb, k * 11 + 5, none⟩ = some (.int .i64 y.f3.f2) := fun q' os' => cell_regrown (HCy.out 5 _ rfl) q' os'
    have qy_6 : ∀ q' os', (grow (redrawn wr q') os').cell? ⟨gb, k * 11 + 6, none⟩ = some (.int .i64 y.f3.f3) := fun q' os' => cell_regrown (HCy.out 6 _ rfl) q' os'
    have qy_7 : ∀ q' os', (grow (redrawn wr q') os').cell? ⟨gb, k * 11 + 7, none⟩ = some (.int .i64 y.f3.f4) := fun q' os' => cell_regrown (HCy.out 7 _ rfl) q' os'
    have qy_8 : ∀ q' os', (grow (redrawn wr q') os').cell? ⟨gb, k * 11 + 8, none⟩ = some (.string y.f4) := fun q' os' => cell_regrown (HCy.out 8 _ rfl) q' os'
    have qy_9 : ∀ q' os', (grow (redrawn wr q') os').cell? ⟨gb, k * 11 + 9, none⟩ = some (.string y.f5) := fun q' os' => cell_regrown (HCy.out 9 _ rfl) q' os'
    have qy_10 : ∀ q' os', (grow (redrawn wr q') os').cell? ⟨gb, k * 11 + 10, none⟩ = some (.int .i64 y.f6) := fun q' os' => cell_regrown (HCy.out 10 _ rfl) q' os'
    have hPy : ∀ q' os', Calls Try.prog 23 #[.agg #[.string y.f0, .int .i64 y.f1, .int .i64 y.f2, .int .i64 y.f3.f0, .int .i64 y.f3.f1, .int .i64 y.f3.f2, .int .i64 y.f3.f3, .int .i64 y.f3.f4, .string y.f4, .string y.f5, .int .i64 y.f6]] (grow (redrawn wr q') os') fun e w' => e = .returned (.string y.f0) ∧ Below (grow (redrawn wr q') os').heap.size (grow (redrawn wr q') os') w' := fun q' os' => arch_pathOf.calls _ _ _ _ _ _ _ _ _ _ _ _ _ rfl
    obtain ⟨bb, hbb⟩ : ∃ bb, ltS x y = bb := ⟨_, rfl⟩
    have hBf : ∀ q' os', Calls Try.prog 30 #[.string x.f0, .string y.f0] (grow (redrawn wr q') os') fun e w' => e = .returned (.bool bb) ∧ Below (grow (redrawn wr q') os').heap.size (grow (redrawn wr q') os') w' := fun q' os' => hbb ▸ before_lt x y HSx.out HSy.out _
    cases bb with
    | true =>
     have HEQ := Aside0.mk (show bothL (a.drop i) (b.drop k) = (some x, none) :: bothL (a.drop (i + 1)) (b.drop k) from by rw [HDx.out, HDy.out, HBq.out, if_pos hbb])
     clear hbb
     go_wp2
     refine wp_region_quiet_below (by assumption) (by kernel_rfl) ?_
     repeat (go_big_quiet_step ((first | (go_at_call 23; exact Calls.regrown_of (hPx _ _)) | (go_at_call 23; exact Calls.regrown_of (hPy _ _)) | (go_at_call 30; exact Calls.regrown_of (hBf _ _)))))
     refine wpQuiet_nil ?_
     intro _ hw'
     obtain ⟨⟨dq, osq⟩, hw''⟩ := hw'
     subst hw''
     have hb9 := below_regrown wr dq osq
     generalize grow (redrawn wr dq) osq = w9 at hb9 ⊢
     have HJ9 := Aside0.mk (HJS.out wr w9 _ HJ.out hb9)
     have HW9 := Aside0.mk hb9
     clear hb9
     go_wp2_with (first | (go_at_fn cl; (refine (HCL.out w9 _ (some x) none (some ⟨ga, i * 11, none⟩) none HJ9.out (by simp) HE.out.2 HSx.out ⟨ga, i * 11, rfl, fun j u hj => (HW9.out.cell (World.block_lt_of_cell? wr _ (HCx.out j u hj))).trans (HCx.out j u hj)⟩ rfl).mono ?_); rintro e W8 ⟨rfl, hj⟩; have HJ8 := Aside0.mk hj; clear hj))
     go_roundw
     case rel => exact ⟨i + 1, k, E ++ [_], by rw [HW1.out], rfl, ⟨by have := HI.out; have := HIK.out; omega, by have := HI.out; have := HIK.out; omega⟩, ⟨by rw [List.append_assoc, ← HE.out.1]; congr 1; exact HEQ.out.symm, by rw [List.length_append, List.length_singleton]; have := HE0.out.2; omega⟩, HJ8⟩
     case measure =>
      rw [HW1.out]
      show (a.length - Int.toNat ((i + 1 : Nat) : Int)) + (b.length - Int.toNat ((k : Nat) : Int)) < (a.length - Int.toNat (i : Int)) + (b.length - Int.toNat (k : Int))
      simp only [Int.toNat_natCast]
      have := HI.out
      have := HIK.out
      omega
    | false =>
     by_cases hq : x.f0 = y.f0
     ·have r0 : (x.f0.toList == y.f0.toList) = true := beq_iff_eq.mpr (by rw [hq])
      have r1 : (x.f0.toList != y.f0.toList) = false := bne_eq_false_iff_eq.mpr (by rw [hq])
      have HEQ := Aside0.mk (show bothL (a.drop i) (b.drop k) = (some x, some y) :: bothL (a.drop (i + 1)) (b.drop (k + 1)) from by rw [HDx.out, HDy.out, HBq.out, if_neg (by rw [hbb]; decide), if_neg (fun h => h hq)])
      clear hbb hq
      go_wp2
      refine wp_region_quiet_below (by assumption) (by kernel_rfl) ?_
      repeat (go_big_quiet_step ((first | (go_at_call 23; exact Calls.regrown_of (hPx _ _)) | (go_at_call 23; exact Calls.regrown_of (hPy _ _)) | (go_at_call 30; exact Calls.regrown_of (hBf _ _)))))
      refine wpQuiet_nil ?_
      intro _ hw'
      obtain ⟨⟨dq, osq⟩, hw''⟩ := hw'
      subst hw''
      have hb6 := below_regrown wr dq osq
      generalize grow (redrawn wr dq) osq = w6 at hb6 ⊢
      have HJ6 := Aside0.mk (HJS.out wr w6 _ HJ.out hb6)
      clear HJ
      have HJ := HJ6
      clear HJ6
      have hc_ : ∀ j u, (entA x)[j]? = some u → w6.cell? ⟨ga, i * 11 + j, none⟩ = some u := fun j u hj => (hb6.cell (World.block_lt_of_cell? wr _ (HCx.out j u hj))).trans (HCx.out j u hj)
      clear hPx
      clear qx_0
      clear qx_1
      clear qx_2
      clear qx_3
      clear qx_4
      clear qx_5
      clear qx_6
      clear qx_7
      clear qx_8
      clear qx_9
      clear qx_10
      clear HCx
      have HCx := Aside0.mk hc_
      clear hc_
      have hc_ : ∀ j u, (entA y)[j]? = some u → w6.cell? ⟨gb, k * 11 + j, none⟩ = some u := fun j u hj => (hb6.cell (World.block_lt_of_cell? wr _ (HCy.out j u hj))).trans (HCy.out j u hj)
      clear hPy
      clear qy_0
      clear qy_1
      clear qy_2
      clear qy_3
      clear qy_4
      clear qy_5
      clear qy_6
      clear qy_7
      clear qy_8
      clear qy_9
      clear qy_10
      clear HCy
      have HCy := Aside0.mk hc_
      clear hc_
      clear hBf
      have qx_0 : ∀ q' os', (grow (redrawn w6 q') os').cell? ⟨ga, i * 11, none⟩ = some (.string x.f0) := fun q' os' => cell_regrown (HCx.out 0 _ rfl) q' os'
      have qx_1 : ∀ q' os', (grow (redrawn w6 q') os').cell? ⟨ga, i * 11 + 1, none⟩ = some (.int .i64 x.f1) := fun q' os' => cell_regrown (HCx.out 1 _ rfl) q' os'
      have qx_2 : ∀ q' os', (grow (redrawn w6 q') os').cell? ⟨ga, i * 11 + 2, none⟩ = some (.int .i64 x.f2) := fun q' os' => cell_regrown (HCx.out 2 _ rfl) q' os'
      have qx_3 : ∀ q' os', (grow (redrawn w6 q') os').cell? ⟨ga, i * 11 + 3, none⟩ = some (.int .i64 x.f3.f0) := fun q' os' => cell_regrown (HCx.out 3 _ rfl) q' os'
      have qx_4 : ∀ q' os', (grow (redrawn w6 q') os').cell? ⟨ga, i * 11 + 4, none⟩ = some (.int .i64 x.f3.f1) := fun q' os' => cell_regrown (HCx.out 4 _ rfl) q' os'
      have qx_5 : ∀ q' os', (grow (redrawn w6 q') os').cell? ⟨ga, i * 11 + 5, none⟩ = some (.int .i64 x.f3.f2) := fun q' os' => cell_regrown (HCx.out 5 _ rfl) q' os'
      have qx_6 : ∀ q' os', (grow (redrawn w6 q') os').cell? ⟨ga, i * 11 + 6, none⟩ = some (.int .i64 x.f3.f3) := fun q' os' => cell_regrown (HCx.out 6 _ rfl) q' os'
      have qx_7 : ∀ q' os', (grow (redrawn w6 q') os').cell? ⟨ga, i * 11 + 7, none⟩ = some (.int .i64 x.f3.f4) := fun q' os' => cell_regrown (HCx.out 7 _ rfl) q' os'
      have qx_8 : ∀ q' os', (grow (redrawn w6 q') os').cell? ⟨ga, i * 11 + 8, none⟩ = some (.string x.f4) := fun q' os' => cell_regrown (HCx.out 8 _ rfl) q' os'
      have qx_9 : ∀ q' os', (grow (redrawn w6 q') os').cell? ⟨ga, i * 11 + 9, none⟩ = some (.string x.f5) := fun q' os' => cell_regrown (HCx.out 9 _ rfl) q' os'
      have qx_10 : ∀ q' os', (grow (redrawn w6 q') os').cell? ⟨ga, i * 11 + 10, none⟩ = some (.int .i64 x.f6) := fun q' os' => cell_regrown (HCx.out 10 _ rfl) q' os'
      have hPx : ∀ q' os', Calls Try.prog 23 #[.agg #[.string x.f0, .int .i64 x.f1, .int .i64 x.f2, .int .i64 x.f3.f0, .int .i64 x.f3.f1, .int .i64 x.f3.f2, .int .i64 x.f3.f3, .int .i64 x.f3.f4, .string x.f4, .string x.f5, .int .i64 x.f6]] (grow (redrawn w6 q') os') fun e w' => e = .returned (.string x.f0) ∧ Below (grow (redrawn w6 q') os').heap.size (grow (redrawn w6 q') os') w' := fun q' os' => arch_pathOf.calls _ _ _ _ _ _ _ _ _ _ _ _ _ rfl
      have qy_0 : ∀ q' os', (grow (redrawn w6 q') os').cell? ⟨gb, k * 11, none⟩ = some (.string y.f0) := fun q' os' => cell_regrown (HCy.out 0 _ rfl) q' os'
      have qy_1 : ∀ q' os', (grow (redrawn w6 q') os').cell? ⟨gb, k * 11 + 1, none⟩ = some (.int .i64 y.f1) := fun q' os' => cell_regrown (HCy.out 1 _ rfl) q' os'
      have qy_2 : ∀ q' os', (grow (redrawn w6 q') os').cell? ⟨gb, k * 11 + 2, none⟩ = some (.int .i64 y.f2) := fun q' os' => cell_regrown (HCy.out 2 _ rfl) q' os'
      have qy_3 : ∀ q' os', (grow (redrawn w6 q') os').cell? ⟨gb, k * 11 + 3, none⟩ = some (.int .i64 y.f3.f0) := fun q' os' => cell_regrown (HCy.out 3 _ rfl) q' os'
      have qy_4 : ∀ q' os', (grow (redrawn w6 q') os').cell? ⟨gb, k * 11 + 4, none⟩ = some (.int .i64 y.f3.f1) := fun q' os' => cell_regrown (HCy.out 4 _ rfl) q' os'
      have qy_5 : ∀ q' os', (grow (redrawn w6 q') os').cell? ⟨gb, k * 11 + 5, none⟩ = some (.int .i64 y.f3.f2) := fun q' os' => cell_regrown (HCy.out 5 _ rfl) q' os'
      have qy_6 : ∀ q' os', (grow (redrawn w6 q') os').cell? ⟨gb, k * 11 + 6, none⟩ = some (.int .i64 y.f3.f3) := fun q' os' => cell_regrown (HCy.out 6 _ rfl) q' os'
      have qy_7 : ∀ q' os', (grow (redrawn w6 q') os').cell? ⟨gb, k * 11 + 7, none⟩ = some (.int .i64 y.f3.f4) := fun q' os' => cell_regrown (HCy.out 7 _ rfl) q' os'
      have qy_8 : ∀ q' os', (grow (redrawn w6 q') os').cell? ⟨gb, k * 11 + 8, none⟩ = some (.string y.f4) := fun q' os' => cell_regrown (HCy.out 8 _ rfl) q' os'
      have qy_9 : ∀ q' os', (grow (redrawn w6 q') os').cell? ⟨gb, k * 11 + 9, none⟩ = some (.string y.f5) := fun q' os' => cell_regrown (HCy.out 9 _ rfl) q' os'
      have qy_10 : ∀ q' os', (grow (redrawn w6 q') os').cell? ⟨gb, k * 11 + 10, none⟩ = some (.int .i64 y.f6) := fun q' os' => cell_regrown (HCy.out 10 _ rfl) q' os'
      have hPy : ∀ q' os', Calls Try.prog 23 #[.agg #[.string y.f0, .int .i64 y.f1, .int .i64 y.f2, .int .i64 y.f3.f0, .int .i64 y.f3.f1, .int .i64 y.f3.f2, .int .i64 y.f3.f3, .int .i64 y.f3.f4, .string y.f4, .string y.f5, .int .i64 y.f6]] (grow (redrawn w6 q') os') fun e w' => e = .returned (.string y.f0) ∧ Below (grow (redrawn w6 q') os').heap.size (grow (redrawn w6 q') os') w' := fun q' os' => arch_pathOf.calls _ _ _ _ _ _ _ _ _ _ _ _ _ rfl
      go_wp2
      refine wp_region_quiet_below (by assumption) (by kernel_rfl) ?_
      repeat (go_big_quiet_step ((first | (go_at_call 23; exact Calls.regrown_of (hPx _ _)) | (go_at_call 23; exact Calls.regrown_of (hPy _ _)) | (go_at_call 30; exact Calls.regrown_of (hBf _ _)))))
      refine wpQuiet_nil ?_
      intro _ hw'
      obtain ⟨⟨dq, osq⟩, hw''⟩ := hw'
      subst hw''
      have hb9 := below_regrown w6 dq osq
      generalize grow (redrawn w6 dq) osq = w9 at hb9 ⊢
      have HJ9 := Aside0.mk (HJS.out w6 w9 _ HJ.out hb9)
      have HW9 := Aside0.mk hb9
      clear hb9
      go_wp2
      refine start_ (n := 8) (S := fun _ => True) (ds := [7]) #[false, false, false, false, false, false, false, false] (by kernel_rfl) rfl rfl trivial (fun hHeld => ?_)
      refine with_tabW arch_both_h.tab2 arch_both_h.bits2 (fun HT_ HW_ => ?_)
      have hb7 : Below w9.heap.size w9 w9.drew := below_drew (Below.refl _ _)
      have HJ7 := Aside0.mk (HJS.out _ _ _ HJ9.out hb7)
      have HW7 := Aside0.mk (below_step HW9.out hb7)
      clear hb7
      generalize w9.drew = w7 at HJ7 HW7 hHeld ⊢
      refine pure_ (i := 0) (N := some 20) (v := ?_) (a' := ?_) #[true, false, false, false, false, false, false, false] rfl rfl (any_of HT_.out (by kernel_rfl)) (fun _ _ _ h => h) (Or.inl ⟨by rfl, ?_⟩) ?_ ?_
      rotate_left
      ·intro w'
       go_simp
       with_reducible rfl
      rotate_left
      ·simp only [Act.put, List.setIfInBounds_toArray, List.set_cons_zero, List.set_cons_succ, i64_w, i32_w]
       rfl
      refine pure_ (i := 1) (N := some 21) (v := ?_) (a' := ?_) #[true, true, false, false, false, false, false, false] rfl rfl (any_of HT_.out (by kernel_rfl)) (fun _ _ _ h => h) (Or.inl ⟨by rfl, ?_⟩) ?_ ?_
      rotate_left
      ·intro w'
       go_simp
       with_reducible rfl
      rotate_left
      ·simp only [Act.put, List.setIfInBounds_toArray, List.set_cons_zero, List.set_cons_succ, i64_w, i32_w]
       rfl
      refine pure_ (i := 2) (N := some 22) (v := ?_) (a' := ?_) #[true, true, true, false, false, false, false, false] rfl rfl (any_of HT_.out (by kernel_rfl)) (fun _ _ _ h => h) (Or.inl ⟨by rfl, ?_⟩) ?_ ?_
      rotate_left
      ·intro w'
       go_simp
       with_reducible rfl
      rotate_left
      ·simp only [Act.put, List.setIfInBounds_toArray, List.set_cons_zero, List.set_cons_succ, i64_w, i32_w]
       rfl
      refine pure_ (i := 3) (N := some 23) (v := ?_) (a' := ?_) #[true, true, true, true, false, false, false, false] rfl rfl (any_of HT_.out (by kernel_rfl)) (fun _ _ _ h => h) (Or.inl ⟨by rfl, ?_⟩) ?_ ?_
      rotate_left
      ·intro w'
       go_simp
       with_reducible rfl
      rotate_left
      ·simp only [Act.put, List.setIfInBounds_toArray, List.set_cons_zero, List.set_cons_succ, i64_w, i32_w]
       rfl
      refine pure_ (i := 4) (N := some 24) (v := ?_) (a' := ?_) #[true, true, true, true, true, false, false, false] rfl rfl (any_of HT_.out (by kernel_rfl)) (fun _ _ _ h => h) (Or.inl ⟨by rfl, ?_⟩) ?_ ?_
      rotate_left
      ·intro w'
       go_simp
       with_reducible rfl
      rotate_left
      ·simp only [Act.put, List.setIfInBounds_toArray, List.set_cons_zero, List.set_cons_succ, i64_w, i32_w]
       rfl
      refine pure_ (i := 5) (N := some 25) (v := ?_) (a' := ?_) #[true, true, true, true, true, true, false, false] rfl rfl (any_of HT_.out (by kernel_rfl)) (fun _ _ _ h => h) (Or.inl ⟨by rfl, ?_⟩) ?_ ?_
      rotate_left
      ·intro w'
       go_simp
       with_reducible rfl
      rotate_left
      ·simp only [Act.put, List.setIfInBounds_toArray, List.set_cons_zero, List.set_cons_succ, i64_w, i32_w]
       rfl
      refine pure_ (i := 6) (N := some 26) (v := ?_) (a' := ?_) #[true, true, true, true, true, true, true, false] rfl rfl (any_of HT_.out (by kernel_rfl)) (fun _ _ _ h => h) (Or.inl ⟨by rfl, ?_⟩) ?_ ?_
      rotate_left
      ·intro w'
       go_simp
       with_reducible rfl
      rotate_left
      ·simp only [Act.put, List.setIfInBounds_toArray, List.set_cons_zero, List.set_cons_succ, i64_w, i32_w]
       rfl
      refine last_ (i := 7) (N := some 27) #[true, true, true, true, true, true, true, true] rfl rfl (one_of HT_.out (by kernel_rfl)) (by decide) (fun K hK => ?_)
      refine call_ cl (#[.pointer (some ⟨ga, i * 11, none⟩), .pointer (some ⟨gb, k * 11, none⟩)] ++ cap) (by rfl) rfl (by first | (go_simp; done) | (go_simp; rfl)) ?_
      refine (HCL.out w7 _ (some x) (some y) (some ⟨ga, i * 11, none⟩) (some ⟨gb, k * 11, none⟩) HJ7.out (by simp) HE.out.2 HSx.out ⟨ga, i * 11, rfl, fun j u hj => (HW7.out.cell (World.block_lt_of_cell? w6 _ (HCx.out j u hj))).trans (HCx.out j u hj)⟩ ⟨gb, k * 11, rfl, fun j u hj => (HW7.out.cell (World.block_lt_of_cell? w6 _ (HCy.out j u hj))).trans (HCy.out j u hj)⟩).mono ?_
      rintro e W8 ⟨rfl, hj⟩
      have HJ8 := Aside0.mk hj
      clear hj
      refine ⟨_, rfl, ?_⟩
      refine hK.out _ _ ?_
      clear hK K
      refine done_ (done_of HT_.out (by kernel_rfl)) ?_
      try go_wp2
      go_roundw
      case rel => exact ⟨i + 1, k + 1, E ++ [_], by rw [HW1.out], by rw [HW2.out], ⟨by have := HI.out; have := HIK.out; omega, by have := HI.out; have := HIK.out; omega⟩, ⟨by rw [List.append_assoc, ← HE.out.1]; congr 1; exact HEQ.out.symm, by rw [List.length_append, List.length_singleton]; have := HE0.out.2; omega⟩, HJ8⟩
      case measure =>
       rw [HW1.out, HW2.out]
       show (a.length - Int.toNat ((i + 1 : Nat) : Int)) + (b.length - Int.toNat ((k + 1 : Nat) : Int)) < (a.length - Int.toNat (i : Int)) + (b.length - Int.toNat (k : Int))
       simp only [Int.toNat_natCast]
       have := HI.out
       have := HIK.out
       omega
     ·have r0 : (x.f0.toList == y.f0.toList) = false := beq_eq_false_iff_ne.mpr (fun e => hq ((tl_eq _ _).1 e))
      have r1 : (x.f0.toList != y.f0.toList) = true := bne_iff_ne.mpr (fun e => hq ((tl_eq _ _).1 e))
      have HEQ := Aside0.mk (show bothL (a.drop i) (b.drop k) = (none, some y) :: bothL (a.drop i) (b.drop (k + 1)) from by rw [HDx.out, HDy.out, HBq.out, if_neg (by rw [hbb]; decide), if_pos hq])
      clear hbb hq
      go_wp2
      refine wp_region_quiet_below (by assumption) (by kernel_rfl) ?_
      repeat (go_big_quiet_step ((first | (go_at_call 23; exact Calls.regrown_of (hPx _ _)) | (go_at_call 23; exact Calls.regrown_of (hPy _ _)) | (go_at_call 30; exact Calls.regrown_of (hBf _ _)))))
      refine wpQuiet_nil ?_
      intro _ hw'
      obtain ⟨⟨dq, osq⟩, hw''⟩ := hw'
      subst hw''
      have hb6 := below_regrown wr dq osq
      generalize grow (redrawn wr dq) osq = w6 at hb6 ⊢
      have HJ6 := Aside0.mk (HJS.out wr w6 _ HJ.out hb6)
      clear HJ
      have HJ := HJ6
      clear HJ6
      have hc_ : ∀ j u, (entA x)[j]? = some u → w6.cell? ⟨ga, i * 11 + j, none⟩ = some u := fun j u hj => (hb6.cell (World.block_lt_of_cell? wr _ (HCx.out j u hj))).trans (HCx.out j u hj)
      clear hPx
      clear qx_0
      clear qx_1
      clear qx_2
      clear qx_3
      clear qx_4
      clear qx_5
      clear qx_6
      clear qx_7
      clear qx_8
      clear qx_9
      clear qx_10
      clear HCx
      have HCx := Aside0.mk hc_
      clear hc_
      have hc_ : ∀ j u, (entA y)[j]? = some u → w6.cell? ⟨gb, k * 11 + j, none⟩ = some u := fun j u hj => (hb6.cell (World.block_lt_of_cell? wr _ (HCy.out j u hj))).trans (HCy.out j u hj)
      clear hPy
      clear qy_0
      clear qy_1
      clear qy_2
      clear qy_3
      clear qy_4
      clear qy_5
      clear qy_6
      clear qy_7
      clear qy_8
      clear qy_9
      clear qy_10
      clear HCy
      have HCy := Aside0.mk hc_
      clear hc_
      clear hBf
      have qx_0 : ∀ q' os', (grow (redrawn w6 q') os').cell? ⟨ga, i * 11, none⟩ = some (.string x.f0) := fun q' os' => cell_regrown (HCx.out 0 _ rfl) q' os'
      have qx_1 : ∀ q' os', (grow (redrawn w6 q') os').cell? ⟨ga, i * 11 + 1, none⟩ = some (.int .i64 x.f1) := fun q' os' => cell_regrown (HCx.out 1 _ rfl) q' os'
      have qx_2 : ∀ q' os', (grow (redrawn w6 q') os').cell? ⟨ga, i * 11 + 2, none⟩ = some (.int .i64 x.f2) := fun q' os' => cell_regrown (HCx.out 2 _ rfl) q' os'
      have qx_3 : ∀ q' os', (grow (redrawn w6 q') os').cell? ⟨ga, i * 11 + 3, none⟩ = some (.int .i64 x.f3.f0) := fun q' os' => cell_regrown (HCx.out 3 _ rfl) q' os'
      have qx_4 : ∀ q' os', (grow (redrawn w6 q') os').cell? ⟨ga, i * 11 + 4, none⟩ = some (.int .i64 x.f3.f1) := fun q' os' => cell_regrown (HCx.out 4 _ rfl) q' os'
      have qx_5 : ∀ q' os', (grow (redrawn w6 q') os').cell? ⟨ga, i * 11 + 5, none⟩ = some (.int .i64 x.f3.f2) := fun q' os' => cell_regrown (HCx.out 5 _ rfl) q' os'
      have qx_6 : ∀ q' os', (grow (redrawn w6 q') os').cell? ⟨ga, i * 11 + 6, none⟩ = some (.int .i64 x.f3.f3) := fun q' os' => cell_regrown (HCx.out 6 _ rfl) q' os'
      have qx_7 : ∀ q' os', (grow (redrawn w6 q') os').cell? ⟨ga, i * 11 + 7, none⟩ = some (.int .i64 x.f3.f4) := fun q' os' => cell_regrown (HCx.out 7 _ rfl) q' os'
      have qx_8 : ∀ q' os', (grow (redrawn w6 q') os').cell? ⟨ga, i * 11 + 8, none⟩ = some (.string x.f4) := fun q' os' => cell_regrown (HCx.out 8 _ rfl) q' os'
      have qx_9 : ∀ q' os', (grow (redrawn w6 q') os').cell? ⟨ga, i * 11 + 9, none⟩ = some (.string x.f5) := fun q' os' => cell_regrown (HCx.out 9 _ rfl) q' os'
      have qx_10 : ∀ q' os', (grow (redrawn w6 q') os').cell? ⟨ga, i * 11 + 10, none⟩ = some (.int .i64 x.f6) := fun q' os' => cell_regrown (HCx.out 10 _ rfl) q' os'
      have hPx : ∀ q' os', Calls Try.prog 23 #[.agg #[.string x.f0, .int .i64 x.f1, .int .i64 x.f2, .int .i64 x.f3.f0, .int .i64 x.f3.f1, .int .i64 x.f3.f2, .int .i64 x.f3.f3, .int .i64 x.f3.f4, .string x.f4, .string x.f5, .int .i64 x.f6]] (grow (redrawn w6 q') os') fun e w' => e = .returned (.string x.f0) ∧ Below (grow (redrawn w6 q') os').heap.size (grow (redrawn w6 q') os') w' := fun q' os' => arch_pathOf.calls _ _ _ _ _ _ _ _ _ _ _ _ _ rfl
      have qy_0 : ∀ q' os', (grow (redrawn w6 q') os').cell? ⟨gb, k * 11, none⟩ = some (.string y.f0) := fun q' os' => cell_regrown (HCy.out 0 _ rfl) q' os'
      have qy_1 : ∀ q' os', (grow (redrawn w6 q') os').cell? ⟨gb, k * 11 + 1, none⟩ = some (.int .i64 y.f1) := fun q' os' => cell_regrown (HCy.out 1 _ rfl) q' os'
      have qy_2 : ∀ q' os', (grow (redrawn w6 q') os').cell? ⟨gb, k * 11 + 2, none⟩ = some (.int .i64 y.f2) := fun q' os' => cell_regrown (HCy.out 2 _ rfl) q' os'
      have qy_3 : ∀ q' os', (grow (redrawn w6 q') os').cell? ⟨gb, k * 11 + 3, none⟩ = some (.int .i64 y.f3.f0) := fun q' os' => cell_regrown (HCy.out 3 _ rfl) q' os'
      have qy_4 : ∀ q' os', (grow (redrawn w6 q') os').cell? ⟨gb, k * 11 + 4, none⟩ = some (.int .i64 y.f3.f1) := fun q' os' => cell_regrown (HCy.out 4 _ rfl) q' os'
      have qy_5 : ∀ q' os', (grow (redrawn w6 q') os').cell? ⟨gb, k * 11 + 5, none⟩ = some (.int .i64 y.f3.f2) := fun q' os' => cell_regrown (HCy.out 5 _ rfl) q' os'
      have qy_6 : ∀ q' os', (grow (redrawn w6 q') os').cell? ⟨gb, k * 11 + 6, none⟩ = some (.int .i64 y.f3.f3) := fun q' os' => cell_regrown (HCy.out 6 _ rfl) q' os'
      have qy_7 : ∀ q' os', (grow (redrawn w6 q') os').cell? ⟨gb, k * 11 + 7, none⟩ = some (.int .i64 y.f3.f4) := fun q' os' => cell_regrown (HCy.out 7 _ rfl) q' os'
      have qy_8 : ∀ q' os', (grow (redrawn w6 q') os').cell? ⟨gb, k * 11 + 8, none⟩ = some (.string y.f4) := fun q' os' => cell_regrown (HCy.out 8 _ rfl) q' os'
      have qy_9 : ∀ q' os', (grow (redrawn w6 q') os').cell? ⟨gb, k * 11 + 9, none⟩ = some (.string y.f5) := fun q' os' => cell_regrown (HCy.out 9 _ rfl) q' os'
      have qy_10 : ∀ q' os', (grow (redrawn w6 q') os').cell? ⟨gb, k * 11 + 10, none⟩ = some (.int .i64 y.f6) := fun q' os' => cell_regrown (HCy.out 10 _ rfl) q' os'
      have hPy : ∀ q' os', Calls Try.prog 23 #[.agg #[.string y.f0, .int .i64 y.f1, .int .i64 y.f2, .int .i64 y.f3.f0, .int .i64 y.f3.f1, .int .i64 y.f3.f2, .int .i64 y.f3.f3, .int .i64 y.f3.f4, .string y.f4, .string y.f5, .int .i64 y.f6]] (grow (redrawn w6 q') os') fun e w' => e = .returned (.string y.f0) ∧ Below (grow (redrawn w6 q') os').heap.size (grow (redrawn w6 q') os') w' := fun q' os' => arch_pathOf.calls _ _ _ _ _ _ _ _ _ _ _ _ _ rfl
      go_wp2
      refine wp_region_quiet_below (by assumption) (by kernel_rfl) ?_
      repeat (go_big_quiet_step ((first | (go_at_call 23; exact Calls.regrown_of (hPx _ _)) | (go_at_call 23; exact Calls.regrown_of (hPy _ _)) | (go_at_call 30; exact Calls.regrown_of (hBf _ _)))))
      refine wpQuiet_nil ?_
      intro _ hw'
      obtain ⟨⟨dq, osq⟩, hw''⟩ := hw'
      subst hw''
      have hb9 := below_regrown w6 dq osq
      generalize grow (redrawn w6 dq) osq = w9 at hb9 ⊢
      have HJ9 := Aside0.mk (HJS.out w6 w9 _ HJ.out hb9)
      have HW9 := Aside0.mk hb9
      clear hb9
      go_wp2_with (first | (go_at_fn cl; (refine (HCL.out w9 _ none (some y) none (some ⟨gb, k * 11, none⟩) HJ9.out (by simp) HE.out.2 HSy.out rfl ⟨gb, k * 11, rfl, fun j u hj => (HW9.out.cell (World.block_lt_of_cell? w6 _ (HCy.out j u hj))).trans (HCy.out j u hj)⟩).mono ?_); rintro e W8 ⟨rfl, hj⟩; have HJ8 := Aside0.mk hj; clear hj))
      go_roundw
      case rel => exact ⟨i, k + 1, E ++ [_], rfl, by rw [HW2.out], ⟨by have := HI.out; have := HIK.out; omega, by have := HI.out; have := HIK.out; omega⟩, ⟨by rw [List.append_assoc, ← HE.out.1]; congr 1; exact HEQ.out.symm, by rw [List.length_append, List.length_singleton]; have := HE0.out.2; omega⟩, HJ8⟩
      case measure =>
       rw [HW2.out]
       show (a.length - Int.toNat ((i : Nat) : Int)) + (b.length - Int.toNat ((k + 1 : Nat) : Int)) < (a.length - Int.toNat (i : Int)) + (b.length - Int.toNat (k : Int))
       simp only [Int.toNat_natCast]
       have := HI.out
       have := HIK.out
       omega
   ·obtain rfl : k = b.length := by have := HI.out; omega
    have HIK := Aside0.mk hi
    have HEQ := Aside0.mk (show bothL (a.drop i) (b.drop b.length) = (some x, none) :: bothL (a.drop (i + 1)) (b.drop b.length) from by rw [HDx.out, show b.drop b.length = [] from List.drop_eq_nil_of_le (by omega), bothL_a])
    clear hi hk
    go_wp2
    refine wp_region_quiet_below (by assumption) (by kernel_rfl) ?_
    repeat (go_big_quiet_step ((first | (go_at_call 23; exact Calls.regrown_of (hPx _ _)) | (go_at_call 23; exact Calls.regrown_of (hPy _ _)) | (go_at_call 30; exact Calls.regrown_of (hBf _ _)))))
    refine wpQuiet_nil ?_
    intro _ hw'
    obtain ⟨⟨dq, osq⟩, hw''⟩ := hw'
    subst hw''
    have hb9 := below_regrown wr dq osq
    generalize grow (redrawn wr dq) osq = w9 at hb9 ⊢
    have HJ9 := Aside0.mk (HJS.out wr w9 _ HJ.out hb9)
    have HW9 := Aside0.mk hb9
    clear hb9
    go_wp2_with (first | (go_at_fn cl; (refine (HCL.out w9 _ (some x) none (some ⟨ga, i * 11, none⟩) none HJ9.out (by simp) HE.out.2 HSx.out ⟨ga, i * 11, rfl, fun j u hj => (HW9.out.cell (World.block_lt_of_cell? wr _ (HCx.out j u hj))).trans (HCx.out j u hj)⟩ rfl).mono ?_); rintro e W8 ⟨rfl, hj⟩; have HJ8 := Aside0.mk hj; clear hj))
    go_roundw
    case rel => exact ⟨i + 1, b.length, E ++ [_], by rw [HW1.out], rfl, ⟨by have := HI.out; have := HIK.out; omega, by have := HI.out; have := HIK.out; omega⟩, ⟨by rw [List.append_assoc, ← HE.out.1]; congr 1; exact HEQ.out.symm, by rw [List.length_append, List.length_singleton]; have := HE0.out.2; omega⟩, HJ8⟩
    case measure =>
     rw [HW1.out]
     show (a.length - Int.toNat ((i + 1 : Nat) : Int)) + (b.length - Int.toNat ((b.length : Nat) : Int)) < (a.length - Int.toNat (i : Int)) + (b.length - Int.toNat (b.length : Int))
     simp only [Int.toNat_natCast]
     have := HI.out
     have := HIK.out
     omega
  ·obtain rfl : i = a.length := by have := HI.out; omega
   by_cases hk : k < b.length
   ·have d3 : decide ((k : Int) < (b.length : Int)) = true := decide_eq_true (by omega)
    have d4 : ((k : Int) == (b.length : Int)) = false := beq_eq_false_iff_ne.mpr (by omega)
    have d4' : (k == b.length) = false := beq_eq_false_iff_ne.mpr (by omega)
    obtain ⟨gb, cb_, eb, _, _, _, _⟩ := Kd.R_form (HJb.out wr _ HJ.out) (by omega)
    injection eb with e1 e2 e3
    subst e1
    subst e3
    clear e2
    obtain ⟨y, hy⟩ : ∃ y, rd_T43 b (k : Int) = y := ⟨_, rfl⟩
    have hye : b[k] = y := by rw [← hy, rdE_get b k (by omega)]
    obtain ⟨cy, _, hMy, hcy, _⟩ := Kd.R_elem (HJb.out wr _ HJ.out) z43 (k : Int) (by omega) (by omega)
    obtain rfl := k43_openM hMy
    rw [Int.toNat_natCast] at hcy
    replace hcy : ∀ j u, (entA (rd_T43 b (k : Int)))[j]? = some u → wr.cell? ⟨gb, k * 11 + j, none⟩ = some u := hcy
    rw [hy] at hcy
    have HCy := Aside0.mk hcy
    have HDy := Aside0.mk (show b.drop k = y :: b.drop (k + 1) from by rw [List.drop_eq_getElem_cons (by omega), hye])
    have HSy := Aside0.mk (HZb.out y (hye ▸ List.getElem_mem (by omega)))
    clear hMy hcy hy hye
    have py1 : (0 ≤ (k : Int)) = True := eq_true (by omega)
    have py2 : ((k : Int) < (b.length : Int)) = True := eq_true (by omega)
    have HIK := Aside0.mk hk
    have HEQ := Aside0.mk (show bothL (a.drop a.length) (b.drop k) = (none, some y) :: bothL (a.drop a.length) (b.drop (k + 1)) from by rw [HDy.out, show a.drop a.length = [] from List.drop_eq_nil_of_le (by omega), bothL_b])
    clear hi hk
    go_wp2
    refine wp_region_quiet_below (by assumption) (by kernel_rfl) ?_
    repeat (go_big_quiet_step ((first | (go_at_call 23; exact Calls.regrown_of (hPx _ _)) | (go_at_call 23; exact Calls.regrown_of (hPy _ _)) | (go_at_call 30; exact Calls.regrown_of (hBf _ _)))))
    refine wpQuiet_nil ?_
    intro _ hw'
    obtain ⟨⟨dq, osq⟩, hw''⟩ := hw'
    subst hw''
    have hb6 := below_regrown wr dq osq
    generalize grow (redrawn wr dq) osq = w6 at hb6 ⊢
    have HJ6 := Aside0.mk (HJS.out wr w6 _ HJ.out hb6)
    clear HJ
    have HJ := HJ6
    clear HJ6
    have hc_ : ∀ j u, (entA y)[j]? = some u → w6.cell? ⟨gb, k * 11 + j, none⟩ = some u := fun j u hj => (hb6.cell (World.block_lt_of_cell? wr _ (HCy.out j u hj))).trans (HCy.out j u hj)
    clear HCy
    have HCy := Aside0.mk hc_
    clear hc_
    go_wp2
    refine wp_region_quiet_below (by assumption) (by kernel_rfl) ?_
    repeat (go_big_quiet_step ((first | (go_at_call 23; exact Calls.regrown_of (hPx _ _)) | (go_at_call 23; exact Calls.regrown_of (hPy _ _)) | (go_at_call 30; exact Calls.regrown_of (hBf _ _)))))
    refine wpQuiet_nil ?_
    intro _ hw'
    obtain ⟨⟨dq, osq⟩, hw''⟩ := hw'
    subst hw''
    have hb9 := below_regrown w6 dq osq
    generalize grow (redrawn w6 dq) osq = w9 at hb9 ⊢
    have HJ9 := Aside0.mk (HJS.out w6 w9 _ HJ.out hb9)
    have HW9 := Aside0.mk hb9
    clear hb9
    go_wp2_with (first | (go_at_fn cl; (refine (HCL.out w9 _ none (some y) none (some ⟨gb, k * 11, none⟩) HJ9.out (by simp) HE.out.2 HSy.out rfl ⟨gb, k * 11, rfl, fun j u hj => (HW9.out.cell (World.block_lt_of_cell? w6 _ (HCy.out j u hj))).trans (HCy.out j u hj)⟩).mono ?_); rintro e W8 ⟨rfl, hj⟩; have HJ8 := Aside0.mk hj; clear hj))
    go_roundw
    case rel => exact ⟨a.length, k + 1, E ++ [_], rfl, by rw [HW2.out], ⟨by have := HI.out; have := HIK.out; omega, by have := HI.out; have := HIK.out; omega⟩, ⟨by rw [List.append_assoc, ← HE.out.1]; congr 1; exact HEQ.out.symm, by rw [List.length_append, List.length_singleton]; have := HE0.out.2; omega⟩, HJ8⟩
    case measure =>
     rw [HW2.out]
     show (a.length - Int.toNat ((a.length : Nat) : Int)) + (b.length - Int.toNat ((k + 1 : Nat) : Int)) < (a.length - Int.toNat (a.length : Int)) + (b.length - Int.toNat (k : Int))
     simp only [Int.toNat_natCast]
     have := HI.out
     have := HIK.out
     omega
   ·obtain rfl : k = b.length := by have := HI.out; omega
    have HEQ := Aside0.mk (show E = bothL a b from by
     have h := HE.out.1
     rwa [List.drop_eq_nil_of_le (by omega), List.drop_eq_nil_of_le (by omega), bothL_nil, List.append_nil] at h)
    clear hi hk
    go_wp2
    go_end0
    exact ⟨rfl, HEQ.out ▸ HJ.out⟩
end Go.Proofs.Ytodbmagneaiocaa.PA
namespace Go.Proofs.Ytodbmagneaiocaa.PA
open Go.RowKit Go.Proofs.YtodbmagneaiocaaW.PrintWords Go.Proofs.YtodbmagneaiocaaW.PrintLast Go.Proofs.YtodbmagneaiocaaW.PrintMore
attribute [local go_sem] max2_int min2_int max_two min_two max_three min_three max_four min_four
set_option linter.unusedVariables false
set_option linter.unusedSimpArgs false
set_option maxHeartbeats 2000000 in
set_option maxRecDepth 100000 in
theorem became_nil (p : Option Addr) (w : World) : Calls Try.prog 25 #[.pointer none, .pointer p] w fun e w' => e = .returned (.int .i64 1) ∧ Below w.heap.size w w' := by
 have HB := Aside0.mk (Below.refl w.heap.size w)
 go_enter Try.func25, Try.ntmps25
 go_wp2
 go_ret
 exact ⟨rfl, HB.out⟩
set_option maxHeartbeats 2000000 in
set_option maxRecDepth 100000 in
theorem became_end (a : Addr) (w : World) : Calls Try.prog 25 #[.pointer (some a), .pointer none] w fun e w' => e = .returned (.int .i64 2) ∧ Below w.heap.size w w' := by
 have HB := Aside0.mk (Below.refl w.heap.size w)
 go_enter Try.func25, Try.ntmps25
 go_wp2
 go_ret
 exact ⟨rfl, HB.out⟩
set_option maxHeartbeats 8000000 in
set_option maxRecDepth 100000 in
theorem became_two (x y : S43) (g1 o1 g2 o2 : Nat) (w : World) (hx : ∀ j u, (entA x)[j]? = some u → w.cell? ⟨g1, o1 + j, none⟩ = some u) (hy : ∀ j u, (entA y)[j]? = some u → w.cell? ⟨g2, o2 + j, none⟩ = some u) :
  Calls Try.prog 25 #[.pointer (some ⟨g1, o1, none⟩), .pointer (some ⟨g2, o2, none⟩)] w fun e w' => e = .returned (.int .i64 (becameI (some x) (some y))) ∧ Below w.heap.size w w' := by
 have hu1 := Try.underlying43
 have hu2 := Try.underlying41
 have hx_0 : w.cell? ⟨g1, o1, none⟩ = some (.string x.f0) := hx 0 _ rfl
 have hy_0 : w.cell? ⟨g2, o2, none⟩ = some (.string y.f0) := hy 0 _ rfl
 have hx_1 : w.cell? ⟨g1, o1 + 1, none⟩ = some (.int .i64 x.f1) := hx 1 _ rfl
 have hy_1 : w.cell? ⟨g2, o2 + 1, none⟩ = some (.int .i64 y.f1) := hy 1 _ rfl
 have hx_2 : w.cell? ⟨g1, o1 + 2, none⟩ = some (.int .i64 x.f2) := hx 2 _ rfl
 have hy_2 : w.cell? ⟨g2, o2 + 2, none⟩ = some (.int .i64 y.f2) := hy 2 _ rfl
 have hx_3 : w.cell? ⟨g1, o1 + 3, none⟩ = some (.int .i64 x.f3.f0) := hx 3 _ rfl
 have hy_3 : w.cell? ⟨g2, o2 + 3, none⟩ = some (.int .i64 y.f3.f0) := hy 3 _ rfl
 have hx_4 : w.cell? ⟨g1, o1 + 4, none⟩ = some (.int .i64 x.f3.f1) := hx 4 _ rfl
 have hy_4 : w.cell? ⟨g2, o2 + 4, none⟩ = some (.int .i64 y.f3.f1) := hy 4 _ rfl
 have hx_5 : w.cell? ⟨g1, o1 + 5, none⟩ = some (.int .i64 x.f3.f2) := hx 5 _ rfl
 have hy_5 : w.cell? ⟨g2, o2 + 5, none⟩ = some (.int .i64 y.f3.f2) := hy 5 _ rfl
 have hx_6 : w.cell? ⟨g1, o1 + 6, none⟩ = some (.int .i64 x.f3.f3) := hx 6 _ rfl
 have hy_6 : w.cell? ⟨g2, o2 + 6, none⟩ = some (.int .i64 y.f3.f3) := hy 6 _ rfl
 have hx_7 : w.cell? ⟨g1, o1 + 7, none⟩ = some (.int .i64 x.f3.f4) := hx 7 _ rfl
 have hy_7 : w.cell? ⟨g2, o2 + 7, none⟩ = some (.int .i64 y.f3.f4) := hy 7 _ rfl
 have hx_8 : w.cell? ⟨g1, o1 + 8, none⟩ = some (.string x.f4) := hx 8 _ rfl
 have hy_8 : w.cell? ⟨g2, o2 + 8, none⟩ = some (.string y.f4) := hy 8 _ rfl
 have hx_9 : w.cell? ⟨g1, o1 + 9, none⟩ = some (.string x.f5) := hx 9 _ rfl
 have hy_9 : w.cell? ⟨g2, o2 + 9, none⟩ = some (.string y.f5) := hy 9 _ rfl
 have hx_10 : w.cell? ⟨g1, o1 + 10, none⟩ = some (.int .i64 x.f6) := hx 10 _ rfl
 have hy_10 : w.cell? ⟨g2, o2 + 10, none⟩ = some (.int .i64 y.f6) := hy 10 _ rfl
 clear hx hy
 have HB := Aside0.mk (Below.refl w.heap.size w)
 by_cases k : x.f1 = y.f1
 ·have k_ := Aside0.mk k
  have ke : (x.f1 == y.f1) = true := beq_iff_eq.mpr (by rw [k])
  have kn : (x.f1 != y.f1) = false := bne_eq_false_iff_eq.mpr (by rw [k])
  clear k
  by_cases f : x.f1 = 1
  ·have f_ := Aside0.mk f
   have fe : (x.f1 == 1) = true := beq_iff_eq.mpr (by rw [f])
   have fn : (x.f1 != 1) = false := bne_eq_false_iff_eq.mpr (by rw [f])
   clear f
   by_cases z : x.f2 = y.f2
   ·have z_ := Aside0.mk z
    have ze : (x.f2 == y.f2) = true := beq_iff_eq.mpr (by rw [z])
    have zn : (x.f2 != y.f2) = false := bne_eq_false_iff_eq.mpr (by rw [z])
    clear z
    by_cases s : x.f5 = y.f5
    ·have s_ := Aside0.mk s
     have se : (x.f5.toList == y.f5.toList) = true := beq_iff_eq.mpr (by rw [s])
     have sn : (x.f5.toList != y.f5.toList) = false := bne_eq_false_iff_eq.mpr (by rw [s])
     clear s
     by_cases l : x.f1 = 3
     ·have l_ := Aside0.mk l
      have le : (x.f1 == 3) = true := beq_iff_eq.mpr (by rw [l])
      have ln : (x.f1 != 3) = false := bne_eq_false_iff_eq.mpr (by rw [l])
      clear l
      exact absurd (f_.out.symm.trans l_.out) (by decide)
     ·have l_ := Aside0.mk l
      have le : (x.f1 == 3) = false := beq_eq_false_iff_ne.mpr l
      have ln : (x.f1 != 3) = true := bne_iff_ne.mpr l
      clear l
      cases m0 : (x.f3.f0 == y.f3.f0) with
      | false =>
       have HR := Aside0.mk (show becameI (some x) (some y) = 4 from by rw [became_eq, if_neg (fun h => by rcases h with h | ⟨_, h | h⟩ | ⟨h, _⟩; exact h k_.out; exact h z_.out; exact h s_.out; exact l_.out h), if_neg (by unfold mEq; simp only [m0, Bool.false_and, Bool.and_false]; decide)])
       go_enter Try.func25, Try.ntmps25
       go_wp2
       try (go_quiet (fail); go_wp2)
       try (go_quiet (fail); go_wp2)
       try (go_quiet (fail); go_wp2)
       try (go_quiet (fail); go_wp2)
       go_ret
       exact ⟨by first | rfl | (rw [HR.out]; rfl), by repeat (first | (with_reducible first | exact HB.out | apply below_alloc | apply pw_below_drewN | apply below_drew1) | exact HB.out)⟩
      | true =>
       cases m1 : (x.f3.f1 == y.f3.f1) with
       | false =>
        have HR := Aside0.mk (show becameI (some x) (some y) = 4 from by rw [became_eq, if_neg (fun h => by rcases h with h | ⟨_, h | h⟩ | ⟨h, _⟩; exact h k_.out; exact h z_.out; exact h s_.out; exact l_.out h), if_neg (by unfold mEq; simp only [m1, Bool.false_and, Bool.and_false]; decide)])
        go_enter Try.func25, Try.ntmps25
        go_wp2
        try (go_quiet (fail); go_wp2)
        try (go_quiet (fail); go_wp2)
        try (go_quiet (fail); go_wp2)
        try (go_quiet (fail); go_wp2)
        go_ret
        exact ⟨by first | rfl | (rw [HR.out]; rfl), by repeat (first | (with_reducible first | exact HB.out | apply below_alloc | apply pw_below_drewN | apply below_drew1) | exact HB.out)⟩
       | true =>
        cases m2 : (x.f3.f2 == y.f3.f2) with
        | false =>
         have HR := Aside0.mk (show becameI (some x) (some y) = 4 from by rw [became_eq, if_neg (fun h => by rcases h with h | ⟨_, h | h⟩ | ⟨h, _⟩; exact h k_.out; exact h z_.out; exact h s_.out; exact l_.out h), if_neg (by unfold mEq; simp only [m2, Bool.false_and, Bool.and_false]; decide)])
         go_enter Try.func25, Try.ntmps25
         go_wp2
         try (go_quiet (fail); go_wp2)
         try (go_quiet (fail); go_wp2)
         try (go_quiet (fail); go_wp2)
         try (go_quiet (fail); go_wp2)
         go_ret
         exact ⟨by first | rfl | (rw [HR.out]; rfl), by repeat (first | (with_reducible first | exact HB.out | apply below_alloc | apply pw_below_drewN | apply below_drew1) | exact HB.out)⟩
        | true =>
         cases m3 : (x.f3.f3 == y.f3.f3) with
         | false =>
          have HR := Aside0.mk (show becameI (some x) (some y) = 4 from by rw [became_eq, if_neg (fun h => by rcases h with h | ⟨_, h | h⟩ | ⟨h, _⟩; exact h k_.out; exact h z_.out; exact h s_.out; exact l_.out h), if_neg (by unfold mEq; simp only [m3, Bool.false_and, Bool.and_false]; decide)])
          go_enter Try.func25, Try.ntmps25
          go_wp2
          try (go_quiet (fail); go_wp2)
          try (go_quiet (fail); go_wp2)
          try (go_quiet (fail); go_wp2)
          try (go_quiet (fail); go_wp2)
          go_ret
          exact ⟨by first | rfl | (rw [HR.out]; rfl), by repeat (first | (with_reducible first | exact HB.out | apply below_alloc | apply pw_below_drewN | apply below_drew1) | exact HB.out)⟩
         | true =>
          cases m4 : (x.f3.f4 == y.f3.f4) with
          | false =>
           have HR := Aside0.mk (show becameI (some x) (some y) = 4 from by rw [became_eq, if_neg (fun h => by rcases h with h | ⟨_, h | h⟩ | ⟨h, _⟩; exact h k_.out; exact h z_.out; exact h s_.out; exact l_.out h), if_neg (by unfold mEq; simp only [m4, Bool.false_and, Bool.and_false]; decide)])
           go_enter Try.func25, Try.ntmps25
           go_wp2
           try (go_quiet (fail); go_wp2)
           try (go_quiet (fail); go_wp2)
           try (go_quiet (fail); go_wp2)
           try (go_quiet (fail); go_wp2)
           go_ret
           exact ⟨by first | rfl | (rw [HR.out]; rfl), by repeat (first | (with_reducible first | exact HB.out | apply below_alloc | apply pw_below_drewN | apply below_drew1) | exact HB.out)⟩
          | true =>
           have HR := Aside0.mk (show becameI (some x) (some y) = 0 from by rw [became_eq, if_neg (fun h => by rcases h with h | ⟨_, h | h⟩ | ⟨h, _⟩; exact h k_.out; exact h z_.out; exact h s_.out; exact l_.out h), if_pos (by unfold mEq; rw [m0, m1, m2, m3, m4]; rfl)])
           go_enter Try.func25, Try.ntmps25
           go_wp2
           try (go_quiet (fail); go_wp2)
           try (go_quiet (fail); go_wp2)
           try (go_quiet (fail); go_wp2)
           try (go_quiet (fail); go_wp2)
           go_ret
           exact ⟨by first | rfl | (rw [HR.out]; rfl), by repeat (first | (with_reducible first | exact HB.out | apply below_alloc | apply pw_below_drewN | apply below_drew1) | exact HB.out)⟩
    ·have s_ := Aside0.mk s
     have se : (x.f5.toList == y.f5.toList) = false := beq_eq_false_iff_ne.mpr (fun e => s ((tl_eq _ _).1 e))
     have sn : (x.f5.toList != y.f5.toList) = true := bne_iff_ne.mpr (fun e => s ((tl_eq _ _).1 e))
     clear s
     have HR := Aside0.mk (show becameI (some x) (some y) = 3 from by rw [became_eq]; exact if_pos (Or.inr (Or.inl ⟨f_.out, Or.inr s_.out⟩)))
     go_enter Try.func25, Try.ntmps25
     go_wp2
     try (go_quiet (fail); go_wp2)
     try (go_quiet (fail); go_wp2)
     try (go_quiet (fail); go_wp2)
     try (go_quiet (fail); go_wp2)
     go_ret
     exact ⟨by first | rfl | (rw [HR.out]; rfl), by repeat (first | (with_reducible first | exact HB.out | apply below_alloc | apply pw_below_drewN | apply below_drew1) | exact HB.out)⟩
   ·have z_ := Aside0.mk z
    have ze : (x.f2 == y.f2) = false := beq_eq_false_iff_ne.mpr z
    have zn : (x.f2 != y.f2) = true := bne_iff_ne.mpr z
    clear z
    have HR := Aside0.mk (show becameI (some x) (some y) = 3 from by rw [became_eq]; exact if_pos (Or.inr (Or.inl ⟨f_.out, Or.inl z_.out⟩)))
    go_enter Try.func25, Try.ntmps25
    go_wp2
    try (go_quiet (fail); go_wp2)
    try (go_quiet (fail); go_wp2)
    try (go_quiet (fail); go_wp2)
    try (go_quiet (fail); go_wp2)
    go_ret
    exact ⟨by first | rfl | (rw [HR.out]; rfl), by repeat (first | (with_reducible first | exact HB.out | apply below_alloc | apply pw_below_drewN | apply below_drew1) | exact HB.out)⟩
  ·have f_ := Aside0.mk f
   have fe : (x.f1 == 1) = false := beq_eq_false_iff_ne.mpr f
   have fn : (x.f1 != 1) = true := bne_iff_ne.mpr f
   clear f
   by_cases l : x.f1 = 3
   ·have l_ := Aside0.mk l
    have le : (x.f1 == 3) = true := beq_iff_eq.mpr (by rw [l])
    have ln : (x.f1 != 3) = false := bne_eq_false_iff_eq.mpr (by rw [l])
    clear l
    by_cases t : x.f4 = y.f4
    ·have t_ := Aside0.mk t
     have te : (x.f4.toList == y.f4.toList) = true := beq_iff_eq.mpr (by rw [t])
     have tn : (x.f4.toList != y.f4.toList) = false := bne_eq_false_iff_eq.mpr (by rw [t])
     clear t
     cases m0 : (x.f3.f0 == y.f3.f0) with
     | false =>
      have HR := Aside0.mk (show becameI (some x) (some y) = 4 from by rw [became_eq, if_neg (fun h => by rcases h with h | ⟨h, _⟩ | ⟨_, h⟩; exact h k_.out; exact f_.out h; exact h t_.out), if_neg (by unfold mEq; simp only [m0, Bool.false_and, Bool.and_false]; decide)])
      go_enter Try.func25, Try.ntmps25
      go_wp2
      try (go_quiet (fail); go_wp2)
      try (go_quiet (fail); go_wp2)
      try (go_quiet (fail); go_wp2)
      try (go_quiet (fail); go_wp2)
      go_ret
      exact ⟨by first | rfl | (rw [HR.out]; rfl), by repeat (first | (with_reducible first | exact HB.out | apply below_alloc | apply pw_below_drewN | apply below_drew1) | exact HB.out)⟩
     | true =>
      cases m1 : (x.f3.f1 == y.f3.f1) with
      | false =>
       have HR := Aside0.mk (show becameI (some x) (some y) = 4 from by rw [became_eq, if_neg (fun h => by rcases h with h | ⟨h, _⟩ | ⟨_, h⟩; exact h k_.out; exact f_.out h; exact h t_.out), if_neg (by unfold mEq; simp only [m1, Bool.false_and, Bool.and_false]; decide)])
       go_enter Try.func25, Try.ntmps25
       go_wp2
       try (go_quiet (fail); go_wp2)
       try (go_quiet (fail); go_wp2)
       try (go_quiet (fail); go_wp2)
       try (go_quiet (fail); go_wp2)
       go_ret
       exact ⟨by first | rfl | (rw [HR.out]; rfl), by repeat (first | (with_reducible first | exact HB.out | apply below_alloc | apply pw_below_drewN | apply below_drew1) | exact HB.out)⟩
      | true =>
       cases m2 : (x.f3.f2 == y.f3.f2) with
       | false =>
        have HR := Aside0.mk (show becameI (some x) (some y) = 4 from by rw [became_eq, if_neg (fun h => by rcases h with h | ⟨h, _⟩ | ⟨_, h⟩; exact h k_.out; exact f_.out h; exact h t_.out), if_neg (by unfold mEq; simp only [m2, Bool.false_and, Bool.and_false]; decide)])
        go_enter Try.func25, Try.ntmps25
        go_wp2
        try (go_quiet (fail); go_wp2)
        try (go_quiet (fail); go_wp2)
        try (go_quiet (fail); go_wp2)
        try (go_quiet (fail); go_wp2)
        go_ret
        exact ⟨by first | rfl | (rw [HR.out]; rfl), by repeat (first | (with_reducible first | exact HB.out | apply below_alloc | apply pw_below_drewN | apply below_drew1) | exact HB.out)⟩
       | true =>
        cases m3 : (x.f3.f3 == y.f3.f3) with
        | false =>
         have HR := Aside0.mk (show becameI (some x) (some y) = 4 from by rw [became_eq, if_neg (fun h => by rcases h with h | ⟨h, _⟩ | ⟨_, h⟩; exact h k_.out; exact f_.out h; exact h t_.out), if_neg (by unfold mEq; simp only [m3, Bool.false_and, Bool.and_false]; decide)])
         go_enter Try.func25, Try.ntmps25
         go_wp2
         try (go_quiet (fail); go_wp2)
         try (go_quiet (fail); go_wp2)
         try (go_quiet (fail); go_wp2)
         try (go_quiet (fail); go_wp2)
         go_ret
         exact ⟨by first | rfl | (rw [HR.out]; rfl), by repeat (first | (with_reducible first | exact HB.out | apply below_alloc | apply pw_below_drewN | apply below_drew1) | exact HB.out)⟩
        | true =>
         cases m4 : (x.f3.f4 == y.f3.f4) with
         | false =>
          have HR := Aside0.mk (show becameI (some x) (some y) = 4 from by rw [became_eq, if_neg (fun h => by rcases h with h | ⟨h, _⟩ | ⟨_, h⟩; exact h k_.out; exact f_.out h; exact h t_.out), if_neg (by unfold mEq; simp only [m4, Bool.false_and, Bool.and_false]; decide)])
          go_enter Try.func25, Try.ntmps25
          go_wp2
          try (go_quiet (fail); go_wp2)
          try (go_quiet (fail); go_wp2)
          try (go_quiet (fail); go_wp2)
          try (go_quiet (fail); go_wp2)
          go_ret
          exact ⟨by first | rfl | (rw [HR.out]; rfl), by repeat (first | (with_reducible first | exact HB.out | apply below_alloc | apply pw_below_drewN | apply below_drew1) | exact HB.out)⟩
         | true =>
          have HR := Aside0.mk (show becameI (some x) (some y) = 0 from by rw [became_eq, if_neg (fun h => by rcases h with h | ⟨h, _⟩ | ⟨_, h⟩; exact h k_.out; exact f_.out h; exact h t_.out), if_pos (by unfold mEq; rw [m0, m1, m2, m3, m4]; rfl)])
          go_enter Try.func25, Try.ntmps25
          go_wp2
          try (go_quiet (fail); go_wp2)
          try (go_quiet (fail); go_wp2)
          try (go_quiet (fail); go_wp2)
          try (go_quiet (fail); go_wp2)
          go_ret
          exact ⟨by first | rfl | (rw [HR.out]; rfl), by repeat (first | (with_reducible first | exact HB.out | apply below_alloc | apply pw_below_drewN | apply below_drew1) | exact HB.out)⟩
    ·have t_ := Aside0.mk t
     have te : (x.f4.toList == y.f4.toList) = false := beq_eq_false_iff_ne.mpr (fun e => t ((tl_eq _ _).1 e))
     have tn : (x.f4.toList != y.f4.toList) = true := bne_iff_ne.mpr (fun e => t ((tl_eq _ _).1 e))
     clear t
     have HR := Aside0.mk (show becameI (some x) (some y) = 3 from by rw [became_eq]; exact if_pos (Or.inr (Or.inr ⟨l_.out, t_.out⟩)))
     go_enter Try.func25, Try.ntmps25
     go_wp2
     try (go_quiet (fail); go_wp2)
     try (go_quiet (fail); go_wp2)
     try (go_quiet (fail); go_wp2)
     try (go_quiet (fail); go_wp2)
     go_ret
     exact ⟨by first | rfl | (rw [HR.out]; rfl), by repeat (first | (with_reducible first | exact HB.out | apply below_alloc | apply pw_below_drewN | apply below_drew1) | exact HB.out)⟩
   ·have l_ := Aside0.mk l
    have le : (x.f1 == 3) = false := beq_eq_false_iff_ne.mpr l
    have ln : (x.f1 != 3) = true := bne_iff_ne.mpr l
    clear l
    cases m0 : (x.f3.f0 == y.f3.f0) with
    | false =>
     have HR := Aside0.mk (show becameI (some x) (some y) = 4 from by rw [became_eq, if_neg (fun h => by rcases h with h | ⟨h, _⟩ | ⟨h, _⟩; exact h k_.out; exact f_.out h; exact l_.out h), if_neg (by unfold mEq; simp only [m0, Bool.false_and, Bool.and_false]; decide)])
     go_enter Try.func25, Try.ntmps25
     go_wp2
     try (go_quiet (fail); go_wp2)
     try (go_quiet (fail); go_wp2)
     try (go_quiet (fail); go_wp2)
     try (go_quiet (fail); go_wp2)
     go_ret
     exact ⟨by first | rfl | (rw [HR.out]; rfl), by repeat (first | (with_reducible first | exact HB.out | apply below_alloc | apply pw_below_drewN | apply below_drew1) | exact HB.out)⟩
    | true =>
     cases m1 : (x.f3.f1 == y.f3.f1) with
     | false =>
      have HR := Aside0.mk (show becameI (some x) (some y) = 4 from by rw [became_eq, if_neg (fun h => by rcases h with h | ⟨h, _⟩ | ⟨h, _⟩; exact h k_.out; exact f_.out h; exact l_.out h), if_neg (by unfold mEq; simp only [m1, Bool.false_and, Bool.and_false]; decide)])
      go_enter Try.func25, Try.ntmps25
      go_wp2
      try (go_quiet (fail); go_wp2)
      try (go_quiet (fail); go_wp2)
      try (go_quiet (fail); go_wp2)
      try (go_quiet (fail); go_wp2)
      go_ret
      exact ⟨by first | rfl | (rw [HR.out]; rfl), by repeat (first | (with_reducible first | exact HB.out | apply below_alloc | apply pw_below_drewN | apply below_drew1) | exact HB.out)⟩
     | true =>
      cases m2 : (x.f3.f2 == y.f3.f2) with
      | false =>
       have HR := Aside0.mk (show becameI (some x) (some y) = 4 from by rw [became_eq, if_neg (fun h => by rcases h with h | ⟨h, _⟩ | ⟨h, _⟩; exact h k_.out; exact f_.out h; exact l_.out h), if_neg (by unfold mEq; simp only [m2, Bool.false_and, Bool.and_false]; decide)])
       go_enter Try.func25, Try.ntmps25
       go_wp2
       try (go_quiet (fail); go_wp2)
       try (go_quiet (fail); go_wp2)
       try (go_quiet (fail); go_wp2)
       try (go_quiet (fail); go_wp2)
       go_ret
       exact ⟨by first | rfl | (rw [HR.out]; rfl), by repeat (first | (with_reducible first | exact HB.out | apply below_alloc | apply pw_below_drewN | apply below_drew1) | exact HB.out)⟩
      | true =>
       cases m3 : (x.f3.f3 == y.f3.f3) with
       | false =>
        have HR := Aside0.mk (show becameI (some x) (some y) = 4 from by rw [became_eq, if_neg (fun h => by rcases h with h | ⟨h, _⟩ | ⟨h, _⟩; exact h k_.out; exact f_.out h; exact l_.out h), if_neg (by unfold mEq; simp only [m3, Bool.false_and, Bool.and_false]; decide)])
        go_enter Try.func25, Try.ntmps25
        go_wp2
        try (go_quiet (fail); go_wp2)
        try (go_quiet (fail); go_wp2)
        try (go_quiet (fail); go_wp2)
        try (go_quiet (fail); go_wp2)
        go_ret
        exact ⟨by first | rfl | (rw [HR.out]; rfl), by repeat (first | (with_reducible first | exact HB.out | apply below_alloc | apply pw_below_drewN | apply below_drew1) | exact HB.out)⟩
       | true =>
        cases m4 : (x.f3.f4 == y.f3.f4) with
        | false =>
         have HR := Aside0.mk (show becameI (some x) (some y) = 4 from by rw [became_eq, if_neg (fun h => by rcases h with h | ⟨h, _⟩ | ⟨h, _⟩; exact h k_.out; exact f_.out h; exact l_.out h), if_neg (by unfold mEq; simp only [m4, Bool.false_and, Bool.and_false]; decide)])
         go_enter Try.func25, Try.ntmps25
         go_wp2
         try (go_quiet (fail); go_wp2)
         try (go_quiet (fail); go_wp2)
         try (go_quiet (fail); go_wp2)
         try (go_quiet (fail); go_wp2)
         go_ret
         exact ⟨by first | rfl | (rw [HR.out]; rfl), by repeat (first | (with_reducible first | exact HB.out | apply below_alloc | apply pw_below_drewN | apply below_drew1) | exact HB.out)⟩
        | true =>
         have HR := Aside0.mk (show becameI (some x) (some y) = 0 from by rw [became_eq, if_neg (fun h => by rcases h with h | ⟨h, _⟩ | ⟨h, _⟩; exact h k_.out; exact f_.out h; exact l_.out h), if_pos (by unfold mEq; rw [m0, m1, m2, m3, m4]; rfl)])
         go_enter Try.func25, Try.ntmps25
         go_wp2
         try (go_quiet (fail); go_wp2)
         try (go_quiet (fail); go_wp2)
         try (go_quiet (fail); go_wp2)
         try (go_quiet (fail); go_wp2)
         go_ret
         exact ⟨by first | rfl | (rw [HR.out]; rfl), by repeat (first | (with_reducible first | exact HB.out | apply below_alloc | apply pw_below_drewN | apply below_drew1) | exact HB.out)⟩
 ·have k_ := Aside0.mk k
  have ke : (x.f1 == y.f1) = false := beq_eq_false_iff_ne.mpr k
  have kn : (x.f1 != y.f1) = true := bne_iff_ne.mpr k
  clear k
  have HR := Aside0.mk (show becameI (some x) (some y) = 3 from by rw [became_eq]; exact if_pos (Or.inl k_.out))
  go_enter Try.func25, Try.ntmps25
  go_wp2
  try (go_quiet (fail); go_wp2)
  try (go_quiet (fail); go_wp2)
  try (go_quiet (fail); go_wp2)
  try (go_quiet (fail); go_wp2)
  go_ret
  exact ⟨by first | rfl | (rw [HR.out]; rfl), by repeat (first | (with_reducible first | exact HB.out | apply below_alloc | apply pw_below_drewN | apply below_drew1) | exact HB.out)⟩
theorem became_call (x y : Option S43) (p q : Option Addr) (w : World) (hx : EP w p x) (hy : EP w q y) : Calls Try.prog 25 #[.pointer p, .pointer q] w fun e w' => e = .returned (.int .i64 (becameI x y)) ∧ Below w.heap.size w w' := by
 cases x with
 | none =>
  cases hx
  exact became_nil q w
 | some x =>
  obtain ⟨g, o, rfl, hx⟩ := hx
  cases y with
  | none =>
   cases hy
   exact became_end _ w
  | some y =>
   obtain ⟨g2, o2, rfl, hy⟩ := hy
   exact became_two x y g o g2 o2 w hx hy
end Go.Proofs.Ytodbmagneaiocaa.PA
namespace Go.Proofs.Ytodbmagneaiocaa.PA
open Go.RowKit Go.Proofs.YtodbmagneaiocaaW.PrintWords Go.Proofs.YtodbmagneaiocaaW.PrintLast Go.Proofs.YtodbmagneaiocaaW.PrintMore
attribute [local go_sem] max2_int min2_int max_two min_two max_three min_three max_four min_four
set_option linter.unusedVariables false
set_option linter.unusedSimpArgs false
def arch_Since1_h.T4 : Bool × List (List Nat × List Nat) := (true, [([], []), ([], []), ([1], [1]), ([2], [2]), ([3], [3]), ([], []), ([4, 5], [4, 5]), ([6], [6]), ([0, 7], [0, 7]), ([8, 8, 0, 1, 2, 3, 4, 5, 6, 7, 8], [8])])
def arch_Since1_h.B4 : List Nat := [0, 0, 2, 6, 14, 0, 62, 126, 255, 511]
theorem arch_Since1_h.tab4 : rtab .any (opsOf Try.f24 4) = arch_Since1_h.T4 := by kernel_rfl
theorem arch_Since1_h.bits4 : waitsOk arch_Since1_h.T4.2 arch_Since1_h.B4 = true := by kernel_rfl
def arch_Since1_h.T1 : Bool × List (List Nat × List Nat) := (true, [([], []), ([], []), ([1], [1]), ([2], [2]), ([3], [3]), ([], []), ([4, 5], [4, 5]), ([6], [6]), ([0, 7], [0, 7]), ([8, 8, 0, 1, 2, 3, 4, 5, 6, 7, 8], [8])])
def arch_Since1_h.B1 : List Nat := [0, 0, 2, 6, 14, 0, 62, 126, 255, 511]
theorem arch_Since1_h.tab1 : rtab .any (opsOf Try.f24 1) = arch_Since1_h.T1 := by kernel_rfl
theorem arch_Since1_h.bits1 : waitsOk arch_Since1_h.T1.2 arch_Since1_h.B1 = true := by kernel_rfl
def arch_Common1_h.T1 : Bool × List (List Nat × List Nat) := (true, [([], []), ([], []), ([1], [1]), ([2], [2]), ([3], [3]), ([0, 4], [0, 4]), ([5, 5, 0, 1, 2, 3, 4, 5], [5])])
def arch_Common1_h.B1 : List Nat := [0, 0, 2, 6, 14, 31, 63]
theorem arch_Common1_h.tab1 : rtab .any (opsOf Try.f27 1) = arch_Common1_h.T1 := by kernel_rfl
theorem arch_Common1_h.bits1 : waitsOk arch_Common1_h.T1.2 arch_Common1_h.B1 = true := by kernel_rfl
def Box1 {α : Type} (d : Kd α) (e TB : Nat) (w w1 W : World) (g : Nat) (l : List α) : Prop :=
 Below w.heap.size w W ∧ KeepBut w1 W g none ∧ ∃ v, W.heap[g]? = some (.cells #[v] TB (0, 0)) ∧ Kd.R d e W w.heap.size (fun k => w1.heap.size ≤ k) v l
theorem Box1.drew {α : Type} {d : Kd α} {e TB g : Nat} {w w1 W : World} {l : List α} (h : Box1 d e TB w w1 W g l) : Box1 d e TB w w1 W.drew g l :=
 ⟨below_drew h.1, h.2.1, h.2.2.elim fun v hv => ⟨v, hv.1, Kd.R_drew hv.2⟩⟩
theorem Box1.drewN {α : Type} {d : Kd α} {e TB g : Nat} {w w1 W : World} {l : List α} (h : Box1 d e TB w w1 W g l) (m : Nat) : Box1 d e TB w w1 (W.drewN m) g l :=
 ⟨pw_below_drewN h.1 m, h.2.1, h.2.2.elim fun v hv => ⟨v, hv.1, Kd.R_drewN hv.2 m⟩⟩
theorem Box1.step {α : Type} {d : Kd α} {e TB g : Nat} {w w1 W W2 : World} {l : List α} (h : Box1 d e TB w w1 W g l) (hg1 : g < w1.heap.size) (hb : Below W.heap.size W W2) : Box1 d e TB w w1 W2 g l :=
 ⟨below_step h.1 hb, h.2.1.trans (KeepBut.of_below hb g none) (.inl rfl), h.2.2.elim fun v hv => ⟨v, blk_below hv.1 hb, Kd.R_below hv.2 hb⟩⟩
theorem EP.step {W W2 : World} {p : Option Addr} {x : Option S43} (h : EP W p x) (hb : Below W.heap.size W W2) : EP W2 p x := by
 cases x with
 | none => exact h
 | some x =>
  obtain ⟨g, o, rfl, hx⟩ := h
  exact ⟨g, o, rfl, fun j u hj => (hb.cell (World.block_lt_of_cell? W _ (hx j u hj))).trans (hx j u hj)⟩
theorem Box1.kept {α : Type} {d : Kd α} {e TB g : Nat} {w w1 W w2 : World} {l : List α} (_h : Box1 d e TB w w1 W g l) (hg1 : g < w1.heap.size) {v : Value} (hv : W.heap[g]? = some (.cells #[v] TB (0, 0))) (hvo : ∀ k, v.ownBlock = some k → w1.heap.size ≤ k) (hgr : W.grownBy w2 v.ownBlock) : w2.heap[g]? = some (.cells #[v] TB (0, 0)) :=
 (hgr.block g (blk_lt hv) (fun e => by have := hvo g e.symm; omega)).trans hv
theorem Box1.put {α : Type} {d : Kd α} {e TB g : Nat} {w w1 W w2 : World} {l l2 : List α} (h : Box1 d e TB w w1 W g l) (hg : w.heap.size ≤ g) (hg1 : g < w1.heap.size) {v v2 : Value} (hv : W.heap[g]? = some (.cells #[v] TB (0, 0))) (hvo : ∀ k, v.ownBlock = some k → w1.heap.size ≤ k)
  (ho : Kd.R d e w2 w.heap.size (fun k => w1.heap.size ≤ k) v2 l2) (hb : Below w.heap.size w w2) (hgr : W.grownBy w2 v.ownBlock) : Box1 d e TB w w1 (w2.setCell ⟨g, 0, none⟩ v2) g l2 := by
 have hk : w2.heap[g]? = some (.cells #[v] TB (0, 0)) := h.kept hg1 hv hvo hgr
 refine ⟨below_set hb hg, KeepBut.set_ ?_ 0 v2, v2, by simpa using blk_set hk 0 v2, Kd.R_step ho (fun k hok hlt => ?_)⟩
 ·refine h.2.1.trans (KeepBut.of_grown hgr g) ?_
  cases hv0 : v.ownBlock with
  | none => exact .inl rfl
  | some k => exact .inr ⟨k, rfl, hvo k hv0⟩
 ·exact Below.heap_setCell w2 ⟨g, 0, none⟩ v2 k (by show k ≠ g; omega)
set_option maxHeartbeats 4000000 in
set_option maxRecDepth 100000 in
theorem since1_some (x : S43) (y : Option S43) (gx ox : Nat) (q : Option Addr) (w w1 W : World) (g : Nat) (l : List S28) (h : Box1 k28 28 25 w w1 W g l) (hg : w.heap.size ≤ g) (hg1 : g < w1.heap.size) (hl : l.length < 1000000000000)
  (hx : ∀ j u, (entA x)[j]? = some u → W.cell? ⟨gx, ox + j, none⟩ = some u) (hy : EP W q y) :
  Calls Try.prog 24 #[.pointer (some ⟨gx, ox, none⟩), .pointer q, .pointer (some ⟨g, 0, none⟩)] W fun e W' => e = .returned (.tuple #[]) ∧ Box1 k28 28 25 w w1 W' g (l ++ sinceE (some x, y)) := by
 have HG := Aside0.mk (And.intro hg hg1)
 have HL := Aside0.mk hl
 have HX := Aside0.mk h
 clear h hg hg1 hl
 have hu := Try.underlying43
 obtain ⟨b, hb⟩ : ∃ b, becameI (some x) y = b := ⟨_, rfl⟩
 have hbc : ∀ W2, Below W.heap.size W W2 → Calls Try.prog 25 #[.pointer (some ⟨gx, ox, none⟩), .pointer q] W2 fun e w' => e = .returned (.int .i64 b) ∧ Below W2.heap.size W2 w' := fun W2 h2 => by
  rw [← hb]
  exact became_call (some x) y _ q W2 (EP.step ⟨gx, ox, rfl, hx⟩ h2) (hy.step h2)
 obtain ⟨nm, hnm⟩ : ∃ nm, x.f0 = nm := ⟨_, rfl⟩
 have hx0 : W.cell? ⟨gx, ox, none⟩ = some (.string nm) := by rw [← hnm]; exact hx 0 _ rfl
 have HX0 := Aside0.mk hx0
 have HN := Aside0.mk (And.intro hb hnm)
 clear hx hy hb hnm hx0
 by_cases h0 : b = 0
 ·have q0 : (b == 0) = true := beq_iff_eq.mpr h0
  have H0 := Aside0.mk (show sinceE (some x, y) = [] from if_pos (HN.out.1.trans h0))
  clear h0
  go_enter Try.func24, Try.ntmps24
  go_wp2_with (first | (go_at_call 25; (with_reducible refine (hbc _ (Below.refl _ _)).mono ?_); rintro e W9 ⟨rfl, hb⟩; have HX9 := Aside0.mk (HX.out.step HG.out.2 hb); have HW9 := Aside0.mk hb; clear HX hb hbc))
  go_end0
  exact ⟨rfl, by rw [H0.out, List.append_nil]; exact HX9.out⟩
 ·have q0 : (b == 0) = false := beq_eq_false_iff_ne.mpr h0
  have H0 := Aside0.mk (show sinceE (some x, y) = [⟨nm, b⟩] from by
   show (if becameI (some x) y = 0 then [] else [(⟨x.f0, becameI (some x) y⟩ : S28)]) = _
   rw [HN.out.1, HN.out.2, if_neg h0])
  clear h0
  go_enter Try.func24, Try.ntmps24
  go_wp2_with (first | (go_at_call 25; (with_reducible refine (hbc _ (Below.refl _ _)).mono ?_); rintro e W9 ⟨rfl, hb⟩; have HX9 := Aside0.mk (HX.out.step HG.out.2 hb); have HW9 := Aside0.mk hb; clear HX hb hbc))
  obtain ⟨v, hv, hr⟩ := HX9.out.2.2; have HR9 := Aside0.mk hr; have HV9 := Aside0.mk hv; have hcg : W9.cell? ⟨g, 0, none⟩ = some v := (blk_cell hv 0).trans rfl; clear hv hr
  have hcx : W9.cell? ⟨gx, ox, none⟩ = some (.string nm) := (HW9.out.cell (World.block_lt_of_cell? W _ HX0.out)).trans HX0.out
  refine start_ (n := 10) (S := fun w' => w'.cell? ⟨g, 0, none⟩ = some v ∧ w'.cell? ⟨gx, ox, none⟩ = some (.string nm)) (ds := [8, 9]) #[false, false, false, false, false, false, false, false, false, false] (by kernel_rfl) rfl rfl ⟨hcg, hcx⟩ (fun hHeld => ?_)
  refine with_tabW arch_Since1_h.tab4 arch_Since1_h.bits4 (fun HT_ HW_ => ?_)
  obtain ⟨W5, hW5⟩ : ∃ W5, W9.drew = W5 := ⟨_, rfl⟩
  rw [hW5] at hHeld ⊢
  have HBX := Aside0.mk (hW5 ▸ HX9.out.drew)
  have HR := Aside0.mk (hW5 ▸ Kd.R_drew HR9.out)
  have HV := Aside0.mk (show W5.heap[g]? = some (.cells #[v] 25 (0, 0)) from hW5 ▸ HV9.out)
  clear HX9 HR9 HV9 hW5 hcg hcx
  refine pure_ (i := 1) (N := some 25) (v := ?_) (a' := ?_) #[false, true, false, false, false, false, false, false, false, false] rfl rfl (any_of HT_.out (by kernel_rfl)) (fun _ _ _ h => h) (Or.inl ⟨by rfl, ?_⟩) ?_ ?_
  rotate_left
  ·intro w'
   go_simp
   with_reducible rfl
  rotate_left
  ·simp only [Act.put, List.setIfInBounds_toArray, List.set_cons_zero, List.set_cons_succ, i64_w, i32_w]
   rfl
  refine pure_ (i := 2) (N := some 26) (v := ?_) (a' := ?_) #[false, true, true, false, false, false, false, false, false, false] rfl rfl (any_of HT_.out (by kernel_rfl)) (fun _ _ _ h => h) (Or.inl ⟨by rfl, ?_⟩) ?_ ?_
  rotate_left
  ·intro w'
   go_simp
   with_reducible rfl
  rotate_left
  ·simp only [Act.put, List.setIfInBounds_toArray, List.set_cons_zero, List.set_cons_succ, i64_w, i32_w]
   rfl
  refine pure_ (i := 3) (N := some 27) (v := ?_) (a' := ?_) #[false, true, true, true, false, false, false, false, false, false] rfl rfl (any_of HT_.out (by kernel_rfl)) (fun _ _ _ h => h) (Or.inl ⟨by rfl, ?_⟩) ?_ ?_
  rotate_left
  ·intro w'
   go_simp
   with_reducible rfl
  rotate_left
  ·simp only [Act.put, List.setIfInBounds_toArray, List.set_cons_zero, List.set_cons_succ, i64_w, i32_w]
   rfl
  refine pure_ (i := 5) (N := some 29) (v := ?_) (a' := ?_) #[false, true, true, true, false, true, false, false, false, false] rfl rfl (any_of HT_.out (by kernel_rfl)) (fun _ _ _ h => h) (Or.inl ⟨by rfl, ?_⟩) ?_ ?_
  rotate_left
  ·intro w'
   go_simp
   with_reducible rfl
  rotate_left
  ·simp only [Act.put, List.setIfInBounds_toArray, List.set_cons_zero, List.set_cons_succ, i64_w, i32_w]
   rfl
  refine take_ (i := 0) (N := some 24) (v := ?_) (a' := ?_) #[true, true, true, true, false, true, false, false, false, false] rfl rfl (take_ofW HT_.out HW_.out (by kernel_rfl)) (fun _ _ _ h => h) (Or.inl ⟨by rfl, ?_⟩) hHeld ?_ ?_
  rotate_left
  ·rintro w' ⟨s0_, s1_⟩
   go_simp
   with_reducible rfl
  rotate_left
  ·simp only [Act.put, List.setIfInBounds_toArray, List.set_cons_zero, List.set_cons_succ, i64_w, i32_w]
   rfl
  refine take_ (i := 4) (N := some 28) (v := ?_) (a' := ?_) #[true, true, true, true, true, true, false, false, false, false] rfl rfl (take_ofW HT_.out HW_.out (by kernel_rfl)) (fun _ _ _ h => h) (Or.inl ⟨by rfl, ?_⟩) hHeld ?_ ?_
  rotate_left
  ·rintro w' ⟨s0_, s1_⟩
   go_simp
   with_reducible rfl
  rotate_left
  ·simp only [Act.put, List.setIfInBounds_toArray, List.set_cons_zero, List.set_cons_succ, i64_w, i32_w]
   rfl
  refine pure_ (i := 6) (N := some 30) (v := ?_) (a' := ?_) #[true, true, true, true, true, true, true, false, false, false] rfl rfl (any_of HT_.out (by kernel_rfl)) (fun _ _ _ h => h) (Or.inl ⟨by rfl, ?_⟩) ?_ ?_
  rotate_left
  ·intro w'
   go_simp
   with_reducible rfl
  rotate_left
  ·simp only [Act.put, List.setIfInBounds_toArray, List.set_cons_zero, List.set_cons_succ, i64_w, i32_w]
   rfl
  refine one_ (i := 7) (N := some 31) #[true, true, true, true, true, true, true, true, false, false] rfl rfl (one_of HT_.out (by kernel_rfl)) (by decide) (fun K hK => ?_)
  refine value_ (w1 := W5.alloc (.cells #[.string nm, .int .i64 b] 28)) (v := .slice (some ⟨W5.heap.size, 0, none⟩) 1 1) (by rfl) rfl (by first | (go_simp; done) | (go_simp; rfl)) ?_
  refine hK.out _ _ ⟨((below_alloc (Below.refl _ _) _).cell (World.block_lt_of_cell? _ _ hHeld.1)).trans hHeld.1, ((below_alloc (Below.refl _ _) _).cell (World.block_lt_of_cell? _ _ hHeld.2)).trans hHeld.2⟩ (fun hHeld => ?_)
  clear hK K
  refine norm_ (a' := ?_) ?_ ?_
  rotate_left
  ·show Act.put _ (some 31) _ = _
   simp only [Act.put, List.setIfInBounds_toArray, List.set_cons_zero, List.set_cons_succ, i64_w, i32_w]
   rfl
  refine last_ (i := 8) (N := some 32) #[true, true, true, true, true, true, true, true, true, false] rfl rfl (one_of HT_.out (by kernel_rfl)) (by decide) (fun K hK => ?_)
  refine Kd.R_append_step k28 (w0 := w) w.heap.size (by rfl) (.tmp 24) (.tmp 31) 25 28 (.agg #[.string ⟨#[]⟩, .int .i64 0]) 24 rfl Try.underlying25 info28 rfl (by decide) (by omega) v l ⟨nm, b⟩ [.string nm, .int .i64 b] (fun k => w1.heap.size ≤ k) (fun _ => False) rfl rfl (k28_mkM _ _ _ (⟨nm, b⟩ : S28)) (fun _ h => h.elim) (fun k hk => Nat.le_trans HBX.out.2.1.1 hk) HR.out HBX.out.1 (below_size HBX.out.1) (by have := HL.out; omega) ?_
  intro v2 w2 ho hb1 hg hat
  obtain ⟨A2, c2, e2⟩ := Kd.R_slice ho
  subst e2
  have HE := Aside0.mk (HBX.out.put HG.out.1 HG.out.2 HV.out HR.out.1 ho hb1 hg)
  have hc2 : w2.cell? ⟨g, 0, none⟩ = some v := (blk_cell (HBX.out.kept HG.out.2 HV.out HR.out.1 hg) 0).trans rfl
  have hf2 := blk_frozen (HBX.out.kept HG.out.2 HV.out HR.out.1 hg) 0
  clear ho hb1 hg hat
  refine hK.out _ _ ?_
  clear hK K
  refine norm_ (a' := ?_) ?_ ?_
  rotate_left
  ·show Act.put _ (some 32) _ = _
   simp only [Act.put, List.setIfInBounds_toArray, List.set_cons_zero, List.set_cons_succ, i64_w, i32_w]
   rfl
  refine last_ (i := 9) (N := none) #[true, true, true, true, true, true, true, true, true, true] rfl rfl (one_of HT_.out (by kernel_rfl)) (by decide) (fun K hK => ?_)
  refine skip_ (w1 := w2.setCell ⟨g, 0, none⟩ (.slice A2 (l ++ [(⟨nm, b⟩ : S28)]).length c2)) (by rfl) rfl (by first | (go_simp; done) | (go_simp; rfl)) ?_
  refine hK.out _ _ ?_
  clear hK K
  refine done_ (done_of HT_.out (by kernel_rfl)) ?_
  try go_wp2
  go_end0
  exact ⟨rfl, by rw [H0.out]; exact HE.out⟩
set_option maxHeartbeats 4000000 in
set_option maxRecDepth 100000 in
theorem since1_none (y : S43) (gx ox : Nat) (w w1 W : World) (g : Nat) (l : List S28) (h : Box1 k28 28 25 w w1 W g l) (hg : w.heap.size ≤ g) (hg1 : g < w1.heap.size) (hl : l.length < 1000000000000)
  (hy : ∀ j u, (entA y)[j]? = some u → W.cell? ⟨gx, ox + j, none⟩ = some u) :
  Calls Try.prog 24 #[.pointer none, .pointer (some ⟨gx, ox, none⟩), .pointer (some ⟨g, 0, none⟩)] W fun e W' => e = .returned (.tuple #[]) ∧ Box1 k28 28 25 w w1 W' g (l ++ sinceE (none, some y)) := by
 have HG := Aside0.mk (And.intro hg hg1)
 have HL := Aside0.mk hl
 have HX := Aside0.mk h
 clear h hg hg1 hl
 have hu := Try.underlying43
 obtain ⟨b, hb⟩ : ∃ b : Int, b = 1 := ⟨_, rfl⟩
 have hbc : ∀ W2, Below W.heap.size W W2 → Calls Try.prog 25 #[.pointer none, .pointer (some ⟨gx, ox, none⟩)] W2 fun e w' => e = .returned (.int .i64 b) ∧ Below W2.heap.size W2 w' := fun W2 h2 => by
  rw [hb]
  exact became_nil _ W2
 obtain ⟨nm, hnm⟩ : ∃ nm, y.f0 = nm := ⟨_, rfl⟩
 have hx0 : W.cell? ⟨gx, ox, none⟩ = some (.string nm) := by rw [← hnm]; exact hy 0 _ rfl
 have HX0 := Aside0.mk hx0
 have q0 : (b == 0) = false := by rw [hb]; rfl
 have H0 := Aside0.mk (show sinceE (none, some y) = [⟨nm, b⟩] from by
  show (if (1 : Int) = 0 then [] else [(⟨y.f0, 1⟩ : S28)]) = _
  rw [hnm, hb, if_neg (by decide)])
 clear hy hb hnm hx0
 go_enter Try.func24, Try.ntmps24
 go_wp2_with (first | (go_at_call 25; (with_reducible refine (hbc _ (Below.refl _ _)).mono ?_); rintro e W9 ⟨rfl, hb⟩; have HX9 := Aside0.mk (HX.out.step HG.out.2 hb); have HW9 := Aside0.mk hb; clear HX hb hbc))
 obtain ⟨v, hv, hr⟩ := HX9.out.2.2; have HR9 := Aside0.mk hr; have HV9 := Aside0.mk hv; have hcg : W9.cell? ⟨g, 0, none⟩ = some v := (blk_cell hv 0).trans rfl; clear hv hr
 have hcx : W9.cell? ⟨gx, ox, none⟩ = some (.string nm) := (HW9.out.cell (World.block_lt_of_cell? W _ HX0.out)).trans HX0.out
 refine start_ (n := 10) (S := fun w' => w'.cell? ⟨g, 0, none⟩ = some v ∧ w'.cell? ⟨gx, ox, none⟩ = some (.string nm)) (ds := [8, 9]) #[false, false, false, false, false, false, false, false, false, false] (by kernel_rfl) rfl rfl ⟨hcg, hcx⟩ (fun hHeld => ?_)
 refine with_tabW arch_Since1_h.tab1 arch_Since1_h.bits1 (fun HT_ HW_ => ?_)
 obtain ⟨W5, hW5⟩ : ∃ W5, W9.drew = W5 := ⟨_, rfl⟩
 rw [hW5] at hHeld ⊢
 have HBX := Aside0.mk (hW5 ▸ HX9.out.drew)
 have HR := Aside0.mk (hW5 ▸ Kd.R_drew HR9.out)
 have HV := Aside0.mk (show W5.heap[g]? = some (.cells #[v] 25 (0, 0)) from hW5 ▸ HV9.out)
 clear HX9 HR9 HV9 hW5 hcg hcx
 refine pure_ (i := 1) (N := some 10) (v := ?_) (a' := ?_) #[false, true, false, false, false, false, false, false, false, false] rfl rfl (any_of HT_.out (by kernel_rfl)) (fun _ _ _ h => h) (Or.inl ⟨by rfl, ?_⟩) ?_ ?_
 rotate_left
 ·intro w'
  go_simp
  with_reducible rfl
 rotate_left
 ·simp only [Act.put, List.setIfInBounds_toArray, List.set_cons_zero, List.set_cons_succ, i64_w, i32_w]
  rfl
 refine pure_ (i := 2) (N := some 11) (v := ?_) (a' := ?_) #[false, true, true, false, false, false, false, false, false, false] rfl rfl (any_of HT_.out (by kernel_rfl)) (fun _ _ _ h => h) (Or.inl ⟨by rfl, ?_⟩) ?_ ?_
 rotate_left
 ·intro w'
  go_simp
  with_reducible rfl
 rotate_left
 ·simp only [Act.put, List.setIfInBounds_toArray, List.set_cons_zero, List.set_cons_succ, i64_w, i32_w]
  rfl
 refine pure_ (i := 3) (N := some 12) (v := ?_) (a' := ?_) #[false, true, true, true, false, false, false, false, false, false] rfl rfl (any_of HT_.out (by kernel_rfl)) (fun _ _ _ h => h) (Or.inl ⟨by rfl, ?_⟩) ?_ ?_
 rotate_left
 ·intro w'
  go_simp
  with_reducible rfl
 rotate_left
 ·simp only [Act.put, List.setIfInBounds_toArray, List.set_cons_zero, List.set_cons_succ, i64_w, i32_w]
  rfl
 refine pure_ (i := 5) (N := some 14) (v := ?_) (a' := ?_) #[false, true, true, true, false, true, false, false, false, false] rfl rfl (any_of HT_.out (by kernel_rfl)) (fun _ _ _ h => h) (Or.inl ⟨by rfl, ?_⟩) ?_ ?_
 rotate_left
 ·intro w'
  go_simp
  with_reducible rfl
 rotate_left
 ·simp only [Act.put, List.setIfInBounds_toArray, List.set_cons_zero, List.set_cons_succ, i64_w, i32_w]
  rfl
 refine take_ (i := 0) (N := some 9) (v := ?_) (a' := ?_) #[true, true, true, true, false, true, false, false, false, false] rfl rfl (take_ofW HT_.out HW_.out (by kernel_rfl)) (fun _ _ _ h => h) (Or.inl ⟨by rfl, ?_⟩) hHeld ?_ ?_
 rotate_left
 ·rintro w' ⟨s0_, s1_⟩
  go_simp
  with_reducible rfl
 rotate_left
 ·simp only [Act.put, List.setIfInBounds_toArray, List.set_cons_zero, List.set_cons_succ, i64_w, i32_w]
  rfl
 refine take_ (i := 4) (N := some 13) (v := ?_) (a' := ?_) #[true, true, true, true, true, true, false, false, false, false] rfl rfl (take_ofW HT_.out HW_.out (by kernel_rfl)) (fun _ _ _ h => h) (Or.inl ⟨by rfl, ?_⟩) hHeld ?_ ?_
 rotate_left
 ·rintro w' ⟨s0_, s1_⟩
  go_simp
  with_reducible rfl
 rotate_left
 ·simp only [Act.put, List.setIfInBounds_toArray, List.set_cons_zero, List.set_cons_succ, i64_w, i32_w]
  rfl
 refine pure_ (i := 6) (N := some 15) (v := ?_) (a' := ?_) #[true, true, true, true, true, true, true, false, false, false] rfl rfl (any_of HT_.out (by kernel_rfl)) (fun _ _ _ h => h) (Or.inl ⟨by rfl, ?_⟩) ?_ ?_
 rotate_left
 ·intro w'
  go_simp
  with_reducible rfl
 rotate_left
 ·simp only [Act.put, List.setIfInBounds_toArray, List.set_cons_zero, List.set_cons_succ, i64_w, i32_w]
  rfl
 refine one_ (i := 7) (N := some 16) #[true, true, true, true, true, true, true, true, false, false] rfl rfl (one_of HT_.out (by kernel_rfl)) (by decide) (fun K hK => ?_)
 refine value_ (w1 := W5.alloc (.cells #[.string nm, .int .i64 b] 28)) (v := .slice (some ⟨W5.heap.size, 0, none⟩) 1 1) (by rfl) rfl (by first | (go_simp; done) | (go_simp; rfl)) ?_
 refine hK.out _ _ ⟨((below_alloc (Below.refl _ _) _).cell (World.block_lt_of_cell? _ _ hHeld.1)).trans hHeld.1, ((below_alloc (Below.refl _ _) _).cell (World.block_lt_of_cell? _ _ hHeld.2)).trans hHeld.2⟩ (fun hHeld => ?_)
 clear hK K
 refine norm_ (a' := ?_) ?_ ?_
 rotate_left
 ·show Act.put _ (some 16) _ = _
  simp only [Act.put, List.setIfInBounds_toArray, List.set_cons_zero, List.set_cons_succ, i64_w, i32_w]
  rfl
 refine last_ (i := 8) (N := some 17) #[true, true, true, true, true, true, true, true, true, false] rfl rfl (one_of HT_.out (by kernel_rfl)) (by decide) (fun K hK => ?_)
 refine Kd.R_append_step k28 (w0 := w) w.heap.size (by rfl) (.tmp 9) (.tmp 16) 25 28 (.agg #[.string ⟨#[]⟩, .int .i64 0]) 24 rfl Try.underlying25 info28 rfl (by decide) (by omega) v l ⟨nm, b⟩ [.string nm, .int .i64 b] (fun k => w1.heap.size ≤ k) (fun _ => False) rfl rfl (k28_mkM _ _ _ (⟨nm, b⟩ : S28)) (fun _ h => h.elim) (fun k hk => Nat.le_trans HBX.out.2.1.1 hk) HR.out HBX.out.1 (below_size HBX.out.1) (by have := HL.out; omega) ?_
 intro v2 w2 ho hb1 hg hat
 obtain ⟨A2, c2, e2⟩ := Kd.R_slice ho
 subst e2
 have HE := Aside0.mk (HBX.out.put HG.out.1 HG.out.2 HV.out HR.out.1 ho hb1 hg)
 have hc2 : w2.cell? ⟨g, 0, none⟩ = some v := (blk_cell (HBX.out.kept HG.out.2 HV.out HR.out.1 hg) 0).trans rfl
 have hf2 := blk_frozen (HBX.out.kept HG.out.2 HV.out HR.out.1 hg) 0
 clear ho hb1 hg hat
 refine hK.out _ _ ?_
 clear hK K
 refine norm_ (a' := ?_) ?_ ?_
 rotate_left
 ·show Act.put _ (some 17) _ = _
  simp only [Act.put, List.setIfInBounds_toArray, List.set_cons_zero, List.set_cons_succ, i64_w, i32_w]
  rfl
 refine last_ (i := 9) (N := none) #[true, true, true, true, true, true, true, true, true, true] rfl rfl (one_of HT_.out (by kernel_rfl)) (by decide) (fun K hK => ?_)
 refine skip_ (w1 := w2.setCell ⟨g, 0, none⟩ (.slice A2 (l ++ [(⟨nm, b⟩ : S28)]).length c2)) (by rfl) rfl (by first | (go_simp; done) | (go_simp; rfl)) ?_
 refine hK.out _ _ ?_
 clear hK K
 refine done_ (done_of HT_.out (by kernel_rfl)) ?_
 try go_wp2
 go_end0
 exact ⟨rfl, by rw [H0.out]; exact HE.out⟩
theorem since1_call (x y : Option S43) (hne : x ≠ none ∨ y ≠ none) (p q : Option Addr) (w w1 W : World) (g : Nat) (l : List S28) (h : Box1 k28 28 25 w w1 W g l) (hg : w.heap.size ≤ g) (hg1 : g < w1.heap.size) (hl : l.length < 1000000000000) (hx : EP W p x) (hy : EP W q y) :
  Calls Try.prog 24 #[.pointer p, .pointer q, .pointer (some ⟨g, 0, none⟩)] W fun e W' => e = .returned (.tuple #[]) ∧ Box1 k28 28 25 w w1 W' g (l ++ sinceE (x, y)) := by
 cases x with
 | some x =>
  obtain ⟨gx, ox, rfl, hx⟩ := hx
  exact since1_some x y gx ox q w w1 W g l h hg hg1 hl hx hy
 | none =>
  cases y with
  | none => simp at hne
  | some y =>
   cases hx
   obtain ⟨gx, ox, rfl, hy⟩ := hy
   exact since1_none y gx ox w w1 W g l h hg hg1 hl hy
set_option maxHeartbeats 4000000 in
set_option maxRecDepth 100000 in
theorem common1_call (x y : Option S43) (p q : Option Addr) (w w1 W : World) (g : Nat) (l : List S43) (h : Box1 k43 43 22 w w1 W g l) (hg : w.heap.size ≤ g) (hg1 : g < w1.heap.size) (hl : l.length < 1000000000000) (hx : EP W p x) (hy : EP W q y) :
  Calls Try.prog 27 #[.pointer p, .pointer q, .pointer (some ⟨g, 0, none⟩)] W fun e W' => e = .returned (.tuple #[]) ∧ Box1 k43 43 22 w w1 W' g (l ++ commonE (x, y)) := by
 have HG := Aside0.mk (And.intro hg hg1)
 have HL := Aside0.mk hl
 have HX := Aside0.mk h
 clear h hg hg1 hl
 have hu := Try.underlying43
 obtain ⟨b, hb⟩ : ∃ b, becameI x y = b := ⟨_, rfl⟩
 have hbc : ∀ W2, Below W.heap.size W W2 → Calls Try.prog 25 #[.pointer p, .pointer q] W2 fun e w' => e = .returned (.int .i64 b) ∧ Below W2.heap.size W2 w' := fun W2 h2 => by
  rw [← hb]
  exact became_call x y p q W2 (hx.step h2) (hy.step h2)
 by_cases h0 : b = 0
 ·have q0 : (b == 0) = true := beq_iff_eq.mpr h0
  cases x with
  | none => rw [show becameI none y = 1 from rfl] at hb; omega
  | some x =>
   obtain ⟨gx, ox, rfl, hx⟩ := hx
   have HX0 := Aside0.mk hx
   have H0 := Aside0.mk (show commonE (some x, y) = [x] from if_pos (hb.trans h0))
   clear h0 hb hx hy
   go_enter Try.func27, Try.ntmps27
   go_wp2_with (first | (go_at_call 25; (with_reducible refine (hbc _ (Below.refl _ _)).mono ?_); rintro e W9 ⟨rfl, hb⟩; have HX9 := Aside0.mk (HX.out.step HG.out.2 hb); have HW9 := Aside0.mk hb; clear HX hb hbc))
   obtain ⟨v, hv, hr⟩ := HX9.out.2.2; have HR9 := Aside0.mk hr; have HV9 := Aside0.mk hv; have hcg : W9.cell? ⟨g, 0, none⟩ = some v := (blk_cell hv 0).trans rfl; clear hv hr
   have hcx : ∀ j u, (entA x)[j]? = some u → W9.cell? ⟨gx, ox + j, none⟩ = some u := fun j u hj => (HW9.out.cell (World.block_lt_of_cell? W _ (HX0.out j u hj))).trans (HX0.out j u hj)
   refine start_ (n := 7) (S := fun w' => w'.cell? ⟨g, 0, none⟩ = some v ∧ ∀ j u, (entA x)[j]? = some u → w'.cell? ⟨gx, ox + j, none⟩ = some u) (ds := [5, 6]) #[false, false, false, false, false, false, false] (by kernel_rfl) rfl rfl ⟨hcg, hcx⟩ (fun hHeld => ?_)
   refine with_tabW arch_Common1_h.tab1 arch_Common1_h.bits1 (fun HT_ HW_ => ?_)
   obtain ⟨W5, hW5⟩ : ∃ W5, W9.drew = W5 := ⟨_, rfl⟩
   rw [hW5] at hHeld ⊢
   have HBX := Aside0.mk (hW5 ▸ HX9.out.drew)
   have HR := Aside0.mk (hW5 ▸ Kd.R_drew HR9.out)
   have HV := Aside0.mk (show W5.heap[g]? = some (.cells #[v] 22 (0, 0)) from hW5 ▸ HV9.out)
   clear HX9 HR9 HV9 hW5 hcg hcx
   refine pure_ (i := 1) (N := some 10) (v := ?_) (a' := ?_) #[false, true, false, false, false, false, false] rfl rfl (any_of HT_.out (by kernel_rfl)) (fun _ _ _ h => h) (Or.inl ⟨by rfl, ?_⟩) ?_ ?_
   rotate_left
   ·intro w'
    go_simp
    with_reducible rfl
   rotate_left
   ·simp only [Act.put, List.setIfInBounds_toArray, List.set_cons_zero, List.set_cons_succ, i64_w, i32_w]
    rfl
   refine pure_ (i := 2) (N := some 11) (v := ?_) (a' := ?_) #[false, true, true, false, false, false, false] rfl rfl (any_of HT_.out (by kernel_rfl)) (fun _ _ _ h => h) (Or.inl ⟨by rfl, ?_⟩) ?_ ?_
   rotate_left
   ·intro w'
    go_simp
    with_reducible rfl
   rotate_left
   ·simp only [Act.put, List.setIfInBounds_toArray, List.set_cons_zero, List.set_cons_succ, i64_w, i32_w]
    rfl
   refine take_ (i := 0) (N := some 9) (v := ?_) (a' := ?_) #[true, true, true, false, false, false, false] rfl rfl (take_ofW HT_.out HW_.out (by kernel_rfl)) (fun _ _ _ h => h) (Or.inl ⟨by rfl, ?_⟩) hHeld ?_ ?_
   rotate_left
   ·rintro w' ⟨s0_, s1_⟩
    go_simp
    with_reducible rfl
   rotate_left
   ·simp only [Act.put, List.setIfInBounds_toArray, List.set_cons_zero, List.set_cons_succ, i64_w, i32_w]
    rfl
   refine take_ (i := 3) (N := some 12) (v := ?_) (a' := ?_) #[true, true, true, true, false, false, false] rfl rfl (take_ofW HT_.out HW_.out (by kernel_rfl)) (fun _ _ _ h => h) (Or.inl ⟨by rfl, ?_⟩) hHeld ?_ ?_
   rotate_left
   ·rintro w' ⟨s0_, s1_⟩
    have sz_0 : w'.cell? ⟨gx, ox, none⟩ = some (.string x.f0) := s1_ 0 _ rfl
    have sz_1 := s1_ 1 _ rfl
    have sz_2 := s1_ 2 _ rfl
    have sz_3 := s1_ 3 _ rfl
    have sz_4 := s1_ 4 _ rfl
    have sz_5 := s1_ 5 _ rfl
    have sz_6 := s1_ 6 _ rfl
    have sz_7 := s1_ 7 _ rfl
    have sz_8 := s1_ 8 _ rfl
    have sz_9 := s1_ 9 _ rfl
    have sz_10 := s1_ 10 _ rfl
    clear s1_
    go_simp
    with_reducible rfl
   rotate_left
   ·simp only [Act.put, List.setIfInBounds_toArray, List.set_cons_zero, List.set_cons_succ, i64_w, i32_w]
    rfl
   refine one_ (i := 4) (N := some 13) #[true, true, true, true, true, false, false] rfl rfl (one_of HT_.out (by kernel_rfl)) (by decide) (fun K hK => ?_)
   refine value_ (w1 := W5.alloc (.cells #[.string x.f0, .int .i64 x.f1, .int .i64 x.f2, .int .i64 x.f3.f0, .int .i64 x.f3.f1, .int .i64 x.f3.f2, .int .i64 x.f3.f3, .int .i64 x.f3.f4, .string x.f4, .string x.f5, .int .i64 x.f6] 43)) (v := .slice (some ⟨W5.heap.size, 0, none⟩) 1 1) (by rfl) rfl (by first | (go_simp; done) | (go_simp; rfl)) ?_
   refine hK.out _ _ ⟨((below_alloc (Below.refl _ _) _).cell (World.block_lt_of_cell? _ _ hHeld.1)).trans hHeld.1, fun j u hj => ((below_alloc (Below.refl _ _) _).cell (World.block_lt_of_cell? _ _ (hHeld.2 j u hj))).trans (hHeld.2 j u hj)⟩ (fun hHeld => ?_)
   clear hK K
   refine norm_ (a' := ?_) ?_ ?_
   rotate_left
   ·show Act.put _ (some 13) _ = _
    simp only [Act.put, List.setIfInBounds_toArray, List.set_cons_zero, List.set_cons_succ, i64_w, i32_w]
    rfl
   refine last_ (i := 5) (N := some 14) #[true, true, true, true, true, true, false] rfl rfl (one_of HT_.out (by kernel_rfl)) (by decide) (fun K hK => ?_)
   refine Kd.R_append_step k43 (w0 := w) w.heap.size (by rfl) (.tmp 9) (.tmp 13) 22 43 (.agg #[(.string ⟨#[]⟩), (.int .i64 0), (.int .i64 0), (.int .i64 0), (.int .i64 0), (.int .i64 0), (.int .i64 0), (.int .i64 0), (.string ⟨#[]⟩), (.string ⟨#[]⟩), (.int .i64 0)]) 112 rfl Try.underlying22 info43 rfl (by decide) (by omega) v l x [.string x.f0, .int .i64 x.f1, .int .i64 x.f2, .int .i64 x.f3.f0, .int .i64 x.f3.f1, .int .i64 x.f3.f2, .int .i64 x.f3.f3, .int .i64 x.f3.f4, .string x.f4, .string x.f5, .int .i64 x.f6] (fun k => w1.heap.size ≤ k) (fun _ => False) rfl rfl (k43_mkM _ _ _ x) (fun _ h => h.elim) (fun k hk => Nat.le_trans HBX.out.2.1.1 hk) HR.out HBX.out.1 (below_size HBX.out.1) (by have := HL.out; omega) ?_
   intro v2 w2 ho hb1 hg hat
   obtain ⟨A2, c2, e2⟩ := Kd.R_slice ho
   subst e2
   have HE := Aside0.mk (HBX.out.put HG.out.1 HG.out.2 HV.out HR.out.1 ho hb1 hg)
   have hc2 : w2.cell? ⟨g, 0, none⟩ = some v := (blk_cell (HBX.out.kept HG.out.2 HV.out HR.out.1 hg) 0).trans rfl
   have hf2 := blk_frozen (HBX.out.kept HG.out.2 HV.out HR.out.1 hg) 0
   clear ho hb1 hg hat
   refine hK.out _ _ ?_
   clear hK K
   refine norm_ (a' := ?_) ?_ ?_
   rotate_left
   ·show Act.put _ (some 14) _ = _
    simp only [Act.put, List.setIfInBounds_toArray, List.set_cons_zero, List.set_cons_succ, i64_w, i32_w]
    rfl
   refine last_ (i := 6) (N := none) #[true, true, true, true, true, true, true] rfl rfl (one_of HT_.out (by kernel_rfl)) (by decide) (fun K hK => ?_)
   refine skip_ (w1 := w2.setCell ⟨g, 0, none⟩ (.slice A2 (l ++ [x]).length c2)) (by rfl) rfl (by first | (go_simp; done) | (go_simp; rfl)) ?_
   refine hK.out _ _ ?_
   clear hK K
   refine done_ (done_of HT_.out (by kernel_rfl)) ?_
   try go_wp2
   go_end0
   exact ⟨rfl, by rw [H0.out]; exact HE.out⟩
 ·have q0 : (b == 0) = false := beq_eq_false_iff_ne.mpr h0
  have H0 := Aside0.mk (show commonE (x, y) = [] from if_neg (by rw [hb]; exact h0))
  clear h0 hb hx hy
  go_enter Try.func27, Try.ntmps27
  go_wp2_with (first | (go_at_call 25; (with_reducible refine (hbc _ (Below.refl _ _)).mono ?_); rintro e W9 ⟨rfl, hb⟩; have HX9 := Aside0.mk (HX.out.step HG.out.2 hb); have HW9 := Aside0.mk hb; clear HX hb hbc))
  go_end0
  exact ⟨rfl, by rw [H0.out, List.append_nil]; exact HX9.out⟩
end Go.Proofs.Ytodbmagneaiocaa.PA
namespace Go.Proofs.Ytodbmagneaiocaa.PA
open Go.RowKit Go.Proofs.YtodbmagneaiocaaW.PrintWords Go.Proofs.YtodbmagneaiocaaW.PrintLast Go.Proofs.YtodbmagneaiocaaW.PrintMore
attribute [local go_sem] max2_int min2_int max_two min_two max_three min_three max_four min_four
set_option linter.unusedVariables false
set_option linter.unusedSimpArgs false
theorem firstL_step (l : List S43) (i : Nat) (h : i < l.length) : firstL (l.take (i + 1)) = firstG (firstL (l.take i)) l[i] := by
 unfold firstL
 rw [List.take_succ_eq_append_getElem h, List.foldl_append]
 rfl
theorem firstG_len (acc : List S43) (y : S43) : (firstG acc y).length ≤ acc.length + 1 := by
 unfold firstG
 split
 ·simp
 ·omega
theorem firstL_len (l : List S43) : (firstL l).length ≤ l.length := by
 have : ∀ (l acc : List S43), (l.foldl firstG acc).length ≤ acc.length + l.length := by
  intro l
  induction l with
  | nil => intro acc; exact Nat.le_refl _
  | cons y l ih =>
   intro acc
   have h1 := ih (firstG acc y)
   have h2 := firstG_len acc y
   rw [List.foldl_cons, List.length_cons]
   omega
 have h := this l []
 rw [List.length_nil, Nat.zero_add] at h
 exact h
theorem firstL_mem (l : List S43) : ∀ x ∈ firstL l, x ∈ l := by
 have : ∀ (l acc : List S43), ∀ x ∈ l.foldl firstG acc, x ∈ acc ∨ x ∈ l := by
  intro l
  induction l with
  | nil => intro acc x hx; exact Or.inl hx
  | cons y l ih =>
   intro acc x hx
   rcases ih (firstG acc y) x hx with h | h
   ·unfold firstG at h
    split at h
    ·rcases List.mem_append.1 h with h | h
     ·exact Or.inl h
     ·exact Or.inr (List.mem_cons.2 (Or.inl (List.mem_singleton.1 h)))
    ·exact Or.inl h
   ·exact Or.inr (List.mem_cons_of_mem _ h)
 intro x hx
 rcases this l [] x hx with h | h
 ·cases h
 ·exact h
theorem last_rd (acc : List S43) (h : acc ≠ []) : rd_T43 acc ((acc.length : Int) - 1) = acc.getLastD z43 := by
 have hl : 0 < acc.length := List.length_pos_iff.2 h
 have e : (acc.length : Int) - 1 = ((acc.length - 1 : Nat) : Int) := by omega
 rw [e, rdE_get acc (acc.length - 1) (by omega)]
 cases acc with
 | nil => exact absurd rfl h
 | cons a t => simp [List.getLastD_eq_getLast?, List.getLast?_eq_getElem?]
set_option maxHeartbeats 8000000 in
set_option maxRecDepth 100000 in
theorem first_call (A0 : Option Addr) (c0 : Nat) (l0 : List S43) (w : World) (hr0 : Kd.C k43 w A0 l0.length l0) (hc0 : l0.length ≤ c0) (hl : l0.length < 1000000000) (hz : ∀ y ∈ l0, y.f0.size ≤ 1048576) :
  Calls Try.prog 22 #[.slice A0 l0.length c0] w fun e w' => ∃ v0_ : Value, e = .returned v0_ ∧ Kd.R k43 43 w' w.heap.size (fun _ => True) v0_ (firstL (sortS l0)) ∧ Below w.heap.size w w' := by
 have hu := Try.underlying43
 have HB := Aside0.mk (Below.refl w.heap.size w)
 have hso : ∀ W, Below w.heap.size w W → Calls Try.prog 31 #[.slice A0 l0.length c0] W fun e w' => ∃ v0_ : Value, e = .returned v0_ ∧ Kd.R k43 43 w' W.heap.size (fun _ => True) v0_ (sortS l0) ∧ Below W.heap.size W w' := fun W hb =>
  flist_Sort.calls A0 c0 l0 (sortS l0) W (Kd.C_below hr0 hb) hc0 (if_pos ⟨hl, hz⟩)
 obtain ⟨S, hS⟩ : ∃ S, sortS l0 = S := ⟨_, rfl⟩
 have hSl : S.length < 1000000000 := by rw [← hS, (sortS_ok l0).1.len]; exact hl
 rw [hS] at hso
 have HS := Aside0.mk hSl
 have HSO := Aside0.mk hso
 rw [hS]
 clear hS hr0 hc0 hl hz hso hSl
 go_enter Try.func22, Try.ntmps22
 go_wp2_with (first | (go_at_call 31; (with_reducible refine (HSO.out _ HB.out).mono ?_); rintro e w7 ⟨v7, rfl, ho, hb⟩; obtain ⟨A7, c7, e7⟩ := Kd.R_slice ho; subst e7; have HR := Aside0.mk ho; have HW := Aside0.mk (below_step HB.out hb); clear HB HSO ho hb; have HB := Aside0.mk (Below.refl w7.heap.size w7)))
 go_loopw [3, 9] (fun v3 v9 wr => ∃ i : Nat, v9 = .int .i64 (i : Int) ∧ Aside0 (i ≤ S.length) ∧ Aside0 (Kd.R k43 43 wr w7.heap.size (fun _ => True) v3 (firstL (S.take i))) ∧ Aside0 (Below w7.heap.size w7 wr)) (fun _ v9 _ => S.length - (intOf v9).toNat)
 case atStart => exact ⟨0, rfl, ⟨Nat.zero_le _⟩, ⟨Kd.R_nil _ _ _ _ _⟩, HB⟩
 case round =>
  clear HB
  obtain ⟨i, rfl, HI, HO, HB⟩ := hrel
  by_cases hi : i < S.length
  ·have hd : decide ((i : Int) < (S.length : Int)) = true := decide_eq_true (by omega)
   obtain ⟨gs, cs_, es, gbs, _, _, _⟩ := Kd.R_form HR.out (by omega)
   injection es with e1 e2 e3
   subst e1
   subst e3
   clear e2
   have HRr := Kd.R_below HR.out HB.out
   obtain ⟨y, hy⟩ : ∃ y, rd_T43 S (i : Int) = y := ⟨_, rfl⟩
   have hye : S[i] = y := by rw [← hy, rdE_get S i hi]
   obtain ⟨ce, hlc, hMc, hcc, hfc⟩ := Kd.R_elem HRr z43 (i : Int) (by omega) (by omega)
   obtain rfl := k43_openM hMc
   rw [Int.toNat_natCast] at hcc
   replace hcc : ∀ j u, (entA (rd_T43 S (i : Int)))[j]? = some u → wr.cell? ⟨gs, i * 11 + j, none⟩ = some u := hcc
   rw [hy] at hcc
   have hx_0 : wr.cell? ⟨gs, i * 11, none⟩ = some (.string y.f0) := hcc 0 _ rfl
   have hx_1 : wr.cell? ⟨gs, i * 11 + 1, none⟩ = some (.int .i64 y.f1) := hcc 1 _ rfl
   have hx_2 : wr.cell? ⟨gs, i * 11 + 2, none⟩ = some (.int .i64 y.f2) := hcc 2 _ rfl
   have hx_3 : wr.cell? ⟨gs, i * 11 + 3, none⟩ = some (.int .i64 y.f3.f0) := hcc 3 _ rfl
   have hx_4 : wr.cell? ⟨gs, i * 11 + 4, none⟩ = some (.int .i64 y.f3.f1) := hcc 4 _ rfl
   have hx_5 : wr.cell? ⟨gs, i * 11 + 5, none⟩ = some (.int .i64 y.f3.f2) := hcc 5 _ rfl
   have hx_6 : wr.cell? ⟨gs, i * 11 + 6, none⟩ = some (.int .i64 y.f3.f3) := hcc 6 _ rfl
   have hx_7 : wr.cell? ⟨gs, i * 11 + 7, none⟩ = some (.int .i64 y.f3.f4) := hcc 7 _ rfl
   have hx_8 : wr.cell? ⟨gs, i * 11 + 8, none⟩ = some (.string y.f4) := hcc 8 _ rfl
   have hx_9 : wr.cell? ⟨gs, i * 11 + 9, none⟩ = some (.string y.f5) := hcc 9 _ rfl
   have hx_10 : wr.cell? ⟨gs, i * 11 + 10, none⟩ = some (.int .i64 y.f6) := hcc 10 _ rfl
   clear hcc hfc hMc hlc
   have p1 : (0 ≤ (i : Int)) = True := eq_true (by omega)
   have p2 : ((i : Int) < (S.length : Int)) = True := eq_true (by omega)
   have Hst := Aside0.mk (show firstL (S.take (i + 1)) = firstG (firstL (S.take i)) y by rw [firstL_step S i hi, hye])
   have hal := firstL_len (S.take i)
   have htl := List.length_take_le i S
   obtain ⟨acc, hacc⟩ : ∃ acc, firstL (S.take i) = acc := ⟨_, rfl⟩
   rw [hacc] at HO hal
   have HACC := Aside0.mk hacc
   have Hlen := Aside0.mk (show acc.length < 1256584717458 by have := HS.out; omega)
   have Hi := Aside0.mk hi
   have hw1 : wrap64 ((i : Int) + 1) = ((i + 1 : Nat) : Int) := wrapE i (by have := HS.out; omega)
   have HW1 := Aside0.mk hw1
   clear hw1 hi hye hacc hal htl
   obtain ⟨Ao, co, eo⟩ := Kd.R_slice HO.out
   subst eo
   have hcz_0 : (wr.alloc (.cells #[.string y.f0, .int .i64 y.f1, .int .i64 y.f2, .int .i64 y.f3.f0, .int .i64 y.f3.f1, .int .i64 y.f3.f2, .int .i64 y.f3.f3, .int .i64 y.f3.f4, .string y.f4, .string y.f5, .int .i64 y.f6] 43 (0, 0))).cell? ⟨wr.heap.size, 0, none⟩ = some (.string y.f0) := (blk_cell (blk_new wr _) 0).trans rfl
   have hcz_1 : (wr.alloc (.cells #[.string y.f0, .int .i64 y.f1, .int .i64 y.f2, .int .i64 y.f3.f0, .int .i64 y.f3.f1, .int .i64 y.f3.f2, .int .i64 y.f3.f3, .int .i64 y.f3.f4, .string y.f4, .string y.f5, .int .i64 y.f6] 43 (0, 0))).cell? ⟨wr.heap.size, 1, none⟩ = some (.int .i64 y.f1) := (blk_cell (blk_new wr _) 1).trans rfl
   have hcz_2 : (wr.alloc (.cells #[.string y.f0, .int .i64 y.f1, .int .i64 y.f2, .int .i64 y.f3.f0, .int .i64 y.f3.f1, .int .i64 y.f3.f2, .int .i64 y.f3.f3, .int .i64 y.f3.f4, .string y.f4, .string y.f5, .int .i64 y.f6] 43 (0, 0))).cell? ⟨wr.heap.size, 2, none⟩ = some (.int .i64 y.f2) := (blk_cell (blk_new wr _) 2).trans rfl
   have hcz_3 : (wr.alloc (.cells #[.string y.f0, .int .i64 y.f1, .int .i64 y.f2, .int .i64 y.f3.f0, .int .i64 y.f3.f1, .int .i64 y.f3.f2, .int .i64 y.f3.f3, .int .i64 y.f3.f4, .string y.f4, .string y.f5, .int .i64 y.f6] 43 (0, 0))).cell? ⟨wr.heap.size, 3, none⟩ = some (.int .i64 y.f3.f0) := (blk_cell (blk_new wr _) 3).trans rfl
   have hcz_4 : (wr.alloc (.cells #[.string y.f0, .int .i64 y.f1, .int .i64 y.f2, .int .i64 y.f3.f0, .int .i64 y.f3.f1, .int .i64 y.f3.f2, .int .i64 y.f3.f3, .int .i64 y.f3.f4, .string y.f4, .string y.f5, .int .i64 y.f6] 43 (0, 0))).cell? ⟨wr.heap.size, 4, none⟩ = some (.int .i64 y.f3.f1) := (blk_cell (blk_new wr _) 4).trans rfl
   have hcz_5 : (wr.alloc (.cells #[.string y.f0, .int .i64 y.f1, .int .i64 y.f2, .int .i64 y.f3.f0, .int .i64 y.f3.f1, .int .i64 y.f3.f2, .int .i64 y.f3.f3, .int .i64 y.f3.f4, .string y.f4, .string y.f5, .int .i64 y.f6] 43 (0, 0))).cell? ⟨wr.heap.size, 5, none⟩ = some (.int .i64 y.f3.f2) := (blk_cell (blk_new wr _) 5).trans rfl
   have hcz_6 : (wr.alloc (.cells #[.string y.f0, .int .i64 y.f1, .int .i64 y.f2, .int .i64 y.f3.f0, .int .i64 y.f3.f1, .int .i64 y.f3.f2, .int .i64 y.f3.f3, .int .i64 y.f3.f4, .string y.f4, .string y.f5, .int .i64 y.f6] 43 (0, 0))).cell? ⟨wr.heap.size, 6, none⟩ = some (.int .i64 y.f3.f3) := (blk_cell (blk_new wr _) 6).trans rfl
   have hcz_7 : (wr.alloc (.cells #[.string y.f0, .int .i64 y.f1, .int .i64 y.f2, .int .i64 y.f3.f0, .int .i64 y.f3.f1, .int .i64 y.f3.f2, .int .i64 y.f3.f3, .int .i64 y.f3.f4, .string y.f4, .string y.f5, .int .i64 y.f6] 43 (0, 0))).cell? ⟨wr.heap.size, 7, none⟩ = some (.int .i64 y.f3.f4) := (blk_cell (blk_new wr _) 7).trans rfl
   have hcz_8 : (wr.alloc (.cells #[.string y.f0, .int .i64 y.f1, .int .i64 y.f2, .int .i64 y.f3.f0, .int .i64 y.f3.f1, .int .i64 y.f3.f2, .int .i64 y.f3.f3, .int .i64 y.f3.f4, .string y.f4, .string y.f5, .int .i64 y.f6] 43 (0, 0))).cell? ⟨wr.heap.size, 8, none⟩ = some (.string y.f4) := (blk_cell (blk_new wr _) 8).trans rfl
   have hcz_9 : (wr.alloc (.cells #[.string y.f0, .int .i64 y.f1, .int .i64 y.f2, .int .i64 y.f3.f0, .int .i64 y.f3.f1, .int .i64 y.f3.f2, .int .i64 y.f3.f3, .int .i64 y.f3.f4, .string y.f4, .string y.f5, .int .i64 y.f6] 43 (0, 0))).cell? ⟨wr.heap.size, 9, none⟩ = some (.string y.f5) := (blk_cell (blk_new wr _) 9).trans rfl
   have hcz_10 : (wr.alloc (.cells #[.string y.f0, .int .i64 y.f1, .int .i64 y.f2, .int .i64 y.f3.f0, .int .i64 y.f3.f1, .int .i64 y.f3.f2, .int .i64 y.f3.f3, .int .i64 y.f3.f4, .string y.f4, .string y.f5, .int .i64 y.f6] 43 (0, 0))).cell? ⟨wr.heap.size, 10, none⟩ = some (.int .i64 y.f6) := (blk_cell (blk_new wr _) 10).trans rfl
   by_cases hn : acc = []
   ·have q0 : ((acc.length : Int) == 0) = true := beq_iff_eq.mpr (by rw [hn]; rfl)
    have HG := Aside0.mk (show firstG acc y = acc ++ [y] from if_pos (Or.inl hn))
    clear hn
    go_wp2
    have n0_ := Aside0.mk (Kd.R_alloc HO.out (.cells #[.string y.f0, .int .i64 y.f1, .int .i64 y.f2, .int .i64 y.f3.f0, .int .i64 y.f3.f1, .int .i64 y.f3.f2, .int .i64 y.f3.f3, .int .i64 y.f3.f4, .string y.f4, .string y.f5, .int .i64 y.f6] 43 (0, 0)))
    have n1_ := Aside0.mk (below_alloc HB.out (.cells #[.string y.f0, .int .i64 y.f1, .int .i64 y.f2, .int .i64 y.f3.f0, .int .i64 y.f3.f1, .int .i64 y.f3.f2, .int .i64 y.f3.f3, .int .i64 y.f3.f4, .string y.f4, .string y.f5, .int .i64 y.f6] 43 (0, 0)))
    clear HO HB
    have HO := n0_
    have HB := n1_
    clear n0_ n1_
    generalize wr.alloc (.cells #[.string y.f0, .int .i64 y.f1, .int .i64 y.f2, .int .i64 y.f3.f0, .int .i64 y.f3.f1, .int .i64 y.f3.f2, .int .i64 y.f3.f3, .int .i64 y.f3.f4, .string y.f4, .string y.f5, .int .i64 y.f6] 43 (0, 0)) = w9 at HO HB hcz_0 hcz_1 hcz_2 hcz_3 hcz_4 hcz_5 hcz_6 hcz_7 hcz_8 hcz_9 hcz_10 ⊢
    go_quiet (fail)
    go_wp2_with (first | ((with_reducible refine gate_builtin (b := .append) (xs := #[.tmp 28, .tmp 30]) rfl ?_); at_builtin; refine Kd.R_append k43 (w0 := w7) w7.heap.size rfl (.tmp 28) (.tmp 30) 22 43 (.agg #[(.string ⟨#[]⟩), (.int .i64 0), (.int .i64 0), (.int .i64 0), (.int .i64 0), (.int .i64 0), (.int .i64 0), (.int .i64 0), (.string ⟨#[]⟩), (.string ⟨#[]⟩), (.int .i64 0)]) 112 rfl Try.underlying22 info43 rfl (by decide) (by omega) (.slice Ao acc.length co) acc y [.string y.f0, .int .i64 y.f1, .int .i64 y.f2, .int .i64 y.f3.f0, .int .i64 y.f3.f1, .int .i64 y.f3.f2, .int .i64 y.f3.f3, .int .i64 y.f3.f4, .string y.f4, .string y.f5, .int .i64 y.f6] (fun _ => True) (fun _ => False) rfl rfl ?aP (fun _ hk => hk.elim) ?aF ?aO ?aB ?aS ?aL ?_; (case aP => exact k43_mkM _ _ _ y); (case aB => exact (by repeat (first | (with_reducible first | exact HB.out | apply below_alloc | apply pw_below_drewN | apply below_drew1) | exact HB.out))); (case aF => exact (fun _ _ => trivial)); (case aO => exact (by (with_reducible repeat (first | apply Kd.R_alloc | apply Kd.R_drewN | apply Kd.R_drew)); exact HO.out)); (case aS => exact (below_size (by repeat (first | (with_reducible first | exact HB.out | apply below_alloc | apply pw_below_drewN | apply below_drew1) | exact HB.out)))); (case aL => have := Hlen.out; omega); intro v103 w8 ho hb hgr hat; have n0_ := Aside0.mk hb; have n1_ := Aside0.mk ho; clear HB HO; have HB := n0_; have HO := n1_; clear n0_ n1_ ho hb hgr hat))
    go_roundw
    case rel => exact ⟨i + 1, by rw [HW1.out], ⟨by have := Hi.out; omega⟩, ⟨by rw [Hst.out, HACC.out, HG.out]; exact HO.out⟩, HB⟩
    case measure =>
     rw [HW1.out]
     show S.length - ((i + 1 : Nat) : Int).toNat < S.length - (i : Int).toNat
     rw [Int.toNat_natCast, Int.toNat_natCast]
     have := Hi.out
     omega
   ·have hl0 : 0 < acc.length := List.length_pos_iff.2 hn
    have q0 : ((acc.length : Int) == 0) = false := beq_eq_false_iff_ne.mpr (by omega)
    have q00 : acc.isEmpty = false := by cases acc with | nil => exact absurd rfl hn | cons _ _ => rfl
    obtain ⟨m, hm⟩ : ∃ m : Nat, (acc.length : Int) - 1 = (m : Int) := ⟨acc.length - 1, by omega⟩
    have q1 : wrap64 ((acc.length : Int) - 1) = (m : Int) := by rw [wr64 _ (by omega) (by have := Hlen.out; omega), hm]
    have q2 : (0 ≤ (m : Int)) = True := eq_true (by omega)
    have q3 : ((m : Int) < (acc.length : Int)) = True := eq_true (by omega)
    have q4 : (m < acc.length) = True := eq_true (by omega)
    obtain ⟨go, co_, eo, gbo, _, _, _⟩ := Kd.R_form HO.out (by omega)
    injection eo with e1 e2 e3
    subst e1
    subst e3
    clear e2
    obtain ⟨z, hz⟩ : ∃ z, rd_T43 acc (m : Int) = z := ⟨_, rfl⟩
    obtain ⟨ce, hlc, hMc, hcc, hfc⟩ := Kd.R_elem HO.out z43 (m : Int) (by omega) (by omega)
    obtain rfl := k43_openM hMc
    rw [Int.toNat_natCast] at hcc
    replace hcc : ∀ j u, (entA (rd_T43 acc (m : Int)))[j]? = some u → wr.cell? ⟨go, m * 11 + j, none⟩ = some u := hcc
    rw [hz] at hcc
    have hl_0 : wr.cell? ⟨go, m * 11, none⟩ = some (.string z.f0) := hcc 0 _ rfl
    have hl_1 : (wr.alloc (.cells #[.string y.f0, .int .i64 y.f1, .int .i64 y.f2, .int .i64 y.f3.f0, .int .i64 y.f3.f1, .int .i64 y.f3.f2, .int .i64 y.f3.f3, .int .i64 y.f3.f4, .string y.f4, .string y.f5, .int .i64 y.f6] 43 (0, 0))).cell? ⟨go, m * 11, none⟩ = some (.string z.f0) := ((below_alloc (Below.refl wr.heap.size wr) _).cell (World.block_lt_of_cell? wr _ hl_0)).trans hl_0
    have hzl : acc.getLastD z43 = z := by rw [← hz, ← hm, last_rd acc hn]
    clear hcc hfc hMc hlc hz
    by_cases hp : z.f0 = y.f0
    ·have r0 : (z.f0.toList == y.f0.toList) = true := beq_iff_eq.mpr (by rw [hp])
     have r1 : (z.f0.toList != y.f0.toList) = false := bne_eq_false_iff_eq.mpr (by rw [hp])
     have HG := Aside0.mk (show firstG acc y = acc from if_neg (by rw [hzl]; exact fun h => h.elim hn (fun h => h hp)))
     clear hp hzl hl0 hm hn
     go_wp2
     have n0_ := Aside0.mk (Kd.R_alloc HO.out (.cells #[.string y.f0, .int .i64 y.f1, .int .i64 y.f2, .int .i64 y.f3.f0, .int .i64 y.f3.f1, .int .i64 y.f3.f2, .int .i64 y.f3.f3, .int .i64 y.f3.f4, .string y.f4, .string y.f5, .int .i64 y.f6] 43 (0, 0)))
     have n1_ := Aside0.mk (below_alloc HB.out (.cells #[.string y.f0, .int .i64 y.f1, .int .i64 y.f2, .int .i64 y.f3.f0, .int .i64 y.f3.f1, .int .i64 y.f3.f2, .int .i64 y.f3.f3, .int .i64 y.f3.f4, .string y.f4, .string y.f5, .int .i64 y.f6] 43 (0, 0)))
     clear HO HB
     have HO := n0_
     have HB := n1_
     clear n0_ n1_
     generalize wr.alloc (.cells #[.string y.f0, .int .i64 y.f1, .int .i64 y.f2, .int .i64 y.f3.f0, .int .i64 y.f3.f1, .int .i64 y.f3.f2, .int .i64 y.f3.f3, .int .i64 y.f3.f4, .string y.f4, .string y.f5, .int .i64 y.f6] 43 (0, 0)) = w9 at HO HB hcz_0 hcz_1 hcz_2 hcz_3 hcz_4 hcz_5 hcz_6 hcz_7 hcz_8 hcz_9 hcz_10 hl_1 ⊢
     go_quiet (fail)
     go_wp2
     go_roundw
     case rel => exact ⟨i + 1, by rw [HW1.out], ⟨by have := Hi.out; omega⟩, ⟨by rw [Hst.out, HACC.out, HG.out]; exact (by (with_reducible repeat (first | apply Kd.R_alloc | apply Kd.R_drewN | apply Kd.R_drew)); exact HO.out)⟩, ⟨(by repeat (first | (with_reducible first | exact HB.out | apply below_alloc | apply pw_below_drewN | apply below_drew1) | exact HB.out))⟩⟩
     case measure =>
      rw [HW1.out]
      show S.length - ((i + 1 : Nat) : Int).toNat < S.length - (i : Int).toNat
      rw [Int.toNat_natCast, Int.toNat_natCast]
      have := Hi.out
      omega
    ·have r0 : (z.f0.toList == y.f0.toList) = false := beq_eq_false_iff_ne.mpr (fun e => hp ((tl_eq _ _).1 e))
     have r1 : (z.f0.toList != y.f0.toList) = true := bne_iff_ne.mpr (fun e => hp ((tl_eq _ _).1 e))
     have HG := Aside0.mk (show firstG acc y = acc ++ [y] from if_pos (Or.inr (by rw [hzl]; exact hp)))
     clear hp hzl hl0 hm hn
     go_wp2
     have n0_ := Aside0.mk (Kd.R_alloc HO.out (.cells #[.string y.f0, .int .i64 y.f1, .int .i64 y.f2, .int .i64 y.f3.f0, .int .i64 y.f3.f1, .int .i64 y.f3.f2, .int .i64 y.f3.f3, .int .i64 y.f3.f4, .string y.f4, .string y.f5, .int .i64 y.f6] 43 (0, 0)))
     have n1_ := Aside0.mk (below_alloc HB.out (.cells #[.string y.f0, .int .i64 y.f1, .int .i64 y.f2, .int .i64 y.f3.f0, .int .i64 y.f3.f1, .int .i64 y.f3.f2, .int .i64 y.f3.f3, .int .i64 y.f3.f4, .string y.f4, .string y.f5, .int .i64 y.f6] 43 (0, 0)))
     clear HO HB
     have HO := n0_
     have HB := n1_
     clear n0_ n1_
     generalize wr.alloc (.cells #[.string y.f0, .int .i64 y.f1, .int .i64 y.f2, .int .i64 y.f3.f0, .int .i64 y.f3.f1, .int .i64 y.f3.f2, .int .i64 y.f3.f3, .int .i64 y.f3.f4, .string y.f4, .string y.f5, .int .i64 y.f6] 43 (0, 0)) = w9 at HO HB hcz_0 hcz_1 hcz_2 hcz_3 hcz_4 hcz_5 hcz_6 hcz_7 hcz_8 hcz_9 hcz_10 hl_1 ⊢
     go_quiet (fail)
     go_wp2_with (first | ((with_reducible refine gate_builtin (b := .append) (xs := #[.tmp 28, .tmp 30]) rfl ?_); at_builtin; refine Kd.R_append k43 (w0 := w7) w7.heap.size rfl (.tmp 28) (.tmp 30) 22 43 (.agg #[(.string ⟨#[]⟩), (.int .i64 0), (.int .i64 0), (.int .i64 0), (.int .i64 0), (.int .i64 0), (.int .i64 0), (.int .i64 0), (.string ⟨#[]⟩), (.string ⟨#[]⟩), (.int .i64 0)]) 112 rfl Try.underlying22 info43 rfl (by decide) (by omega) (.slice (some ⟨go, 0, none⟩) acc.length co) acc y [.string y.f0, .int .i64 y.f1, .int .i64 y.f2, .int .i64 y.f3.f0, .int .i64 y.f3.f1, .int .i64 y.f3.f2, .int .i64 y.f3.f3, .int .i64 y.f3.f4, .string y.f4, .string y.f5, .int .i64 y.f6] (fun _ => True) (fun _ => False) rfl rfl ?aP (fun _ hk => hk.elim) ?aF ?aO ?aB ?aS ?aL ?_; (case aP => exact k43_mkM _ _ _ y); (case aB => exact (by repeat (first | (with_reducible first | exact HB.out | apply below_alloc | apply pw_below_drewN | apply below_drew1) | exact HB.out))); (case aF => exact (fun _ _ => trivial)); (case aO => exact (by (with_reducible repeat (first | apply Kd.R_alloc | apply Kd.R_drewN | apply Kd.R_drew)); exact HO.out)); (case aS => exact (below_size (by repeat (first | (with_reducible first | exact HB.out | apply below_alloc | apply pw_below_drewN | apply below_drew1) | exact HB.out)))); (case aL => have := Hlen.out; omega); intro v103 w8 ho hb hgr hat; have n0_ := Aside0.mk hb; have n1_ := Aside0.mk ho; clear HB HO; have HB := n0_; have HO := n1_; clear n0_ n1_ ho hb hgr hat))
     go_roundw
     case rel => exact ⟨i + 1, by rw [HW1.out], ⟨by have := Hi.out; omega⟩, ⟨by rw [Hst.out, HACC.out, HG.out]; exact HO.out⟩, HB⟩
     case measure =>
      rw [HW1.out]
      show S.length - ((i + 1 : Nat) : Int).toNat < S.length - (i : Int).toNat
      rw [Int.toNat_natCast, Int.toNat_natCast]
      have := Hi.out
      omega
  ·have hd : decide ((i : Int) < (S.length : Int)) = false := decide_eq_false (by omega)
   have hd2 : decide (i < S.length) = false := decide_eq_false hi
   have Hi := Aside0.mk hi
   clear hi
   go_wp2
   go_ret
   exact ⟨_, rfl, Kd.R_lower (by have h := HO.out; rw [show i = S.length from by have := HI.out; have := Hi.out; omega, List.take_length] at h; exact h) (below_size HW.out), below_step HW.out HB.out⟩
end Go.Proofs.Ytodbmagneaiocaa.PA
namespace Go.Proofs.Ytodbmagneaiocaa.PA
open Go.RowKit Go.Proofs.YtodbmagneaiocaaW.PrintWords Go.Proofs.YtodbmagneaiocaaW.PrintLast Go.Proofs.YtodbmagneaiocaaW.PrintMore
attribute [local go_sem] max2_int min2_int max_two min_two max_three min_three max_four min_four
set_option linter.unusedVariables false
set_option linter.unusedSimpArgs false
def okL43 (l : List S43) : Prop := l.length < 1000000000 ∧ ∀ y ∈ l, y.f0.size ≤ 1048576
instance (l : List S43) : Decidable (okL43 l) := inferInstanceAs (Decidable (_ ∧ _))
theorem first_ok (l : List S43) (h : okL43 l) : okL43 (firstL (sortS l)) := by
 have hs := (sortS_ok l).1
 refine ⟨?_, fun y hy => h.2 y (hs.1.mem_iff.1 (firstL_mem _ y hy))⟩
 have h1 := firstL_len (sortS l)
 rw [hs.len] at h1
 exact Nat.lt_of_le_of_lt h1 h.1
theorem rowKept {α : Type} {d : Kd α} {e : Nat} {w3 W : World} {base b0 g : Nat} {v : Value} {l : List α} (h : Kd.R d e w3 base (fun _ => True) v l) (hb : b0 ≤ base) (hk : KeepBut w3 W g none) (hg : g < b0) : Kd.R d e W b0 (fun k => b0 ≤ k ∧ k < w3.heap.size) v l :=
 Kd.R_kept (S := fun k => k = g) (Kd.R_mono (Kd.R_bound (Kd.R_lower h hb)) (fun k hk => ⟨hk.2.1, hk.2.2.1⟩)) ⟨hk.1, fun i hi hn => hk.2 i hi hn (by simp)⟩ (fun k hk e => by omega)
theorem flat_len {α β : Type} (f : α → List β) (hf : ∀ x, (f x).length ≤ 1) (E : List α) : (E.flatMap f).length ≤ E.length := by
 induction E with
 | nil => exact Nat.le_refl _
 | cons x E ih =>
  rw [List.flatMap_cons, List.length_append, List.length_cons]
  have := hf x
  omega
theorem sinceE_len (p : Option S43 × Option S43) : (sinceE p).length ≤ 1 := by
 unfold sinceE
 split
 ·exact Nat.zero_le _
 ·exact Nat.le_refl _
theorem commonE_len (p : Option S43 × Option S43) : (commonE p).length ≤ 1 := by
 unfold commonE
 split
 ·cases p.1 <;> simp
 ·exact Nat.zero_le _
theorem since_both (w w2 w3 : World) (a b : List S43) (Aa Ab : Option Addr) (ca cb : Nat) (HB2 : Below (w.alloc (.cells #[.slice none 0 0] 25)).heap.size (w.alloc (.cells #[.slice none 0 0] 25)) w2) (HB3 : Below w2.heap.size w2 w3)
  (HOa : Kd.R k43 43 w2 (w.alloc (.cells #[.slice none 0 0] 25)).heap.size (fun _ => True) (.slice Aa a.length ca) a) (HOb : Kd.R k43 43 w3 w2.heap.size (fun _ => True) (.slice Ab b.length cb) b) (hla : a.length < 1000000000) (hlb : b.length < 1000000000) (hza : ∀ x ∈ a, x.f0.size ≤ 1048576) (hzb : ∀ x ∈ b, x.f0.size ≤ 1048576)
  (eg : ∀ args w, (callFunc 24 args).run Try.prog w = .ok (.enter 24 args) w) :
  Calls Try.prog 21 #[.slice Aa a.length ca, .slice Ab b.length cb, .func (.func 23) #[] #[], .func (.func 24) #[] #[.pointer (some ⟨w.heap.size, 0, none⟩)]] w3 fun e w' => e = .returned (.tuple #[]) ∧ Box1 k28 28 25 w w3 w' w.heap.size ((bothL a b).flatMap sinceE) := by
 have hs0 : (w.alloc (.cells #[.slice none 0 0] 25)).heap.size = w.heap.size + 1 := World.size_alloc _ _
 have hs2 := HB2.size
 have hs3 := HB3.size
 rw [hs0] at hs2
 have hb0 : Below w.heap.size w w3 := below_step (below_step (below_alloc (Below.refl _ _) _) HB2) HB3
 refine both_call a b Aa Ab ca cb w3 24 _ eg (fun W E => Box1 k28 28 25 w w3 W w.heap.size (E.flatMap sinceE)) ?_ ?_ (w.heap.size + 1) (fun k => w.heap.size + 1 ≤ k ∧ k < w3.heap.size) (fun k => w.heap.size + 1 ≤ k ∧ k < w3.heap.size) ?_ ?_ hla hlb hza hzb ?_
 ·exact ⟨hb0, KeepBut.refl _ _ _, .slice none 0 0, blk_below (blk_below (blk_new w _) HB2) HB3, Kd.R_nil _ _ _ _ _⟩
 ·exact fun W W2 E h hb => h.step (by omega) hb
 ·exact fun W E h => rowKept (Kd.R_below (hs0 ▸ HOa) HB3) (Nat.le_refl _) h.2.1 (Nat.lt_succ_self _)
 ·exact fun W E h => rowKept HOb (by omega) h.2.1 (Nat.lt_succ_self _)
 ·intro W E x y p q h hne hl hsz hx hy
  have hfl := flat_len sinceE sinceE_len E
  rw [List.flatMap_append, List.flatMap_singleton]
  exact since1_call x y hne p q w w3 W w.heap.size _ h (Nat.le_refl _) (by omega) (by omega) hx hy
set_option maxHeartbeats 4000000 in
set_option maxRecDepth 100000 in
theorem since_call (A0 : Option Addr) (c0 : Nat) (l0 : List S43) (A1 : Option Addr) (c1 : Nat) (l1 : List S43) (w : World) (hr0 : Kd.C k43 w A0 l0.length l0) (hc0 : l0.length ≤ c0) (hr1 : Kd.C k43 w A1 l1.length l1) (hc1 : l1.length ≤ c1) (h0 : okL43 l0) (h1 : okL43 l1) :
  Calls Try.prog 11 #[.slice A0 l0.length c0, .slice A1 l1.length c1] w fun e w' => ∃ v0_ : Value, e = .returned v0_ ∧ Kd.R k28 28 w' w.heap.size (fun _ => True) v0_ (sinceL l0 l1) ∧ Below w.heap.size w w' := by
 have hb0 := below_alloc (Below.refl w.heap.size w) (.cells #[.slice none 0 0] 25)
 have HF0 := Aside0.mk (first_call A0 c0 l0 (w.alloc (.cells #[.slice none 0 0] 25)) (Kd.C_below hr0 hb0) hc0 h0.1 h0.2)
 have HF1 : Aside0 (∀ W, Below w.heap.size w W → Calls Try.prog 22 #[.slice A1 l1.length c1] W fun e w' => ∃ v0_ : Value, e = .returned v0_ ∧ Kd.R k43 43 w' W.heap.size (fun _ => True) v0_ (firstL (sortS l1)) ∧ Below W.heap.size W w') := ⟨fun W hb => first_call A1 c1 l1 W (Kd.C_below hr1 hb) hc1 h1.1 h1.2⟩
 have HB0 := Aside0.mk hb0
 obtain ⟨ha1, ha2⟩ := first_ok l0 h0
 obtain ⟨hb1, hb2⟩ := first_ok l1 h1
 have HFS := Aside0.mk (show sinceL l0 l1 = (bothL (firstL (sortS l0)) (firstL (sortS l1))).flatMap sinceE from rfl)
 obtain ⟨a, ea⟩ : ∃ a, firstL (sortS l0) = a := ⟨_, rfl⟩
 obtain ⟨b, eb⟩ : ∃ b, firstL (sortS l1) = b := ⟨_, rfl⟩
 rw [ea] at HF0 ha1 ha2 HFS
 rw [eb] at HF1 hb1 hb2 HFS
 have HLa := Aside0.mk ha1
 have HZa := Aside0.mk ha2
 have HLb := Aside0.mk hb1
 have HZb := Aside0.mk hb2
 clear hr0 hc0 hr1 hc1 h0 h1 hb0 ha1 ha2 hb1 hb2 ea eb
 have eg : ∀ args w, (callFunc 24 args).run Try.prog w = .ok (.enter 24 args) w := enters_ Try.func24 (by kernel_rfl) rfl
 go_enter Try.func11, Try.ntmps11
 go_wp2_with (first | (go_at_call 21; (with_reducible refine (since_both w w2 w3 a b Aa Ab ca cb HB2.out HB3.out HOa.out HOb.out HLa.out HLb.out HZa.out HZb.out eg).mono ?_); rintro e w4 ⟨rfl, hj⟩; obtain ⟨v, hv, hr⟩ := hj.2.2; have HR4 := Aside0.mk hr; have HB4 := Aside0.mk hj.1; have hc4 : w4.cell? ⟨w.heap.size, 0, none⟩ = some v := (blk_cell hv 0).trans rfl; clear hj hv hr) | (go_at_call 22; (with_reducible refine (HF0.out).mono ?_); rintro e w2 ⟨v2, rfl, ho, hb⟩; obtain ⟨Aa, ca, ea⟩ := Kd.R_slice ho; subst ea; have HOa := Aside0.mk ho; have HB2 := Aside0.mk hb; clear ho hb HF0) | (go_at_call 22; (with_reducible refine (HF1.out w2 (below_step HB0.out HB2.out)).mono ?_); rintro e w3 ⟨v3, rfl, ho, hb⟩; obtain ⟨Ab, cb, eb⟩ := Kd.R_slice ho; subst eb; have HOb := Aside0.mk ho; have HB3 := Aside0.mk hb; clear ho hb HF1))
 go_ret
 exact ⟨v, rfl, by rw [HFS.out]; exact Kd.R_mono HR4.out (fun _ _ => trivial), HB4.out⟩
theorem common_both (w w2 w3 : World) (a b : List S43) (Aa Ab : Option Addr) (ca cb : Nat) (HB2 : Below (w.alloc (.cells #[.slice none 0 0] 22)).heap.size (w.alloc (.cells #[.slice none 0 0] 22)) w2) (HB3 : Below w2.heap.size w2 w3)
  (HOa : Kd.R k43 43 w2 (w.alloc (.cells #[.slice none 0 0] 22)).heap.size (fun _ => True) (.slice Aa a.length ca) a) (HOb : Kd.R k43 43 w3 w2.heap.size (fun _ => True) (.slice Ab b.length cb) b) (hla : a.length < 1000000000) (hlb : b.length < 1000000000) (hza : ∀ x ∈ a, x.f0.size ≤ 1048576) (hzb : ∀ x ∈ b, x.f0.size ≤ 1048576)
  (eg : ∀ args w, (callFunc 27 args).run Try.prog w = .ok (.enter 27 args) w) :
  Calls Try.prog 21 #[.slice Aa a.length ca, .slice Ab b.length cb, .func (.func 23) #[] #[], .func (.func 27) #[] #[.pointer (some ⟨w.heap.size, 0, none⟩)]] w3 fun e w' => e = .returned (.tuple #[]) ∧ Box1 k43 43 22 w w3 w' w.heap.size ((bothL a b).flatMap commonE) := by
 have hs0 : (w.alloc (.cells #[.slice none 0 0] 22)).heap.size = w.heap.size + 1 := World.size_alloc _ _
 have hs2 := HB2.size
 have hs3 := HB3.size
 rw [hs0] at hs2
 have hb0 : Below w.heap.size w w3 := below_step (below_step (below_alloc (Below.refl _ _) _) HB2) HB3
 refine both_call a b Aa Ab ca cb w3 27 _ eg (fun W E => Box1 k43 43 22 w w3 W w.heap.size (E.flatMap commonE)) ?_ ?_ (w.heap.size + 1) (fun k => w.heap.size + 1 ≤ k ∧ k < w3.heap.size) (fun k => w.heap.size + 1 ≤ k ∧ k < w3.heap.size) ?_ ?_ hla hlb hza hzb ?_
 ·exact ⟨hb0, KeepBut.refl _ _ _, .slice none 0 0, blk_below (blk_below (blk_new w _) HB2) HB3, Kd.R_nil _ _ _ _ _⟩
 ·exact fun W W2 E h hb => h.step (by omega) hb
 ·exact fun W E h => rowKept (Kd.R_below (hs0 ▸ HOa) HB3) (Nat.le_refl _) h.2.1 (Nat.lt_succ_self _)
 ·exact fun W E h => rowKept HOb (by omega) h.2.1 (Nat.lt_succ_self _)
 ·intro W E x y p q h hne hl hsz hx hy
  have hfl := flat_len commonE commonE_len E
  rw [List.flatMap_append, List.flatMap_singleton]
  exact common1_call x y p q w w3 W w.heap.size _ h (Nat.le_refl _) (by omega) (by omega) hx hy
set_option maxHeartbeats 4000000 in
set_option maxRecDepth 100000 in
theorem common_call (A0 : Option Addr) (c0 : Nat) (l0 : List S43) (A1 : Option Addr) (c1 : Nat) (l1 : List S43) (w : World) (hr0 : Kd.C k43 w A0 l0.length l0) (hc0 : l0.length ≤ c0) (hr1 : Kd.C k43 w A1 l1.length l1) (hc1 : l1.length ≤ c1) (h0 : okL43 l0) (h1 : okL43 l1) :
  Calls Try.prog 15 #[.slice A0 l0.length c0, .slice A1 l1.length c1] w fun e w' => ∃ v0_ : Value, e = .returned v0_ ∧ Kd.R k43 43 w' w.heap.size (fun _ => True) v0_ (commonL l0 l1) ∧ Below w.heap.size w w' := by
 have hb0 := below_alloc (Below.refl w.heap.size w) (.cells #[.slice none 0 0] 22)
 have HF0 := Aside0.mk (first_call A0 c0 l0 (w.alloc (.cells #[.slice none 0 0] 22)) (Kd.C_below hr0 hb0) hc0 h0.1 h0.2)
 have HF1 : Aside0 (∀ W, Below w.heap.size w W → Calls Try.prog 22 #[.slice A1 l1.length c1] W fun e w' => ∃ v0_ : Value, e = .returned v0_ ∧ Kd.R k43 43 w' W.heap.size (fun _ => True) v0_ (firstL (sortS l1)) ∧ Below W.heap.size W w') := ⟨fun W hb => first_call A1 c1 l1 W (Kd.C_below hr1 hb) hc1 h1.1 h1.2⟩
 have HB0 := Aside0.mk hb0
 obtain ⟨ha1, ha2⟩ := first_ok l0 h0
 obtain ⟨hb1, hb2⟩ := first_ok l1 h1
 have HFS := Aside0.mk (show commonL l0 l1 = (bothL (firstL (sortS l0)) (firstL (sortS l1))).flatMap commonE from rfl)
 obtain ⟨a, ea⟩ : ∃ a, firstL (sortS l0) = a := ⟨_, rfl⟩
 obtain ⟨b, eb⟩ : ∃ b, firstL (sortS l1) = b := ⟨_, rfl⟩
 rw [ea] at HF0 ha1 ha2 HFS
 rw [eb] at HF1 hb1 hb2 HFS
 have HLa := Aside0.mk ha1
 have HZa := Aside0.mk ha2
 have HLb := Aside0.mk hb1
 have HZb := Aside0.mk hb2
 clear hr0 hc0 hr1 hc1 h0 h1 hb0 ha1 ha2 hb1 hb2 ea eb
 have eg : ∀ args w, (callFunc 27 args).run Try.prog w = .ok (.enter 27 args) w := enters_ Try.func27 (by kernel_rfl) rfl
 go_enter Try.func15, Try.ntmps15
 go_wp2_with (first | (go_at_call 21; (with_reducible refine (common_both w w2 w3 a b Aa Ab ca cb HB2.out HB3.out HOa.out HOb.out HLa.out HLb.out HZa.out HZb.out eg).mono ?_); rintro e w4 ⟨rfl, hj⟩; obtain ⟨v, hv, hr⟩ := hj.2.2; have HR4 := Aside0.mk hr; have HB4 := Aside0.mk hj.1; have hc4 : w4.cell? ⟨w.heap.size, 0, none⟩ = some v := (blk_cell hv 0).trans rfl; clear hj hv hr) | (go_at_call 22; (with_reducible refine (HF0.out).mono ?_); rintro e w2 ⟨v2, rfl, ho, hb⟩; obtain ⟨Aa, ca, ea⟩ := Kd.R_slice ho; subst ea; have HOa := Aside0.mk ho; have HB2 := Aside0.mk hb; clear ho hb HF0) | (go_at_call 22; (with_reducible refine (HF1.out w2 (below_step HB0.out HB2.out)).mono ?_); rintro e w3 ⟨v3, rfl, ho, hb⟩; obtain ⟨Ab, cb, eb⟩ := Kd.R_slice ho; subst eb; have HOb := Aside0.mk ho; have HB3 := Aside0.mk hb; clear ho hb HF1))
 go_ret
 exact ⟨v, rfl, by rw [HFS.out]; exact Kd.R_mono HR4.out (fun _ _ => trivial), HB4.out⟩
end Go.Proofs.Ytodbmagneaiocaa.PA
namespace Go.Proofs.Ytodbmagneaiocaa.PA
open Go.RowKit Go.Proofs.YtodbmagneaiocaaW.PrintWords Go.Proofs.YtodbmagneaiocaaW.PrintLast Go.Proofs.YtodbmagneaiocaaW.PrintMore
attribute [local go_sem] max2_int min2_int max_two min_two max_three min_three max_four min_four
set_option linter.unusedVariables false
set_option linter.unusedSimpArgs false
def arch_Since.f (l0 l1 : List S43) : Option (List S28) := if okL43 l0 ∧ okL43 l1 then some (sinceL l0 l1) else none
theorem arch_Since.calls (A0 : Option Addr) (c0 : Nat) (l0 : List S43) (A1 : Option Addr) (c1 : Nat) (l1 : List S43) (r : List S28) (w : World) (hr0 : Kd.C k43 w A0 l0.length l0) (hc0 : l0.length ≤ c0) (hr1 : Kd.C k43 w A1 l1.length l1) (hc1 : l1.length ≤ c1) (h : arch_Since.f l0 l1 = some r) :
  Calls Try.prog 11 #[.slice A0 l0.length c0, .slice A1 l1.length c1] w fun e w' => ∃ v0_ : Value, e = .returned v0_ ∧ Kd.R k28 28 w' w.heap.size (fun _ => True) v0_ r ∧ Below w.heap.size w w' := by
 unfold arch_Since.f at h
 split at h
 ·rename_i hs
  obtain rfl := Option.some.inj h
  exact since_call A0 c0 l0 A1 c1 l1 w hr0 hc0 hr1 hc1 hs.1 hs.2
 ·exact absurd h (by simp)
end Go.Proofs.Ytodbmagneaiocaa.PA
namespace Go.Proofs.Ytodbmagneaiocaa.PA
open Go.RowKit Go.Proofs.YtodbmagneaiocaaW.PrintWords Go.Proofs.YtodbmagneaiocaaW.PrintLast Go.Proofs.YtodbmagneaiocaaW.PrintMore
attribute [local go_sem] max2_int min2_int max_two min_two max_three min_three max_four min_four
set_option linter.unusedVariables false
set_option linter.unusedSimpArgs false
def ltB (p q : ByteArray) : Bool := decide (cmpL (splitL p) (splitL q) < 0)
theorem ltB_irr (p : ByteArray) : ltB p p = false := decide_eq_false (cmp_irr _)
theorem ltB_trans {p q r : ByteArray} (h : ltB p q = true) (h2 : ltB q r = true) : ltB p r = true := decide_eq_true (cmp_trans _ _ _ (of_decide_eq_true h) (of_decide_eq_true h2))
theorem ltB_tri {p q : ByteArray} (h : ltB p q = false) (h2 : ltB q p = false) : p = q := split_same20 _ _ (cmp_tri _ _ (of_decide_eq_false h) (of_decide_eq_false h2))
theorem ltB_ne {p q : ByteArray} (h : ltB p q = true) : p ≠ q := fun e => by
 subst e
 rw [ltB_irr] at h
 cases h
theorem ltB_of {p q : ByteArray} (h : ltB q p = false) (hne : p ≠ q) : ltB p q = true := by
 cases h2 : ltB p q with
 | true => rfl
 | false => exact absurd (ltB_tri h2 h) hne
theorem ltS_ltB (x y : S43) : ltS x y = ltB x.f0 y.f0 := rfl
def SS (l : List S43) : Prop := l.Pairwise (fun x y => ltB x.f0 y.f0 = true)
def findE (p : ByteArray) (l : List S43) : Option S43 := l.find? (fun x => decide (x.f0 = p))
theorem find_nil (p : ByteArray) : findE p [] = none := rfl
theorem find_same (x : S43) (l : List S43) : findE x.f0 (x :: l) = some x := List.find?_cons_of_pos (by simp)
theorem find_same' {x : S43} {p : ByteArray} (h : x.f0 = p) (l : List S43) : findE p (x :: l) = some x := List.find?_cons_of_pos (by simp [h])
theorem find_other {p : ByteArray} {x : S43} (h : x.f0 ≠ p) (l : List S43) : findE p (x :: l) = findE p l := List.find?_cons_of_neg (by simp [h])
theorem find_app (p : ByteArray) (l m : List S43) : findE p (l ++ m) = (findE p l).or (findE p m) := List.find?_append
theorem find_path {p : ByteArray} {l : List S43} {x : S43} (h : findE p l = some x) : x.f0 = p := by simpa using List.find?_some h
theorem find_mem {p : ByteArray} {l : List S43} {x : S43} (h : findE p l = some x) : x ∈ l := List.mem_of_find?_eq_some h
theorem find_none {p : ByteArray} {l : List S43} (h : ∀ x ∈ l, x.f0 ≠ p) : findE p l = none := List.find?_eq_none.2 (fun x hx => by simpa using h x hx)
theorem find_some {p : ByteArray} {l : List S43} (h : ∃ x ∈ l, x.f0 = p) : ∃ x, findE p l = some x := by
 cases hf : findE p l with
 | some x => exact ⟨x, rfl⟩
 | none =>
  obtain ⟨x, hx, e⟩ := h
  have := List.find?_eq_none.1 hf x hx
  simp [e] at this
theorem find_sort (p : ByteArray) (l : List S43) : findE p (sortS l) = findE p l := by
 have h := (sortS_ok l).1.2 (⟨p, 0, 0, ⟨0, 0, 0, 0, 0⟩, p, p, 0⟩ : S43)
 have e : (fun x : S43 => decide (x.f0 = p)) = eqvB ltS (⟨p, 0, 0, ⟨0, 0, 0, 0, 0⟩, p, p, 0⟩ : S43) := by
  funext x
  unfold eqvB
  rw [ltS_ltB, ltS_ltB]
  show decide (x.f0 = p) = (!ltB p x.f0 && !ltB x.f0 p)
  by_cases hx : x.f0 = p
  ·rw [hx, ltB_irr]
   simp
  ·rw [decide_eq_false hx]
   cases h1 : ltB p x.f0 with
   | true => rfl
   | false =>
    cases h2 : ltB x.f0 p with
    | true => rfl
    | false => exact absurd (ltB_tri h2 h1) hx
 unfold findE
 rw [← List.head?_filter, ← List.head?_filter, e, h]
theorem ss_last {F : List S43} (h : SS F) (hn : F ≠ []) : ∀ x ∈ F, x.f0 = (F.getLastD z43).f0 ∨ ltB x.f0 (F.getLastD z43).f0 = true := by
 obtain ⟨I, z, rfl⟩ : ∃ I z, F = I ++ [z] := ⟨F.dropLast, F.getLast hn, (List.dropLast_concat_getLast hn).symm⟩
 intro x hx
 have e : (I ++ [z]).getLastD z43 = z := by simp [List.getLastD_eq_getLast?]
 rw [e]
 rcases List.mem_append.1 hx with hx | hx
 ·exact Or.inr ((List.pairwise_append.1 h).2.2 x hx z (by simp))
 ·exact Or.inl (by rw [List.mem_singleton.1 hx])
theorem last_mem {F : List S43} (hn : F ≠ []) : F.getLastD z43 ∈ F := by
 obtain ⟨I, z, rfl⟩ : ∃ I z, F = I ++ [z] := ⟨F.dropLast, F.getLast hn, (List.dropLast_concat_getLast hn).symm⟩
 have e : (I ++ [z]).getLastD z43 = z := by simp [List.getLastD_eq_getLast?]
 rw [e]
 simp
theorem first_take (S : List S43) (h : SortedL ltS S) : ∀ i, i ≤ S.length → SS (firstL (S.take i)) ∧ (∀ p, findE p (firstL (S.take i)) = findE p (S.take i)) ∧ (∀ (h0 : 0 < i) (hi : i ≤ S.length), firstL (S.take i) ≠ [] ∧ ((firstL (S.take i)).getLastD z43).f0 = (S[i - 1]'(by omega)).f0) := by
 intro i
 induction i with
 | zero => exact fun _ => ⟨List.Pairwise.nil, fun p => rfl, fun h0 _ => absurd h0 (by omega)⟩
 | succ i ih =>
  intro hi
  obtain ⟨h1, h2, h3⟩ := ih (by omega)
  have hlt : i < S.length := by omega
  rw [firstL_step S i hlt, List.take_succ_eq_append_getElem hlt]
  obtain ⟨F, hF⟩ : ∃ F, firstL (S.take i) = F := ⟨_, rfl⟩
  obtain ⟨y, hy⟩ : ∃ y, S[i] = y := ⟨_, rfl⟩
  rw [hF] at h1 h2 h3
  rw [hF, hy]
  by_cases hn : F = []
  ·have i0 : i = 0 := by
    apply Classical.byContradiction
    intro hz
    exact (h3 (by omega) (by omega)).1 hn
   subst i0
   subst hn
   have hg : firstG [] y = [y] := if_pos (Or.inl rfl)
   rw [hg]
   refine ⟨List.pairwise_singleton _ _, fun p => rfl, fun _ _ => ⟨by simp, ?_⟩⟩
   show y.f0 = _
   subst hy
   rfl
  ·have i0 : 0 < i := by
    apply Classical.byContradiction
    intro hz
    obtain rfl : i = 0 := by omega
    exact hn (by rw [← hF]; rfl)
   obtain ⟨_, hl⟩ := h3 i0 (by omega)
   have hord : ltB y.f0 (F.getLastD z43).f0 = false := by
    rw [hl, ← hy]
    exact List.pairwise_iff_getElem.1 h (i - 1) i (by omega) hlt (by omega)
   by_cases hq : (F.getLastD z43).f0 = y.f0
   ·have hg : firstG F y = F := if_neg (fun h => h.elim hn (fun h => h hq))
    rw [hg]
    refine ⟨h1, fun p => ?_, fun _ _ => ⟨hn, ?_⟩⟩
    ·rw [find_app, ← h2 p]
     by_cases hp : y.f0 = p
     ·obtain ⟨x, hx⟩ := find_some ⟨_, last_mem hn, hq.trans hp⟩
      rw [hx]
      rfl
     ·rw [find_other hp, find_nil]
      cases findE p F <;> rfl
    ·rw [hq, ← hy]
     rfl
   ·have hg : firstG F y = F ++ [y] := if_pos (Or.inr hq)
    rw [hg]
    refine ⟨?_, fun p => by rw [find_app, find_app, h2 p], fun _ _ => ⟨by simp, ?_⟩⟩
    ·refine List.pairwise_append.2 ⟨h1, List.pairwise_singleton _ _, fun x hx z hz => ?_⟩
     rw [List.mem_singleton.1 hz]
     have hly := ltB_of hord hq
     rcases ss_last h1 hn x hx with e | e
     ·rw [e]
      exact hly
     ·exact ltB_trans e hly
    ·have e : (F ++ [y]).getLastD z43 = y := by simp [List.getLastD_eq_getLast?]
     rw [e, ← hy]
     rfl
def fstL (l : List S43) : List S43 := firstL (sortS l)
theorem fst_ss (l : List S43) : SS (fstL l) := by
 have := (first_take (sortS l) (sortS_ok l).2 _ (Nat.le_refl _)).1
 rwa [List.take_length] at this
theorem fst_find (p : ByteArray) (l : List S43) : findE p (fstL l) = findE p l := by
 have := (first_take (sortS l) (sortS_ok l).2 _ (Nat.le_refl _)).2.1 p
 rw [List.take_length] at this
 exact this.trans (find_sort p l)
theorem bothP_nil : bothL [] [] = [] := by rw [bothL]
theorem bothP_a (x : S43) (a : List S43) : bothL (x :: a) [] = (some x, none) :: bothL a [] := by rw [bothL]
theorem bothP_b (y : S43) (b : List S43) : bothL [] (y :: b) = (none, some y) :: bothL [] b := by rw [bothL]
theorem bothP_two (x y : S43) (a b : List S43) : bothL (x :: a) (y :: b) = if ltS x y = true then (some x, none) :: bothL a (y :: b) else if x.f0 ≠ y.f0 then (none, some y) :: bothL (x :: a) b else (some x, some y) :: bothL a b := by rw [bothL]
def keysL (a b : List S43) : List ByteArray := (bothL a b).map pathE
def hasK (p : ByteArray) (a b : List S43) : Prop := (∃ x ∈ a, x.f0 = p) ∨ ∃ y ∈ b, y.f0 = p
def BothOk (E : List (Option S43 × Option S43)) (a b : List S43) : Prop :=
 (E.map pathE).Pairwise (fun p q => ltB p q = true) ∧ (∀ e ∈ E, e = (findE (pathE e) a, findE (pathE e) b)) ∧ ∀ p, p ∈ E.map pathE ↔ hasK p a b
theorem both_step {e : Option S43 × Option S43} {E : List (Option S43 × Option S43)} {a b a' b' : List S43} (h : BothOk E a' b') (he : e = (findE (pathE e) a, findE (pathE e) b)) (ha : ∀ q, q ≠ pathE e → findE q a = findE q a') (hb : ∀ q, q ≠ pathE e → findE q b = findE q b')
  (hlt : ∀ q, hasK q a' b' → ltB (pathE e) q = true) (hm : ∀ q, hasK q a b ↔ q = pathE e ∨ hasK q a' b') : BothOk (e :: E) a b := by
 obtain ⟨h1, h2, h3⟩ := h
 have hl : ∀ q ∈ E.map pathE, ltB (pathE e) q = true := fun q hq => hlt q ((h3 q).1 hq)
 refine ⟨List.pairwise_cons.2 ⟨hl, h1⟩, fun x hx => ?_, fun p => ?_⟩
 ·rcases List.mem_cons.1 hx with rfl | hx
  ·exact he
  ·have hne : pathE x ≠ pathE e := fun h => ltB_ne (hl (pathE x) (List.mem_map_of_mem hx)) h.symm
   rw [ha _ hne, hb _ hne]
   exact h2 x hx
 ·rw [List.map_cons, List.mem_cons, h3, hm]
theorem ss_cons {x : S43} {a : List S43} (h : SS (x :: a)) : (∀ z ∈ a, ltB x.f0 z.f0 = true) ∧ SS a := List.pairwise_cons.1 h
theorem both_ok : ∀ (n : Nat) (a b : List S43), a.length + b.length ≤ n → SS a → SS b → BothOk (bothL a b) a b := by
 intro n
 induction n with
 | zero =>
  intro a b hn _ _
  obtain rfl : a = [] := List.eq_nil_of_length_eq_zero (by omega)
  obtain rfl : b = [] := List.eq_nil_of_length_eq_zero (by omega)
  rw [bothP_nil]
  exact ⟨List.Pairwise.nil, fun _ h => (by cases h), fun p => by simp [hasK]⟩
 | succ n ih =>
  intro a b hn ha hb
  cases a with
  | nil =>
   cases b with
   | nil =>
    rw [bothP_nil]
    exact ⟨List.Pairwise.nil, fun _ h => (by cases h), fun p => by simp [hasK]⟩
   | cons y b =>
    obtain ⟨hy, hb⟩ := ss_cons hb
    rw [bothP_b]
    refine both_step (ih [] b (by simp at hn ⊢; omega) ha hb) ?_ (fun _ _ => rfl) (fun q hq => find_other (fun h => hq h.symm) b) ?_ ?_
    ·show (none, some y) = (findE y.f0 [], findE y.f0 (y :: b))
     rw [find_same]
     rfl
    ·rintro q (⟨x, hx, _⟩ | ⟨z, hz, rfl⟩)
     ·cases hx
     ·exact hy z hz
    ·intro q
     simp [hasK, pathE, eq_comm]
  | cons x a =>
   obtain ⟨hx, hsa⟩ := ss_cons ha
   cases b with
   | nil =>
    rw [bothP_a]
    refine both_step (ih a [] (by simp at hn ⊢; omega) hsa hb) ?_ (fun q hq => find_other (fun h => hq h.symm) a) (fun _ _ => rfl) ?_ ?_
    ·show (some x, none) = (findE x.f0 (x :: a), findE x.f0 [])
     rw [find_same]
     rfl
    ·rintro q (⟨z, hz, rfl⟩ | ⟨z, hz, _⟩)
     ·exact hx z hz
     ·cases hz
    ·intro q
     simp [hasK, pathE, eq_comm]
   | cons y b =>
    obtain ⟨hy, hsb⟩ := ss_cons hb
    rw [bothP_two]
    by_cases h1 : ltS x y = true
    ·rw [if_pos h1]
     have hxy : ltB x.f0 y.f0 = true := h1
     have hall : ∀ z ∈ y :: b, ltB x.f0 z.f0 = true := fun z hz => by
      rcases List.mem_cons.1 hz with rfl | hz
      ·exact hxy
      ·exact ltB_trans hxy (hy z hz)
     refine both_step (ih a (y :: b) (by simp at hn ⊢; omega) hsa hb) ?_ (fun q hq => find_other (fun h => hq h.symm) a) (fun _ _ => rfl) ?_ ?_
     ·show (some x, none) = (findE x.f0 (x :: a), findE x.f0 (y :: b))
      rw [find_same, find_none (fun z hz e => ltB_ne (hall z hz) e.symm)]
     ·rintro q (⟨z, hz, rfl⟩ | ⟨z, hz, rfl⟩)
      ·exact hx z hz
      ·exact hall z hz
     ·intro q
      simp [hasK, pathE, eq_comm, or_assoc]
    ·rw [if_neg h1]
     have h1' : ltB x.f0 y.f0 = false := by
      cases hh : ltB x.f0 y.f0 with
      | false => rfl
      | true => exact absurd hh h1
     by_cases h2 : x.f0 ≠ y.f0
     ·rw [if_pos h2]
      have hyx : ltB y.f0 x.f0 = true := ltB_of h1' (fun e => h2 e.symm)
      have hall : ∀ z ∈ x :: a, ltB y.f0 z.f0 = true := fun z hz => by
       rcases List.mem_cons.1 hz with rfl | hz
       ·exact hyx
       ·exact ltB_trans hyx (hx z hz)
      refine both_step (ih (x :: a) b (by simp at hn ⊢; omega) ha hsb) ?_ (fun _ _ => rfl) (fun q hq => find_other (fun h => hq h.symm) b) ?_ ?_
      ·show (none, some y) = (findE y.f0 (x :: a), findE y.f0 (y :: b))
       rw [find_same, find_none (fun z hz e => ltB_ne (hall z hz) e.symm)]
      ·rintro q (⟨z, hz, rfl⟩ | ⟨z, hz, rfl⟩)
       ·exact hall z hz
       ·exact hy z hz
      ·intro q
       unfold hasK pathE
       constructor
       ·rintro (h | ⟨z, hz, rfl⟩)
        ·exact Or.inr (Or.inl h)
        ·rcases List.mem_cons.1 hz with rfl | hz
         ·exact Or.inl rfl
         ·exact Or.inr (Or.inr ⟨z, hz, rfl⟩)
       ·rintro (rfl | h | ⟨z, hz, rfl⟩)
        ·exact Or.inr ⟨y, by simp, rfl⟩
        ·exact Or.inl h
        ·exact Or.inr ⟨z, by simp [hz], rfl⟩
     ·rw [if_neg h2]
      have h3 : x.f0 = y.f0 := Classical.byContradiction h2
      refine both_step (ih a b (by simp at hn ⊢; omega) hsa hsb) ?_ (fun q hq => find_other (fun h => hq h.symm) a) (fun q hq => find_other (fun h => hq (by show q = x.f0; rw [h3, h])) b) ?_ ?_
      ·show (some x, some y) = (findE x.f0 (x :: a), findE x.f0 (y :: b))
       rw [find_same, find_same' h3.symm]
      ·rintro q (⟨z, hz, rfl⟩ | ⟨z, hz, rfl⟩)
       ·exact hx z hz
       ·show ltB x.f0 z.f0 = true
        rw [h3]
        exact hy z hz
      ·intro q
       unfold hasK pathE
       constructor
       ·rintro (⟨z, hz, rfl⟩ | ⟨z, hz, rfl⟩)
        ·rcases List.mem_cons.1 hz with rfl | hz
         ·exact Or.inl rfl
         ·exact Or.inr (Or.inl ⟨z, hz, rfl⟩)
        ·rcases List.mem_cons.1 hz with rfl | hz
         ·exact Or.inl h3.symm
         ·exact Or.inr (Or.inr ⟨z, hz, rfl⟩)
       ·rintro (rfl | ⟨z, hz, rfl⟩ | ⟨z, hz, rfl⟩)
        ·exact Or.inl ⟨x, by simp, rfl⟩
        ·exact Or.inl ⟨z, by simp [hz], rfl⟩
        ·exact Or.inr ⟨z, by simp [hz], rfl⟩
theorem keys_sort {a b : List S43} (ha : SS a) (hb : SS b) : (keysL a b).Pairwise (fun p q => ltB p q = true) := (both_ok _ a b (Nat.le_refl _) ha hb).1
theorem keys_mem {a b : List S43} (ha : SS a) (hb : SS b) (p : ByteArray) : p ∈ keysL a b ↔ hasK p a b := (both_ok _ a b (Nat.le_refl _) ha hb).2.2 p
theorem both_flat {β : Type} {a b : List S43} (ha : SS a) (hb : SS b) (f : Option S43 × Option S43 → List β) : (bothL a b).flatMap f = (keysL a b).flatMap (fun p => f (findE p a, findE p b)) := by
 have h := (both_ok _ a b (Nat.le_refl _) ha hb).2.1
 unfold keysL
 rw [List.flatMap_map]
 have : ∀ E : List (Option S43 × Option S43), (∀ e ∈ E, e = (findE (pathE e) a, findE (pathE e) b)) → E.flatMap f = E.flatMap (fun e => f (findE (pathE e) a, findE (pathE e) b)) := by
  intro E
  induction E with
  | nil => intro _; rfl
  | cons e E ih =>
   intro hE
   rw [List.flatMap_cons, List.flatMap_cons, ih (fun x hx => hE x (List.mem_cons_of_mem _ hx)), ← hE e (by simp)]
 exact this _ h
theorem keys_unique : ∀ (k l : List ByteArray), k.Pairwise (fun p q => ltB p q = true) → l.Pairwise (fun p q => ltB p q = true) → (∀ p, p ∈ k ↔ p ∈ l) → k = l
 | [], [], _, _, _ => rfl
 | [], q :: l, _, _, h => by have := (h q).2 (by simp); cases this
 | p :: k, [], _, _, h => by have := (h p).1 (by simp); cases this
 | p :: k, q :: l, hk, hl, h => by
  obtain ⟨hp, hk2⟩ := List.pairwise_cons.1 hk
  obtain ⟨hq, hl2⟩ := List.pairwise_cons.1 hl
  have e : p = q := by
   rcases List.mem_cons.1 ((h p).1 (by simp)) with e | h1
   ·exact e
   ·rcases List.mem_cons.1 ((h q).2 (by simp)) with e | h2
    ·exact e.symm
    ·have := ltB_trans (hp q h2) (hq p h1)
     rw [ltB_irr] at this
     cases this
  subst e
  rw [keys_unique k l hk2 hl2 (fun r => ?_)]
  constructor
  ·intro hr
   rcases List.mem_cons.1 ((h r).1 (List.mem_cons_of_mem _ hr)) with e | h1
   ·subst e
    have := hp r hr
    rw [ltB_irr] at this
    cases this
   ·exact h1
  ·intro hr
   rcases List.mem_cons.1 ((h r).2 (List.mem_cons_of_mem _ hr)) with e | h1
   ·subst e
    have := hq r hr
    rw [ltB_irr] at this
    cases this
   ·exact h1
theorem flat_find {k : List ByteArray} (hk : k.Pairwise (fun p q => ltB p q = true)) {g : ByteArray → Option S43} (hg : ∀ p x, g p = some x → x.f0 = p) (q : ByteArray) (hq : q ∉ k → g q = none) : findE q (k.flatMap (fun p => (g p).toList)) = g q := by
 have h0 : ∀ k : List ByteArray, q ∉ k → findE q (k.flatMap (fun p => (g p).toList)) = none := fun k hk => find_none (fun x hx => by
  obtain ⟨p, hp, hx⟩ := List.mem_flatMap.1 hx
  cases hgp : g p with
  | none => rw [hgp] at hx; cases hx
  | some z =>
   rw [hgp] at hx
   rw [List.mem_singleton.1 hx, hg p z hgp]
   exact fun e => hk (e ▸ hp))
 induction k with
 | nil => exact (hq (by simp)).symm
 | cons p k ih =>
  obtain ⟨hp, hk⟩ := List.pairwise_cons.1 hk
  rw [List.flatMap_cons, find_app]
  by_cases e : q = p
  ·subst e
   rw [h0 k (fun h => ltB_ne (hp q h) rfl)]
   cases hgq : g q with
   | none => rfl
   | some x =>
    rw [show (some x).toList = [x] from rfl, find_same' (hg q x hgq)]
    rfl
  ·rw [ih hk (fun h => hq (fun h2 => (List.mem_cons.1 h2).elim e h))]
   have h1 := h0 [p] (fun h => e (List.mem_singleton.1 h))
   rw [List.flatMap_singleton] at h1
   rw [h1]
   rfl
theorem flat_ss {k : List ByteArray} (hk : k.Pairwise (fun p q => ltB p q = true)) {g : ByteArray → Option S43} (hg : ∀ p x, g p = some x → x.f0 = p) : SS (k.flatMap (fun p => (g p).toList)) := by
 induction k with
 | nil => exact List.Pairwise.nil
 | cons p k ih =>
  obtain ⟨hp, hk⟩ := List.pairwise_cons.1 hk
  rw [List.flatMap_cons]
  refine List.pairwise_append.2 ⟨?_, ih hk, fun x hx y hy => ?_⟩
  ·cases g p with
   | none => exact List.Pairwise.nil
   | some x => exact List.pairwise_singleton _ _
  ·obtain ⟨q, hq, hy⟩ := List.mem_flatMap.1 hy
   cases hgp : g p with
   | none => rw [hgp] at hx; cases hx
   | some z =>
    cases hgq : g q with
    | none => rw [hgq] at hy; cases hy
    | some u =>
     rw [hgp] at hx
     rw [hgq] at hy
     rw [List.mem_singleton.1 hx, List.mem_singleton.1 hy, hg p z hgp, hg q u hgq]
     exact hp q hq
theorem ss_ext : ∀ (l m : List S43), SS l → SS m → (∀ p, findE p l = findE p m) → l = m
 | [], [], _, _, _ => rfl
 | [], y :: m, _, _, h => by have := h y.f0; rw [find_same, find_nil] at this; cases this
 | x :: l, [], _, _, h => by have := h x.f0; rw [find_same, find_nil] at this; cases this
 | x :: l, y :: m, hl, hm, h => by
  obtain ⟨hx, hl2⟩ := ss_cons hl
  obtain ⟨hy, hm2⟩ := ss_cons hm
  have e0 : x.f0 = y.f0 := by
   have h1 := h x.f0
   rw [find_same] at h1
   have h2 := h y.f0
   rw [find_same] at h2
   have m1 := find_mem h1.symm
   have m2 := find_mem h2
   rcases List.mem_cons.1 m1 with e | m1
   ·rw [e]
   ·rcases List.mem_cons.1 m2 with e | m2
    ·rw [e]
    ·have := ltB_trans (hx y m2) (hy x m1)
     rw [ltB_irr] at this
     cases this
  have e : x = y := by
   have h1 := h x.f0
   rw [find_same, find_same' e0.symm] at h1
   exact Option.some.inj h1
  subst e
  rw [ss_ext l m hl2 hm2 (fun p => ?_)]
  by_cases hp : x.f0 = p
  ·rw [find_none (fun z hz e => ltB_ne (hx z hz) (hp.trans e.symm)), find_none (fun z hz e => ltB_ne (hy z hz) (hp.trans e.symm))]
  ·have := h p
   rwa [find_other hp, find_other hp] at this
theorem both_first : ∀ (n : Nat) (a b : List S43), a.length + b.length ≤ n → (bothL a b).flatMap (fun e => e.1.toList) = a := by
 intro n
 induction n with
 | zero =>
  intro a b hn
  obtain rfl : a = [] := List.eq_nil_of_length_eq_zero (by omega)
  obtain rfl : b = [] := List.eq_nil_of_length_eq_zero (by omega)
  rw [bothP_nil]
  rfl
 | succ n ih =>
  intro a b hn
  cases a with
  | nil =>
   cases b with
   | nil => rw [bothP_nil]; rfl
   | cons y b => rw [bothP_b, List.flatMap_cons, ih [] b (by simp at hn ⊢; omega)]; rfl
  | cons x a =>
   cases b with
   | nil => rw [bothP_a, List.flatMap_cons, ih a [] (by simp at hn ⊢; omega)]; rfl
   | cons y b =>
    rw [bothP_two]
    split
    ·rw [List.flatMap_cons, ih a (y :: b) (by simp at hn ⊢; omega)]; rfl
    ·split
     ·rw [List.flatMap_cons, ih (x :: a) b (by simp at hn ⊢; omega)]; rfl
     ·rw [List.flatMap_cons, ih a b (by simp at hn ⊢; omega)]; rfl
end Go.Proofs.Ytodbmagneaiocaa.PA
namespace Go.Proofs.Ytodbmagneaiocaa.PA
open Go.RowKit Go.Proofs.YtodbmagneaiocaaW.PrintWords Go.Proofs.YtodbmagneaiocaaW.PrintLast Go.Proofs.YtodbmagneaiocaaW.PrintMore
attribute [local go_sem] max2_int min2_int max_two min_two max_three min_three max_four min_four
set_option linter.unusedVariables false
set_option linter.unusedSimpArgs false
theorem awake_keep {α : Type} {d : Kd α} {e base : Nat} {W w1 : World} {v : Value} {l : List α} (h : d.R e W base (fun _ => True) v l) (hg : W.grownBy w1 none) : d.R e w1 base (fun _ => True) v l := Kd.R_grown h hg (fun _ _ => by simp)
theorem awake_ok1 : okL43 [(⟨(⟨#[97]⟩ : ByteArray), 1, 1, (⟨0, 0, 0, 0, 0⟩ : S41), (⟨#[]⟩ : ByteArray), (⟨#[]⟩ : ByteArray), 0⟩ : S43), (⟨(⟨#[98]⟩ : ByteArray), 2, 0, (⟨0, 0, 0, 0, 0⟩ : S41), (⟨#[]⟩ : ByteArray), (⟨#[]⟩ : ByteArray), 0⟩ : S43)] := ⟨by decide, fun y hy => by
 rcases List.mem_cons.1 hy with rfl | hy
 ·decide
 ·rw [List.mem_singleton.1 hy]
  decide⟩
theorem awake_ok2 : okL43 [(⟨(⟨#[97]⟩ : ByteArray), 1, 2, (⟨0, 0, 0, 0, 0⟩ : S41), (⟨#[]⟩ : ByteArray), (⟨#[]⟩ : ByteArray), 0⟩ : S43), (⟨(⟨#[99]⟩ : ByteArray), 2, 0, (⟨0, 0, 0, 0, 0⟩ : S41), (⟨#[]⟩ : ByteArray), (⟨#[]⟩ : ByteArray), 0⟩ : S43)] := ⟨by decide, fun y hy => by
 rcases List.mem_cons.1 hy with rfl | hy
 ·decide
 ·rw [List.mem_singleton.1 hy]
  decide⟩
theorem awake_since : sinceL [(⟨(⟨#[97]⟩ : ByteArray), 1, 1, (⟨0, 0, 0, 0, 0⟩ : S41), (⟨#[]⟩ : ByteArray), (⟨#[]⟩ : ByteArray), 0⟩ : S43), (⟨(⟨#[98]⟩ : ByteArray), 2, 0, (⟨0, 0, 0, 0, 0⟩ : S41), (⟨#[]⟩ : ByteArray), (⟨#[]⟩ : ByteArray), 0⟩ : S43)] [(⟨(⟨#[97]⟩ : ByteArray), 1, 2, (⟨0, 0, 0, 0, 0⟩ : S41), (⟨#[]⟩ : ByteArray), (⟨#[]⟩ : ByteArray), 0⟩ : S43), (⟨(⟨#[99]⟩ : ByteArray), 2, 0, (⟨0, 0, 0, 0, 0⟩ : S41), (⟨#[]⟩ : ByteArray), (⟨#[]⟩ : ByteArray), 0⟩ : S43)] = [(⟨(⟨#[97]⟩ : ByteArray), 3⟩ : S28), ⟨(⟨#[98]⟩ : ByteArray), 2⟩, ⟨(⟨#[99]⟩ : ByteArray), 1⟩] := by
 have e1 : firstL (sortS [(⟨(⟨#[97]⟩ : ByteArray), 1, 1, (⟨0, 0, 0, 0, 0⟩ : S41), (⟨#[]⟩ : ByteArray), (⟨#[]⟩ : ByteArray), 0⟩ : S43), (⟨(⟨#[98]⟩ : ByteArray), 2, 0, (⟨0, 0, 0, 0, 0⟩ : S41), (⟨#[]⟩ : ByteArray), (⟨#[]⟩ : ByteArray), 0⟩ : S43)]) = [(⟨(⟨#[97]⟩ : ByteArray), 1, 1, (⟨0, 0, 0, 0, 0⟩ : S41), (⟨#[]⟩ : ByteArray), (⟨#[]⟩ : ByteArray), 0⟩ : S43), (⟨(⟨#[98]⟩ : ByteArray), 2, 0, (⟨0, 0, 0, 0, 0⟩ : S41), (⟨#[]⟩ : ByteArray), (⟨#[]⟩ : ByteArray), 0⟩ : S43)] := by kernel_rfl
 have e2 : firstL (sortS [(⟨(⟨#[97]⟩ : ByteArray), 1, 2, (⟨0, 0, 0, 0, 0⟩ : S41), (⟨#[]⟩ : ByteArray), (⟨#[]⟩ : ByteArray), 0⟩ : S43), (⟨(⟨#[99]⟩ : ByteArray), 2, 0, (⟨0, 0, 0, 0, 0⟩ : S41), (⟨#[]⟩ : ByteArray), (⟨#[]⟩ : ByteArray), 0⟩ : S43)]) = [(⟨(⟨#[97]⟩ : ByteArray), 1, 2, (⟨0, 0, 0, 0, 0⟩ : S41), (⟨#[]⟩ : ByteArray), (⟨#[]⟩ : ByteArray), 0⟩ : S43), (⟨(⟨#[99]⟩ : ByteArray), 2, 0, (⟨0, 0, 0, 0, 0⟩ : S41), (⟨#[]⟩ : ByteArray), (⟨#[]⟩ : ByteArray), 0⟩ : S43)] := by kernel_rfl
 have h1 : ltS (⟨(⟨#[97]⟩ : ByteArray), 1, 1, (⟨0, 0, 0, 0, 0⟩ : S41), (⟨#[]⟩ : ByteArray), (⟨#[]⟩ : ByteArray), 0⟩ : S43) (⟨(⟨#[97]⟩ : ByteArray), 1, 2, (⟨0, 0, 0, 0, 0⟩ : S41), (⟨#[]⟩ : ByteArray), (⟨#[]⟩ : ByteArray), 0⟩ : S43) = false := by kernel_rfl
 have h2 : ltS (⟨(⟨#[98]⟩ : ByteArray), 2, 0, (⟨0, 0, 0, 0, 0⟩ : S41), (⟨#[]⟩ : ByteArray), (⟨#[]⟩ : ByteArray), 0⟩ : S43) (⟨(⟨#[99]⟩ : ByteArray), 2, 0, (⟨0, 0, 0, 0, 0⟩ : S41), (⟨#[]⟩ : ByteArray), (⟨#[]⟩ : ByteArray), 0⟩ : S43) = true := by kernel_rfl
 unfold sinceL
 rw [e1, e2, bothP_two, if_neg (by rw [h1]; decide), if_neg (fun h => h rfl), bothP_two, if_pos h2, bothP_b, bothP_nil]
 rfl
theorem awake_cells {W : World} {g cc base : Nat} (h : Kd.R k28 28 W base (fun _ => True) (.slice (some ⟨g, 0, none⟩) 3 cc) [(⟨(⟨#[97]⟩ : ByteArray), 3⟩ : S28), ⟨(⟨#[98]⟩ : ByteArray), 2⟩, ⟨(⟨#[99]⟩ : ByteArray), 1⟩]) :
  W.cell? ⟨g, 0, none⟩ = some (.string (⟨#[97]⟩ : ByteArray)) ∧ W.cell? ⟨g, 1, none⟩ = some (.int .i64 3) ∧ W.cell? ⟨g, 2, none⟩ = some (.string (⟨#[98]⟩ : ByteArray)) ∧ W.cell? ⟨g, 3, none⟩ = some (.int .i64 2) ∧ W.cell? ⟨g, 4, none⟩ = some (.string (⟨#[99]⟩ : ByteArray)) ∧ W.cell? ⟨g, 5, none⟩ = some (.int .i64 1) := by
 have hC := (Kd.R_reads' h).2.2
 obtain ⟨ad, ea, x0, x1⟩ := at_T28 hC 0 (by decide) (by decide)
 cases ea
 obtain ⟨ad, ea, y0, y1⟩ := at_T28 hC 1 (by decide) (by decide)
 cases ea
 obtain ⟨ad, ea, z0, z1⟩ := at_T28 hC 2 (by decide) (by decide)
 cases ea
 exact ⟨x0, x1, y0, y1, z0, z1⟩
def remoralaw43_awake.f : Option Bool := some true
set_option maxHeartbeats 4000000 in
set_option maxRecDepth 100000 in
theorem awake_call (w : World) : Calls Try.prog 10 #[] w fun e w' => e = .returned (.bool true) ∧ Below w.heap.size w w' := by
 have hu := Try.underlying43
 have hu2 := Try.underlying28
 have HB := Aside0.mk (Below.refl w.heap.size w)
 go_enter Try.func10, Try.ntmps10
 go_wp2_with (first | ((with_reducible refine gate_dst (N := 6) rfl ?_); (try (refine gate_guard (by rfl) ?_; dsimp only)); refine Kd.R_lit k43 (w0 := w) w.heap.size 43 ?hg (N := 6) ?hd (xs := [(⟨(⟨#[97]⟩ : ByteArray), 1, 1, (⟨0, 0, 0, 0, 0⟩ : S41), (⟨#[]⟩ : ByteArray), (⟨#[]⟩ : ByteArray), 0⟩ : S43), (⟨(⟨#[98]⟩ : ByteArray), 2, 0, (⟨0, 0, 0, 0, 0⟩ : S41), (⟨#[]⟩ : ByteArray), (⟨#[]⟩ : ByteArray), 0⟩ : S43)]) (inner := [.string (⟨#[97]⟩ : ByteArray), .int .i64 1, .int .i64 1, .int .i64 0, .int .i64 0, .int .i64 0, .int .i64 0, .int .i64 0, .string (⟨#[]⟩ : ByteArray), .string (⟨#[]⟩ : ByteArray), .int .i64 0, .string (⟨#[98]⟩ : ByteArray), .int .i64 2, .int .i64 0, .int .i64 0, .int .i64 0, .int .i64 0, .int .i64 0, .int .i64 0, .string (⟨#[]⟩ : ByteArray), .string (⟨#[]⟩ : ByteArray), .int .i64 0]) (ok := fun _ => True) (okp := fun _ => True) ?hr ?hp (fun _ hk => hk) trivial HB.out (below_size HB.out) (by simp) ?_; (case hd => rfl); (case hg => rfl); (case hr => first | (go_simp; done) | (go_simp; rfl)); (case hp => exact (Reps.front (show Kd.M k43 _ _ _ (⟨(⟨#[97]⟩ : ByteArray), 1, 1, (⟨0, 0, 0, 0, 0⟩ : S41), (⟨#[]⟩ : ByteArray), (⟨#[]⟩ : ByteArray), 0⟩ : S43) [.string (⟨#[97]⟩ : ByteArray), .int .i64 1, .int .i64 1, .int .i64 0, .int .i64 0, .int .i64 0, .int .i64 0, .int .i64 0, .string (⟨#[]⟩ : ByteArray), .string (⟨#[]⟩ : ByteArray), .int .i64 0] from (k43_mkM _ _ _ (⟨(⟨#[97]⟩ : ByteArray), 1, 1, (⟨0, 0, 0, 0, 0⟩ : S41), (⟨#[]⟩ : ByteArray), (⟨#[]⟩ : ByteArray), 0⟩ : S43))) rfl (Reps.front (show Kd.M k43 _ _ _ (⟨(⟨#[98]⟩ : ByteArray), 2, 0, (⟨0, 0, 0, 0, 0⟩ : S41), (⟨#[]⟩ : ByteArray), (⟨#[]⟩ : ByteArray), 0⟩ : S43) [.string (⟨#[98]⟩ : ByteArray), .int .i64 2, .int .i64 0, .int .i64 0, .int .i64 0, .int .i64 0, .int .i64 0, .int .i64 0, .string (⟨#[]⟩ : ByteArray), .string (⟨#[]⟩ : ByteArray), .int .i64 0] from (k43_mkM _ _ _ (⟨(⟨#[98]⟩ : ByteArray), 2, 0, (⟨0, 0, 0, 0, 0⟩ : S41), (⟨#[]⟩ : ByteArray), (⟨#[]⟩ : ByteArray), 0⟩ : S43))) rfl (Reps.none _ _) rfl) rfl)); intro v1 w1 ho hb hg hnew; obtain ⟨A1, c1, e1⟩ := Kd.R_slice ho; subst e1; have HO1 := Aside0.mk ho;  clear HB hg hnew ho; have HB := Aside0.mk hb; clear hb) | ((with_reducible refine gate_dst (N := 9) rfl ?_); (try (refine gate_guard (by rfl) ?_; dsimp only)); refine Kd.R_lit k43 (w0 := w) w.heap.size 43 ?hg (N := 9) ?hd (xs := [(⟨(⟨#[97]⟩ : ByteArray), 1, 2, (⟨0, 0, 0, 0, 0⟩ : S41), (⟨#[]⟩ : ByteArray), (⟨#[]⟩ : ByteArray), 0⟩ : S43), (⟨(⟨#[99]⟩ : ByteArray), 2, 0, (⟨0, 0, 0, 0, 0⟩ : S41), (⟨#[]⟩ : ByteArray), (⟨#[]⟩ : ByteArray), 0⟩ : S43)]) (inner := [.string (⟨#[97]⟩ : ByteArray), .int .i64 1, .int .i64 2, .int .i64 0, .int .i64 0, .int .i64 0, .int .i64 0, .int .i64 0, .string (⟨#[]⟩ : ByteArray), .string (⟨#[]⟩ : ByteArray), .int .i64 0, .string (⟨#[99]⟩ : ByteArray), .int .i64 2, .int .i64 0, .int .i64 0, .int .i64 0, .int .i64 0, .int .i64 0, .int .i64 0, .string (⟨#[]⟩ : ByteArray), .string (⟨#[]⟩ : ByteArray), .int .i64 0]) (ok := fun _ => True) (okp := fun _ => True) ?hr ?hp (fun _ hk => hk) trivial HB.out (below_size HB.out) (by simp) ?_; (case hd => rfl); (case hg => rfl); (case hr => first | (go_simp; done) | (go_simp; rfl)); (case hp => exact (Reps.front (show Kd.M k43 _ _ _ (⟨(⟨#[97]⟩ : ByteArray), 1, 2, (⟨0, 0, 0, 0, 0⟩ : S41), (⟨#[]⟩ : ByteArray), (⟨#[]⟩ : ByteArray), 0⟩ : S43) [.string (⟨#[97]⟩ : ByteArray), .int .i64 1, .int .i64 2, .int .i64 0, .int .i64 0, .int .i64 0, .int .i64 0, .int .i64 0, .string (⟨#[]⟩ : ByteArray), .string (⟨#[]⟩ : ByteArray), .int .i64 0] from (k43_mkM _ _ _ (⟨(⟨#[97]⟩ : ByteArray), 1, 2, (⟨0, 0, 0, 0, 0⟩ : S41), (⟨#[]⟩ : ByteArray), (⟨#[]⟩ : ByteArray), 0⟩ : S43))) rfl (Reps.front (show Kd.M k43 _ _ _ (⟨(⟨#[99]⟩ : ByteArray), 2, 0, (⟨0, 0, 0, 0, 0⟩ : S41), (⟨#[]⟩ : ByteArray), (⟨#[]⟩ : ByteArray), 0⟩ : S43) [.string (⟨#[99]⟩ : ByteArray), .int .i64 2, .int .i64 0, .int .i64 0, .int .i64 0, .int .i64 0, .int .i64 0, .int .i64 0, .string (⟨#[]⟩ : ByteArray), .string (⟨#[]⟩ : ByteArray), .int .i64 0] from (k43_mkM _ _ _ (⟨(⟨#[99]⟩ : ByteArray), 2, 0, (⟨0, 0, 0, 0, 0⟩ : S41), (⟨#[]⟩ : ByteArray), (⟨#[]⟩ : ByteArray), 0⟩ : S43))) rfl (Reps.none _ _) rfl) rfl)); intro v2 w2 ho hb hg hnew; obtain ⟨A2, c2, e2⟩ := Kd.R_slice ho; subst e2; have HO2 := Aside0.mk ho; have n1_ := Aside0.mk (awake_keep HO1.out hg); clear HO1; have HO1 := n1_; clear n1_; clear HB hg hnew ho; have HB := Aside0.mk hb; clear hb) | (go_at_call 11; (refine (since_call _ _ [(⟨(⟨#[97]⟩ : ByteArray), 1, 1, (⟨0, 0, 0, 0, 0⟩ : S41), (⟨#[]⟩ : ByteArray), (⟨#[]⟩ : ByteArray), 0⟩ : S43), (⟨(⟨#[98]⟩ : ByteArray), 2, 0, (⟨0, 0, 0, 0, 0⟩ : S41), (⟨#[]⟩ : ByteArray), (⟨#[]⟩ : ByteArray), 0⟩ : S43)] _ _ [(⟨(⟨#[97]⟩ : ByteArray), 1, 2, (⟨0, 0, 0, 0, 0⟩ : S41), (⟨#[]⟩ : ByteArray), (⟨#[]⟩ : ByteArray), 0⟩ : S43), (⟨(⟨#[99]⟩ : ByteArray), 2, 0, (⟨0, 0, 0, 0, 0⟩ : S41), (⟨#[]⟩ : ByteArray), (⟨#[]⟩ : ByteArray), 0⟩ : S43)] _ (Kd.R_reads' HO1.out).2.2 (Kd.R_reads' HO1.out).2.1 (Kd.R_reads' HO2.out).2.2 (Kd.R_reads' HO2.out).2.1 awake_ok1 awake_ok2).mono ?_); rintro e w3 ⟨v3, rfl, ho, hb⟩; rw [awake_since] at ho; obtain ⟨A3, c3, e3⟩ := Kd.R_slice ho; subst e3; have HO3 := Aside0.mk ho; have n0_ := Aside0.mk (below_step HB.out hb); clear HB hb ho; have HB := n0_; clear n0_; obtain ⟨g3, cc3, ee3, _, _, _, _⟩ := Kd.R_form HO3.out (by decide); injection ee3 with e1 e2 e3; subst e1; subst e3; clear e2; obtain ⟨q0, q1, q2, q3, q4, q5⟩ := awake_cells HO3.out))
 go_ret
 exact ⟨by first | rfl | (simp; done), HB.out⟩
theorem remoralaw43_awake.calls (r : Bool) (w : World) (h : remoralaw43_awake.f = some r) : Calls Try.prog 10 #[] w fun e w' => e = .returned (.bool r) ∧ Below w.heap.size w w' := by
 obtain rfl := Option.some.inj h
 exact awake_call w
end Go.Proofs.Ytodbmagneaiocaa.PA
namespace Go.Proofs.Ytodbmagneaiocaa.PA
open Go.RowKit Go.Proofs.YtodbmagneaiocaaW.PrintWords Go.Proofs.YtodbmagneaiocaaW.PrintLast Go.Proofs.YtodbmagneaiocaaW.PrintMore
attribute [local go_sem] max2_int min2_int max_two min_two max_three min_three max_four min_four   -- for this text's walks alone
set_option linter.unusedVariables false
set_option linter.unusedSimpArgs false
mutual
def remoralaw43_ArchTurns.j0 : Nat → List (S28) → List (S28) → Bool → Option (Bool)
 | 0, _, _, _ => none
 | k + 1, x5, x6, x31 => if x31 = true then (some false) else (remoralaw43_ArchTurns.l0 k x5 x6 0)
def remoralaw43_ArchTurns.l0 : Nat → List (S28) → List (S28) → Int → Option (Bool)
 | 0, _, _, _ => none
 | k + 1, x5, x6, x7 => if x7 < (x5.length : Int) then (if 0 ≤ x7 then (if ((rd_T28 x5 x7).f1) < 3 then (if x7 < (x6.length : Int) then (if ((rd_T28 x6 x7).f0).toList = ((rd_T28 x5 x7).f0).toList then (if ((rd_T28 x6 x7).f1) = (wrap64 (3 - ((rd_T28 x5 x7).f1))) then (remoralaw43_ArchTurns.l0 k x5 x6 (wrap64 (x7 + 1))) else (some false)) else (some false)) else (none)) else (if x7 < (x6.length : Int) then (if ((rd_T28 x6 x7).f0).toList = ((rd_T28 x5 x7).f0).toList then (if ((rd_T28 x6 x7).f1) = ((rd_T28 x5 x7).f1) then (remoralaw43_ArchTurns.l0 k x5 x6 (wrap64 (x7 + 1))) else (some false)) else (some false)) else (none))) else (none)) else ((remoralaw43_awake.f).bind fun t112 => (some t112))
end
def remoralaw43_ArchTurns.f (k : Nat) (l0 : List (S43)) (l1 : List (S43)) : Option (Bool) := (remoralaw43_few.f l0 l1).bind fun t101 => (if t101 = true then ((arch_Since.f l0 l1).bind fun t103 => ((arch_Since.f l1 l0).bind fun t106 => ((arch_Since.f l0 l0).bind fun t109 => (if (t109.length : Int) = 0 then (remoralaw43_ArchTurns.j0 k t103 t106 ((t103.length : Int) != (t106.length : Int))) else (remoralaw43_ArchTurns.j0 k t103 t106 true))))) else ((remoralaw43_awake.f).bind fun t102 => (some t102)))
set_option maxHeartbeats 8000000 in
set_option maxRecDepth 100000 in
theorem remoralaw43_ArchTurns.calls (k : Nat) (A0 : Option Addr) (c0 : Nat) (l0 : List (S43)) (A1 : Option Addr) (c1 : Nat) (l1 : List (S43)) (r : Bool) (w : World) (hr0 : Kd.C k43 w A0 l0.length l0) (hc0 : l0.length ≤ c0) (hr1 : Kd.C k43 w A1 l1.length l1) (hc1 : l1.length ≤ c1) (h : remoralaw43_ArchTurns.f k l0 l1 = some r) :
  Calls Try.prog 3 #[.slice A0 l0.length c0, .slice A1 l1.length c1] w fun e w' => e = .returned (.bool r) ∧ Below w.heap.size w w' := by
 have HR0 := Aside0.mk hr0
 have HC0 := Aside0.mk hc0
 clear hr0 hc0
 have HR1 := Aside0.mk hr1
 have HC1 := Aside0.mk hc1
 clear hr1 hc1
 have HB := Aside0.mk (Below.refl w.heap.size w)
 have H : ((remoralaw43_few.f l0 l1).bind fun t101 => (if t101 = true then ((arch_Since.f l0 l1).bind fun t103 => ((arch_Since.f l1 l0).bind fun t106 => ((arch_Since.f l0 l0).bind fun t109 => (if (t109.length : Int) = 0 then (remoralaw43_ArchTurns.j0 k t103 t106 ((t103.length : Int) != (t106.length : Int))) else (remoralaw43_ArchTurns.j0 k t103 t106 true))))) else ((remoralaw43_awake.f).bind fun t102 => (some t102)))) = some r := h
 clear h
 replace H := Option.bind_eq_some_iff.mp H
 obtain ⟨t101, A30, H⟩ := H
 replace H : (if t101 = true then ((arch_Since.f l0 l1).bind fun t103 => ((arch_Since.f l1 l0).bind fun t106 => ((arch_Since.f l0 l0).bind fun t109 => (if (t109.length : Int) = 0 then (remoralaw43_ArchTurns.j0 k t103 t106 ((t103.length : Int) != (t106.length : Int))) else (remoralaw43_ArchTurns.j0 k t103 t106 true))))) else ((remoralaw43_awake.f).bind fun t102 => (some t102))) = some r := H
 have A3 := Aside0.mk A30
 clear A30
 by_cases c4 : t101 = true
 ·subst c4
  have H1 : ((arch_Since.f l0 l1).bind fun t103 => ((arch_Since.f l1 l0).bind fun t106 => ((arch_Since.f l0 l0).bind fun t109 => (if (t109.length : Int) = 0 then (remoralaw43_ArchTurns.j0 k t103 t106 ((t103.length : Int) != (t106.length : Int))) else (remoralaw43_ArchTurns.j0 k t103 t106 true))))) = some r := by rw [if_pos rfl] at H; exact H
  clear H
  have H := H1
  clear H1
  replace H := Option.bind_eq_some_iff.mp H
  obtain ⟨t103, A50, H⟩ := H
  replace H : ((arch_Since.f l1 l0).bind fun t106 => ((arch_Since.f l0 l0).bind fun t109 => (if (t109.length : Int) = 0 then (remoralaw43_ArchTurns.j0 k t103 t106 ((t103.length : Int) != (t106.length : Int))) else (remoralaw43_ArchTurns.j0 k t103 t106 true)))) = some r := H
  have A5 := Aside0.mk A50
  clear A50
  replace H := Option.bind_eq_some_iff.mp H
  obtain ⟨t106, A60, H⟩ := H
  replace H : ((arch_Since.f l0 l0).bind fun t109 => (if (t109.length : Int) = 0 then (remoralaw43_ArchTurns.j0 k t103 t106 ((t103.length : Int) != (t106.length : Int))) else (remoralaw43_ArchTurns.j0 k t103 t106 true))) = some r := H
  have A6 := Aside0.mk A60
  clear A60
  have HC7 := Aside0.mk H
  clear H
  go_enter Try.func3, Try.ntmps3
  go_upto_region 4 with (first | (go_at_call 9; (with_reducible refine (remoralaw43_few.calls _ _ l0 _ _ l1 true _ ?side1 ?side2 ?side3 ?side4 A3.out).mono ?_); (case side1 => repeat (first | exact HR0.out | (with_reducible refine Kd.C_alloc ?_ _) | (with_reducible refine Kd.C_drewN ?_ _) | (with_reducible refine Kd.C_drew ?_))); (case side2 => exact HC0.out); (case side3 => repeat (first | exact HR1.out | (with_reducible refine Kd.C_alloc ?_ _) | (with_reducible refine Kd.C_drewN ?_ _) | (with_reducible refine Kd.C_drew ?_))); (case side4 => exact HC1.out); rintro e w' ⟨rfl, ⟨nd, rfl⟩⟩; (try first | exact ⟨rfl, _, World.drewN_drewN _ _ _⟩ | exact ⟨rfl, _, Eq.trans (World.drewN_drewN _ _ _) (congrArg (World.drewN _) (Nat.add_assoc _ _ _))⟩)) | (go_at_call 11; (with_reducible refine (arch_Since.calls _ _ l0 _ _ l1 t103 _ ?side1 ?side2 ?side3 ?side4 A5.out).mono ?_); (case side1 => repeat (first | exact HR0.out | (with_reducible refine Kd.C_alloc ?_ _) | (with_reducible refine Kd.C_drewN ?_ _) | (with_reducible refine Kd.C_drew ?_))); (case side2 => exact HC0.out); (case side3 => repeat (first | exact HR1.out | (with_reducible refine Kd.C_alloc ?_ _) | (with_reducible refine Kd.C_drewN ?_ _) | (with_reducible refine Kd.C_drew ?_))); (case side4 => exact HC1.out); rintro e w8 ⟨v104, rfl, ho0, hb⟩; have n0_ := Aside0.mk (Kd.R_lower ho0 (below_size (by repeat (first | (with_reducible first | exact HB.out | apply below_alloc | apply pw_below_drewN | apply below_drew1) | exact HB.out)))); have n1_ := Aside0.mk (below_step (by repeat (first | (with_reducible first | exact HB.out | apply below_alloc | apply pw_below_drewN | apply below_drew1) | exact HB.out)) hb); clear HB; have HO105 := n0_; have HB := n1_; clear n0_ n1_; (try clear hb); (try clear hb2); (try clear hk); (try clear hi); (try clear ho0)) | (go_at_call 11; (with_reducible refine (arch_Since.calls _ _ l1 _ _ l0 t106 _ ?side1 ?side2 ?side3 ?side4 A6.out).mono ?_); (case side1 => repeat (first | exact (Kd.C_below HR1.out HB.out) | (with_reducible refine Kd.C_alloc ?_ _) | (with_reducible refine Kd.C_drewN ?_ _) | (with_reducible refine Kd.C_drew ?_))); (case side2 => exact HC1.out); (case side3 => repeat (first | exact (Kd.C_below HR0.out HB.out) | (with_reducible refine Kd.C_alloc ?_ _) | (with_reducible refine Kd.C_drewN ?_ _) | (with_reducible refine Kd.C_drew ?_))); (case side4 => exact HC0.out); rintro e w9 ⟨v107, rfl, ho0, hb⟩; have n0_ := Aside0.mk (Kd.R_elder' (by (with_reducible repeat (first | apply Kd.R_alloc | apply Kd.R_drewN | apply Kd.R_drew)); exact HO105.out) (Kd.R_base ho0) hb); have n1_ := Aside0.mk (Kd.R_lower (Kd.R_new' ho0 (Kd.R_lt (by (with_reducible repeat (first | apply Kd.R_alloc | apply Kd.R_drewN | apply Kd.R_drew)); exact HO105.out))) (below_size (by repeat (first | (with_reducible first | exact HB.out | apply below_alloc | apply pw_below_drewN | apply below_drew1) | exact HB.out)))); have n2_ := Aside0.mk (below_step (by repeat (first | (with_reducible first | exact HB.out | apply below_alloc | apply pw_below_drewN | apply below_drew1) | exact HB.out)) hb); clear HO105; clear HB; have HO105 := n0_; have HO108 := n1_; have HB := n2_; clear n0_ n1_ n2_; (try clear hb); (try clear hb2); (try clear hk); (try clear hi); (try clear ho0)))
  repeat (go_quiet (first | (go_at_call 9; (with_reducible refine (remoralaw43_few.calls _ _ l0 _ _ l1 true _ ?side1 ?side2 ?side3 ?side4 A3.out).mono ?_); (case side1 => repeat (first | exact HR0.out | (with_reducible refine Kd.C_alloc ?_ _) | (with_reducible refine Kd.C_drewN ?_ _) | (with_reducible refine Kd.C_drew ?_))); (case side2 => exact HC0.out); (case side3 => repeat (first | exact HR1.out | (with_reducible refine Kd.C_alloc ?_ _) | (with_reducible refine Kd.C_drewN ?_ _) | (with_reducible refine Kd.C_drew ?_))); (case side4 => exact HC1.out); rintro e w' ⟨rfl, ⟨nd, rfl⟩⟩; (try first | exact ⟨rfl, _, World.drewN_drewN _ _ _⟩ | exact ⟨rfl, _, Eq.trans (World.drewN_drewN _ _ _) (congrArg (World.drewN _) (Nat.add_assoc _ _ _))⟩)) | (go_at_call 11; (with_reducible refine (arch_Since.calls _ _ l0 _ _ l1 t103 _ ?side1 ?side2 ?side3 ?side4 A5.out).mono ?_); (case side1 => repeat (first | exact HR0.out | (with_reducible refine Kd.C_alloc ?_ _) | (with_reducible refine Kd.C_drewN ?_ _) | (with_reducible refine Kd.C_drew ?_))); (case side2 => exact HC0.out); (case side3 => repeat (first | exact HR1.out | (with_reducible refine Kd.C_alloc ?_ _) | (with_reducible refine Kd.C_drewN ?_ _) | (with_reducible refine Kd.C_drew ?_))); (case side4 => exact HC1.out); rintro e w8 ⟨v104, rfl, ho0, hb⟩; have n0_ := Aside0.mk (Kd.R_lower ho0 (below_size (by repeat (first | (with_reducible first | exact HB.out | apply below_alloc | apply pw_below_drewN | apply below_drew1) | exact HB.out)))); have n1_ := Aside0.mk (below_step (by repeat (first | (with_reducible first | exact HB.out | apply below_alloc | apply pw_below_drewN | apply below_drew1) | exact HB.out)) hb); clear HB; have HO105 := n0_; have HB := n1_; clear n0_ n1_; (try clear hb); (try clear hb2); (try clear hk); (try clear hi); (try clear ho0)) | (go_at_call 11; (with_reducible refine (arch_Since.calls _ _ l1 _ _ l0 t106 _ ?side1 ?side2 ?side3 ?side4 A6.out).mono ?_); (case side1 => repeat (first | exact (Kd.C_below HR1.out HB.out) | (with_reducible refine Kd.C_alloc ?_ _) | (with_reducible refine Kd.C_drewN ?_ _) | (with_reducible refine Kd.C_drew ?_))); (case side2 => exact HC1.out); (case side3 => repeat (first | exact (Kd.C_below HR0.out HB.out) | (with_reducible refine Kd.C_alloc ?_ _) | (with_reducible refine Kd.C_drewN ?_ _) | (with_reducible refine Kd.C_drew ?_))); (case side4 => exact HC0.out); rintro e w9 ⟨v107, rfl, ho0, hb⟩; have n0_ := Aside0.mk (Kd.R_elder' (by (with_reducible repeat (first | apply Kd.R_alloc | apply Kd.R_drewN | apply Kd.R_drew)); exact HO105.out) (Kd.R_base ho0) hb); have n1_ := Aside0.mk (Kd.R_lower (Kd.R_new' ho0 (Kd.R_lt (by (with_reducible repeat (first | apply Kd.R_alloc | apply Kd.R_drewN | apply Kd.R_drew)); exact HO105.out))) (below_size (by repeat (first | (with_reducible first | exact HB.out | apply below_alloc | apply pw_below_drewN | apply below_drew1) | exact HB.out)))); have n2_ := Aside0.mk (below_step (by repeat (first | (with_reducible first | exact HB.out | apply below_alloc | apply pw_below_drewN | apply below_drew1) | exact HB.out)) hb); clear HO105; clear HB; have HO105 := n0_; have HO108 := n1_; have HB := n2_; clear n0_ n1_ n2_; (try clear hb); (try clear hb2); (try clear hk); (try clear hi); (try clear ho0))); go_upto_region 4 with (first | (go_at_call 9; (with_reducible refine (remoralaw43_few.calls _ _ l0 _ _ l1 true _ ?side1 ?side2 ?side3 ?side4 A3.out).mono ?_); (case side1 => repeat (first | exact HR0.out | (with_reducible refine Kd.C_alloc ?_ _) | (with_reducible refine Kd.C_drewN ?_ _) | (with_reducible refine Kd.C_drew ?_))); (case side2 => exact HC0.out); (case side3 => repeat (first | exact HR1.out | (with_reducible refine Kd.C_alloc ?_ _) | (with_reducible refine Kd.C_drewN ?_ _) | (with_reducible refine Kd.C_drew ?_))); (case side4 => exact HC1.out); rintro e w' ⟨rfl, ⟨nd, rfl⟩⟩; (try first | exact ⟨rfl, _, World.drewN_drewN _ _ _⟩ | exact ⟨rfl, _, Eq.trans (World.drewN_drewN _ _ _) (congrArg (World.drewN _) (Nat.add_assoc _ _ _))⟩)) | (go_at_call 11; (with_reducible refine (arch_Since.calls _ _ l0 _ _ l1 t103 _ ?side1 ?side2 ?side3 ?side4 A5.out).mono ?_); (case side1 => repeat (first | exact HR0.out | (with_reducible refine Kd.C_alloc ?_ _) | (with_reducible refine Kd.C_drewN ?_ _) | (with_reducible refine Kd.C_drew ?_))); (case side2 => exact HC0.out); (case side3 => repeat (first | exact HR1.out | (with_reducible refine Kd.C_alloc ?_ _) | (with_reducible refine Kd.C_drewN ?_ _) | (with_reducible refine Kd.C_drew ?_))); (case side4 => exact HC1.out); rintro e w8 ⟨v104, rfl, ho0, hb⟩; have n0_ := Aside0.mk (Kd.R_lower ho0 (below_size (by repeat (first | (with_reducible first | exact HB.out | apply below_alloc | apply pw_below_drewN | apply below_drew1) | exact HB.out)))); have n1_ := Aside0.mk (below_step (by repeat (first | (with_reducible first | exact HB.out | apply below_alloc | apply pw_below_drewN | apply below_drew1) | exact HB.out)) hb); clear HB; have HO105 := n0_; have HB := n1_; clear n0_ n1_; (try clear hb); (try clear hb2); (try clear hk); (try clear hi); (try clear ho0)) | (go_at_call 11; (with_reducible refine (arch_Since.calls _ _ l1 _ _ l0 t106 _ ?side1 ?side2 ?side3 ?side4 A6.out).mono ?_); (case side1 => repeat (first | exact (Kd.C_below HR1.out HB.out) | (with_reducible refine Kd.C_alloc ?_ _) | (with_reducible refine Kd.C_drewN ?_ _) | (with_reducible refine Kd.C_drew ?_))); (case side2 => exact HC1.out); (case side3 => repeat (first | exact (Kd.C_below HR0.out HB.out) | (with_reducible refine Kd.C_alloc ?_ _) | (with_reducible refine Kd.C_drewN ?_ _) | (with_reducible refine Kd.C_drew ?_))); (case side4 => exact HC0.out); rintro e w9 ⟨v107, rfl, ho0, hb⟩; have n0_ := Aside0.mk (Kd.R_elder' (by (with_reducible repeat (first | apply Kd.R_alloc | apply Kd.R_drewN | apply Kd.R_drew)); exact HO105.out) (Kd.R_base ho0) hb); have n1_ := Aside0.mk (Kd.R_lower (Kd.R_new' ho0 (Kd.R_lt (by (with_reducible repeat (first | apply Kd.R_alloc | apply Kd.R_drewN | apply Kd.R_drew)); exact HO105.out))) (below_size (by repeat (first | (with_reducible first | exact HB.out | apply below_alloc | apply pw_below_drewN | apply below_drew1) | exact HB.out)))); have n2_ := Aside0.mk (below_step (by repeat (first | (with_reducible first | exact HB.out | apply below_alloc | apply pw_below_drewN | apply below_drew1) | exact HB.out)) hb); clear HO105; clear HB; have HO105 := n0_; have HO108 := n1_; have HB := n2_; clear n0_ n1_ n2_; (try clear hb); (try clear hb2); (try clear hk); (try clear hi); (try clear ho0))))
  (try simp only [Act.put, List.setIfInBounds_toArray, List.set_cons_zero, List.set_cons_succ])
  go_cut [31] (fun v31 wc => ∃ (kq : Nat) (x31_6 : Bool), v31 = .bool x31_6 ∧ Aside0 (remoralaw43_ArchTurns.j0 kq t103 t106 x31_6 = some r) ∧ Aside0 (kq ≤ k) ∧ Aside0 (Kd.R k28 28 wc w.heap.size (fun k_ => some k_ ≠ (v107 : Value).ownBlock) v104 t103) ∧ Aside0 (Kd.R k28 28 wc w.heap.size (fun k_ => some k_ ≠ (v104 : Value).ownBlock) v107 t106) ∧ Aside0 (Below w.heap.size w wc))
  case first =>
   have H := HC7.out
   clear HC7
   replace H := Option.bind_eq_some_iff.mp H
   obtain ⟨t109, A100, H⟩ := H
   replace H : (if (t109.length : Int) = 0 then (remoralaw43_ArchTurns.j0 k t103 t106 ((t103.length : Int) != (t106.length : Int))) else (remoralaw43_ArchTurns.j0 k t103 t106 true)) = some r := H
   have A10 := Aside0.mk A100
   clear A100
   by_cases c11 : (t109.length : Int) = 0
   ·rw [if_pos c11] at H
    have c11b0 : ((t109.length : Int) == 0) = true := beq_iff_eq.mpr c11
    have c11b1 : ((t109.length : Int) != 0) = false := bne_eq_false_iff_eq.mpr c11
    clear c11
    (first | rw [c11b0] | (simp only [i64_w, i32_w]; rw [c11b0]) | skip)
    have H' := Aside0.mk H
    clear H
    go_wp2_with (first | (go_at_call 11; (with_reducible refine (arch_Since.calls _ _ l0 _ _ l0 t109 _ ?side1 ?side2 ?side3 ?side4 A10.out).mono ?_); (case side1 => repeat (first | exact (Kd.C_below HR0.out HB.out) | (with_reducible refine Kd.C_alloc ?_ _) | (with_reducible refine Kd.C_drewN ?_ _) | (with_reducible refine Kd.C_drew ?_))); (case side2 => exact HC0.out); (case side3 => repeat (first | exact (Kd.C_below HR0.out HB.out) | (with_reducible refine Kd.C_alloc ?_ _) | (with_reducible refine Kd.C_drewN ?_ _) | (with_reducible refine Kd.C_drew ?_))); (case side4 => exact HC0.out); rintro e w12 ⟨v110, rfl, ho0, hb⟩; have n0_ := Aside0.mk (Kd.R_elder' (by (with_reducible repeat (first | apply Kd.R_alloc | apply Kd.R_drewN | apply Kd.R_drew)); exact HO105.out) (Kd.R_base ho0) hb); have n1_ := Aside0.mk (Kd.R_elder' (by (with_reducible repeat (first | apply Kd.R_alloc | apply Kd.R_drewN | apply Kd.R_drew)); exact HO108.out) (Kd.R_base ho0) hb); have n2_ := Aside0.mk (Kd.R_lower (Kd.R_new' (Kd.R_new' ho0 (Kd.R_lt (by (with_reducible repeat (first | apply Kd.R_alloc | apply Kd.R_drewN | apply Kd.R_drew)); exact HO105.out))) (Kd.R_lt (by (with_reducible repeat (first | apply Kd.R_alloc | apply Kd.R_drewN | apply Kd.R_drew)); exact HO108.out))) (below_size (by repeat (first | (with_reducible first | exact HB.out | apply below_alloc | apply pw_below_drewN | apply below_drew1) | exact HB.out)))); have n3_ := Aside0.mk (below_step (by repeat (first | (with_reducible first | exact HB.out | apply below_alloc | apply pw_below_drewN | apply below_drew1) | exact HB.out)) hb); clear HO105; clear HO108; clear HB; have HO105 := n0_; have HO108 := n1_; have HO111 := n2_; have HB := n3_; clear n0_ n1_ n2_ n3_; (try clear hb); (try clear hb2); (try clear hk); (try clear hi); (try clear ho0); obtain ⟨Ao13, co13, eo13⟩ := Kd.R_slice HO111.out; subst eo13; obtain ⟨Ao14, co14, eo14⟩ := Kd.R_slice HO105.out; subst eo14; obtain ⟨Ao15, co15, eo15⟩ := Kd.R_slice HO108.out; subst eo15))
    repeat (go_quiet (first | (go_at_call 11; (with_reducible refine (arch_Since.calls _ _ l0 _ _ l0 t109 _ ?side1 ?side2 ?side3 ?side4 A10.out).mono ?_); (case side1 => repeat (first | exact (Kd.C_below HR0.out HB.out) | (with_reducible refine Kd.C_alloc ?_ _) | (with_reducible refine Kd.C_drewN ?_ _) | (with_reducible refine Kd.C_drew ?_))); (case side2 => exact HC0.out); (case side3 => repeat (first | exact (Kd.C_below HR0.out HB.out) | (with_reducible refine Kd.C_alloc ?_ _) | (with_reducible refine Kd.C_drewN ?_ _) | (with_reducible refine Kd.C_drew ?_))); (case side4 => exact HC0.out); rintro e w12 ⟨v110, rfl, ho0, hb⟩; have n0_ := Aside0.mk (Kd.R_elder' (by (with_reducible repeat (first | apply Kd.R_alloc | apply Kd.R_drewN | apply Kd.R_drew)); exact HO105.out) (Kd.R_base ho0) hb); have n1_ := Aside0.mk (Kd.R_elder' (by (with_reducible repeat (first | apply Kd.R_alloc | apply Kd.R_drewN | apply Kd.R_drew)); exact HO108.out) (Kd.R_base ho0) hb); have n2_ := Aside0.mk (Kd.R_lower (Kd.R_new' (Kd.R_new' ho0 (Kd.R_lt (by (with_reducible repeat (first | apply Kd.R_alloc | apply Kd.R_drewN | apply Kd.R_drew)); exact HO105.out))) (Kd.R_lt (by (with_reducible repeat (first | apply Kd.R_alloc | apply Kd.R_drewN | apply Kd.R_drew)); exact HO108.out))) (below_size (by repeat (first | (with_reducible first | exact HB.out | apply below_alloc | apply pw_below_drewN | apply below_drew1) | exact HB.out)))); have n3_ := Aside0.mk (below_step (by repeat (first | (with_reducible first | exact HB.out | apply below_alloc | apply pw_below_drewN | apply below_drew1) | exact HB.out)) hb); clear HO105; clear HO108; clear HB; have HO105 := n0_; have HO108 := n1_; have HO111 := n2_; have HB := n3_; clear n0_ n1_ n2_ n3_; (try clear hb); (try clear hb2); (try clear hk); (try clear hi); (try clear ho0); obtain ⟨Ao13, co13, eo13⟩ := Kd.R_slice HO111.out; subst eo13; obtain ⟨Ao14, co14, eo14⟩ := Kd.R_slice HO105.out; subst eo14; obtain ⟨Ao15, co15, eo15⟩ := Kd.R_slice HO108.out; subst eo15)); try go_wp2_with (first | (go_at_call 11; (with_reducible refine (arch_Since.calls _ _ l0 _ _ l0 t109 _ ?side1 ?side2 ?side3 ?side4 A10.out).mono ?_); (case side1 => repeat (first | exact (Kd.C_below HR0.out HB.out) | (with_reducible refine Kd.C_alloc ?_ _) | (with_reducible refine Kd.C_drewN ?_ _) | (with_reducible refine Kd.C_drew ?_))); (case side2 => exact HC0.out); (case side3 => repeat (first | exact (Kd.C_below HR0.out HB.out) | (with_reducible refine Kd.C_alloc ?_ _) | (with_reducible refine Kd.C_drewN ?_ _) | (with_reducible refine Kd.C_drew ?_))); (case side4 => exact HC0.out); rintro e w12 ⟨v110, rfl, ho0, hb⟩; have n0_ := Aside0.mk (Kd.R_elder' (by (with_reducible repeat (first | apply Kd.R_alloc | apply Kd.R_drewN | apply Kd.R_drew)); exact HO105.out) (Kd.R_base ho0) hb); have n1_ := Aside0.mk (Kd.R_elder' (by (with_reducible repeat (first | apply Kd.R_alloc | apply Kd.R_drewN | apply Kd.R_drew)); exact HO108.out) (Kd.R_base ho0) hb); have n2_ := Aside0.mk (Kd.R_lower (Kd.R_new' (Kd.R_new' ho0 (Kd.R_lt (by (with_reducible repeat (first | apply Kd.R_alloc | apply Kd.R_drewN | apply Kd.R_drew)); exact HO105.out))) (Kd.R_lt (by (with_reducible repeat (first | apply Kd.R_alloc | apply Kd.R_drewN | apply Kd.R_drew)); exact HO108.out))) (below_size (by repeat (first | (with_reducible first | exact HB.out | apply below_alloc | apply pw_below_drewN | apply below_drew1) | exact HB.out)))); have n3_ := Aside0.mk (below_step (by repeat (first | (with_reducible first | exact HB.out | apply below_alloc | apply pw_below_drewN | apply below_drew1) | exact HB.out)) hb); clear HO105; clear HO108; clear HB; have HO105 := n0_; have HO108 := n1_; have HO111 := n2_; have HB := n3_; clear n0_ n1_ n2_ n3_; (try clear hb); (try clear hb2); (try clear hk); (try clear hi); (try clear ho0); obtain ⟨Ao13, co13, eo13⟩ := Kd.R_slice HO111.out; subst eo13; obtain ⟨Ao14, co14, eo14⟩ := Kd.R_slice HO105.out; subst eo14; obtain ⟨Ao15, co15, eo15⟩ := Kd.R_slice HO108.out; subst eo15)))
    go_meet
    case rel => exact ⟨_, (((t103.length : Int) != (t106.length : Int))), (by first | rfl | (simp; done) | (simp [*]; done)), H', ⟨by first | omega | exact Nat.le_refl _⟩, ⟨by (with_reducible repeat (first | apply Kd.R_alloc | apply Kd.R_drewN | apply Kd.R_drew)); exact Kd.R_mono HO105.out (fun _ hk => hk.1.2)⟩, ⟨by (with_reducible repeat (first | apply Kd.R_alloc | apply Kd.R_drewN | apply Kd.R_drew)); exact Kd.R_mono HO108.out (fun _ hk => hk.1.2)⟩, ⟨by repeat (first | (with_reducible first | exact HB.out | apply below_alloc | apply pw_below_drewN | apply below_drew1) | exact HB.out)⟩⟩
   ·rw [if_neg c11] at H
    have c11b0 : ((t109.length : Int) == 0) = false := beq_eq_false_iff_ne.mpr c11
    have c11b1 : ((t109.length : Int) != 0) = true := bne_iff_ne.mpr c11
    have c11b2 : ¬ (t109 = []) := fun h_ => c11 (by rw [h_]; rfl)
    (first | rw [c11b0] | (simp only [i64_w, i32_w]; rw [c11b0]) | skip)
    have H' := Aside0.mk H
    clear H
    go_wp2_with (first | (go_at_call 11; (with_reducible refine (arch_Since.calls _ _ l0 _ _ l0 t109 _ ?side1 ?side2 ?side3 ?side4 A10.out).mono ?_); (case side1 => repeat (first | exact (Kd.C_below HR0.out HB.out) | (with_reducible refine Kd.C_alloc ?_ _) | (with_reducible refine Kd.C_drewN ?_ _) | (with_reducible refine Kd.C_drew ?_))); (case side2 => exact HC0.out); (case side3 => repeat (first | exact (Kd.C_below HR0.out HB.out) | (with_reducible refine Kd.C_alloc ?_ _) | (with_reducible refine Kd.C_drewN ?_ _) | (with_reducible refine Kd.C_drew ?_))); (case side4 => exact HC0.out); rintro e w16 ⟨v110, rfl, ho0, hb⟩; have n0_ := Aside0.mk (Kd.R_elder' (by (with_reducible repeat (first | apply Kd.R_alloc | apply Kd.R_drewN | apply Kd.R_drew)); exact HO105.out) (Kd.R_base ho0) hb); have n1_ := Aside0.mk (Kd.R_elder' (by (with_reducible repeat (first | apply Kd.R_alloc | apply Kd.R_drewN | apply Kd.R_drew)); exact HO108.out) (Kd.R_base ho0) hb); have n2_ := Aside0.mk (Kd.R_lower (Kd.R_new' (Kd.R_new' ho0 (Kd.R_lt (by (with_reducible repeat (first | apply Kd.R_alloc | apply Kd.R_drewN | apply Kd.R_drew)); exact HO105.out))) (Kd.R_lt (by (with_reducible repeat (first | apply Kd.R_alloc | apply Kd.R_drewN | apply Kd.R_drew)); exact HO108.out))) (below_size (by repeat (first | (with_reducible first | exact HB.out | apply below_alloc | apply pw_below_drewN | apply below_drew1) | exact HB.out)))); have n3_ := Aside0.mk (below_step (by repeat (first | (with_reducible first | exact HB.out | apply below_alloc | apply pw_below_drewN | apply below_drew1) | exact HB.out)) hb); clear HO105; clear HO108; clear HB; have HO105 := n0_; have HO108 := n1_; have HO111 := n2_; have HB := n3_; clear n0_ n1_ n2_ n3_; (try clear hb); (try clear hb2); (try clear hk); (try clear hi); (try clear ho0); obtain ⟨Ao17, co17, eo17⟩ := Kd.R_slice HO111.out; subst eo17))
    repeat (go_quiet (first | (go_at_call 11; (with_reducible refine (arch_Since.calls _ _ l0 _ _ l0 t109 _ ?side1 ?side2 ?side3 ?side4 A10.out).mono ?_); (case side1 => repeat (first | exact (Kd.C_below HR0.out HB.out) | (with_reducible refine Kd.C_alloc ?_ _) | (with_reducible refine Kd.C_drewN ?_ _) | (with_reducible refine Kd.C_drew ?_))); (case side2 => exact HC0.out); (case side3 => repeat (first | exact (Kd.C_below HR0.out HB.out) | (with_reducible refine Kd.C_alloc ?_ _) | (with_reducible refine Kd.C_drewN ?_ _) | (with_reducible refine Kd.C_drew ?_))); (case side4 => exact HC0.out); rintro e w16 ⟨v110, rfl, ho0, hb⟩; have n0_ := Aside0.mk (Kd.R_elder' (by (with_reducible repeat (first | apply Kd.R_alloc | apply Kd.R_drewN | apply Kd.R_drew)); exact HO105.out) (Kd.R_base ho0) hb); have n1_ := Aside0.mk (Kd.R_elder' (by (with_reducible repeat (first | apply Kd.R_alloc | apply Kd.R_drewN | apply Kd.R_drew)); exact HO108.out) (Kd.R_base ho0) hb); have n2_ := Aside0.mk (Kd.R_lower (Kd.R_new' (Kd.R_new' ho0 (Kd.R_lt (by (with_reducible repeat (first | apply Kd.R_alloc | apply Kd.R_drewN | apply Kd.R_drew)); exact HO105.out))) (Kd.R_lt (by (with_reducible repeat (first | apply Kd.R_alloc | apply Kd.R_drewN | apply Kd.R_drew)); exact HO108.out))) (below_size (by repeat (first | (with_reducible first | exact HB.out | apply below_alloc | apply pw_below_drewN | apply below_drew1) | exact HB.out)))); have n3_ := Aside0.mk (below_step (by repeat (first | (with_reducible first | exact HB.out | apply below_alloc | apply pw_below_drewN | apply below_drew1) | exact HB.out)) hb); clear HO105; clear HO108; clear HB; have HO105 := n0_; have HO108 := n1_; have HO111 := n2_; have HB := n3_; clear n0_ n1_ n2_ n3_; (try clear hb); (try clear hb2); (try clear hk); (try clear hi); (try clear ho0); obtain ⟨Ao17, co17, eo17⟩ := Kd.R_slice HO111.out; subst eo17)); try go_wp2_with (first | (go_at_call 11; (with_reducible refine (arch_Since.calls _ _ l0 _ _ l0 t109 _ ?side1 ?side2 ?side3 ?side4 A10.out).mono ?_); (case side1 => repeat (first | exact (Kd.C_below HR0.out HB.out) | (with_reducible refine Kd.C_alloc ?_ _) | (with_reducible refine Kd.C_drewN ?_ _) | (with_reducible refine Kd.C_drew ?_))); (case side2 => exact HC0.out); (case side3 => repeat (first | exact (Kd.C_below HR0.out HB.out) | (with_reducible refine Kd.C_alloc ?_ _) | (with_reducible refine Kd.C_drewN ?_ _) | (with_reducible refine Kd.C_drew ?_))); (case side4 => exact HC0.out); rintro e w16 ⟨v110, rfl, ho0, hb⟩; have n0_ := Aside0.mk (Kd.R_elder' (by (with_reducible repeat (first | apply Kd.R_alloc | apply Kd.R_drewN | apply Kd.R_drew)); exact HO105.out) (Kd.R_base ho0) hb); have n1_ := Aside0.mk (Kd.R_elder' (by (with_reducible repeat (first | apply Kd.R_alloc | apply Kd.R_drewN | apply Kd.R_drew)); exact HO108.out) (Kd.R_base ho0) hb); have n2_ := Aside0.mk (Kd.R_lower (Kd.R_new' (Kd.R_new' ho0 (Kd.R_lt (by (with_reducible repeat (first | apply Kd.R_alloc | apply Kd.R_drewN | apply Kd.R_drew)); exact HO105.out))) (Kd.R_lt (by (with_reducible repeat (first | apply Kd.R_alloc | apply Kd.R_drewN | apply Kd.R_drew)); exact HO108.out))) (below_size (by repeat (first | (with_reducible first | exact HB.out | apply below_alloc | apply pw_below_drewN | apply below_drew1) | exact HB.out)))); have n3_ := Aside0.mk (below_step (by repeat (first | (with_reducible first | exact HB.out | apply below_alloc | apply pw_below_drewN | apply below_drew1) | exact HB.out)) hb); clear HO105; clear HO108; clear HB; have HO105 := n0_; have HO108 := n1_; have HO111 := n2_; have HB := n3_; clear n0_ n1_ n2_ n3_; (try clear hb); (try clear hb2); (try clear hk); (try clear hi); (try clear ho0); obtain ⟨Ao17, co17, eo17⟩ := Kd.R_slice HO111.out; subst eo17)))
    go_meet
    case rel => exact ⟨_, (true), (by first | rfl | (simp; done) | (simp [*]; done)), H', ⟨by first | omega | exact Nat.le_refl _⟩, ⟨by (with_reducible repeat (first | apply Kd.R_alloc | apply Kd.R_drewN | apply Kd.R_drew)); exact Kd.R_mono HO105.out (fun _ hk => hk.1.2)⟩, ⟨by (with_reducible repeat (first | apply Kd.R_alloc | apply Kd.R_drewN | apply Kd.R_drew)); exact Kd.R_mono HO108.out (fun _ hk => hk.1.2)⟩, ⟨by repeat (first | (with_reducible first | exact HB.out | apply below_alloc | apply pw_below_drewN | apply below_drew1) | exact HB.out)⟩⟩
  case rest =>
   clear HC7
   try clear c1
   try clear p2
   try clear c3
   try clear c4
   try clear c11
   try clear c11b0
   try clear c11b1
   try clear c11b2
   obtain ⟨kq, x31_6, rfl, HA, HJ6, HO_5, HO_6, HB⟩ := hcut
   cases kq with
   | zero => exact absurd HA.out (by simp [remoralaw43_ArchTurns.j0])
   | succ kj6 =>
    have H := HA.out
    clear HA
    simp only [remoralaw43_ArchTurns.j0] at H
    by_cases c18 : x31_6 = true
    ·subst c18
     have H1 : (some false) = some r := by rw [if_pos rfl] at H; exact H
     clear H
     have H := H1
     clear H1
     obtain rfl := Option.some.inj H
     go_wp2
     repeat (go_quiet (fail); try go_wp2)
     go_ret
     exact ⟨by first | rfl | (simp [errW_none, errW_some] <;> rfl) | (simp [*, errW_none, errW_some] <;> rfl), by repeat (first | (with_reducible first | exact HB.out | apply below_alloc | apply pw_below_drewN | apply below_drew1) | exact HB.out)⟩
    ·replace c18 := Bool.eq_false_iff.mpr c18
     subst c18
     have H1 : (remoralaw43_ArchTurns.l0 kj6 t103 t106 0) = some r := by rw [if_neg (show ¬ (false = true) by decide)] at H; exact H
     clear H
     have H := H1
     clear H1
     have H' := Aside0.mk H
     clear H
     go_wp2
     repeat (go_quiet (fail); try go_wp2)
     go_loopg [7] kj6 (fun kq v7 w' => ∃ (x7_2 : Int), v7 = .int .i64 x7_2 ∧ Aside0 (remoralaw43_ArchTurns.l0 kq t103 t106 x7_2 = some r) ∧ Aside0 (kq ≤ kj6) ∧ Aside0 (Kd.R k28 28 w' w.heap.size (fun k_ => some k_ ≠ (v107 : Value).ownBlock) v104 t103) ∧ Aside0 (Kd.R k28 28 w' w.heap.size (fun k_ => some k_ ≠ (v104 : Value).ownBlock) v107 t106) ∧ Aside0 (Below w.heap.size w w'))
     case atStart => exact ⟨(0), (by first | rfl | (simp; done) | (simp [*]; done)), H', ⟨Nat.le_refl _⟩, ⟨by (with_reducible repeat (first | apply Kd.R_alloc | apply Kd.R_drewN | apply Kd.R_drew)); exact HO_5.out⟩, ⟨by (with_reducible repeat (first | apply Kd.R_alloc | apply Kd.R_drewN | apply Kd.R_drew)); exact HO_6.out⟩, ⟨by repeat (first | (with_reducible first | exact HB.out | apply below_alloc | apply pw_below_drewN | apply below_drew1) | exact HB.out)⟩⟩
     case round =>
      clear H'
      try clear c1
      try clear p2
      try clear c3
      try clear c4
      try clear c11
      try clear c11b0
      try clear c11b1
      try clear c11b2
      try clear c18
      try clear p2
      obtain ⟨x7_2, rfl, HA, HK2, HO_5, HO_6, HB⟩ := hrel
      cases gk with
      | zero => exact absurd HA.out (by simp [remoralaw43_ArchTurns.l0])
      | succ k2 =>
       have H := HA.out
       clear HA
       simp only [remoralaw43_ArchTurns.l0] at H
       by_cases c19 : x7_2 < (t103.length : Int)
       ·rw [if_pos c19] at H
        have c19b0 : decide (x7_2 < (t103.length : Int)) = true := decide_eq_true c19
        clear c19
        by_cases c20 : 0 ≤ x7_2
        ·rw [if_pos c20] at H
         have c20b0 : decide (0 ≤ x7_2) = true := decide_eq_true c20
         clear c20
         by_cases c21 : ((rd_T28 t103 x7_2).f1) < 3
         ·rw [if_pos c21] at H
          have c21b0 : decide (((rd_T28 t103 x7_2).f1) < 3) = true := decide_eq_true c21
          clear c21
          by_cases c22 : x7_2 < (t106.length : Int)
          ·rw [if_pos c22] at H
           have c22b0 : decide (x7_2 < (t106.length : Int)) = true := decide_eq_true c22
           clear c22
           by_cases c23 : ((rd_T28 t106 x7_2).f0).toList = ((rd_T28 t103 x7_2).f0).toList
           ·rw [if_pos c23] at H
            have c23b0 : (((rd_T28 t106 x7_2).f0).toList == ((rd_T28 t103 x7_2).f0).toList) = true := beq_iff_eq.mpr c23
            have c23b1 : (((rd_T28 t106 x7_2).f0).toList != ((rd_T28 t103 x7_2).f0).toList) = false := bne_eq_false_iff_eq.mpr c23
            clear c23
            by_cases c24 : ((rd_T28 t106 x7_2).f1) = (wrap64 (3 - ((rd_T28 t103 x7_2).f1)))
            ·rw [if_pos c24] at H
             have c24b0 : (((rd_T28 t106 x7_2).f1) == (wrap64 (3 - ((rd_T28 t103 x7_2).f1)))) = true := beq_iff_eq.mpr c24
             have c24b1 : (((rd_T28 t106 x7_2).f1) != (wrap64 (3 - ((rd_T28 t103 x7_2).f1)))) = false := bne_eq_false_iff_eq.mpr c24
             clear c24
             have H' := Aside0.mk H
             clear H
             obtain ⟨Ao25, co25, eo25⟩ := Kd.R_slice HO_5.out
             subst eo25
             have p113 : 0 ≤ (x7_2 : Int) := of_decide_eq_true (by first | (with_reducible assumption) | assumption)
             have q113 : x7_2 < (t103.length : Int) := of_decide_eq_true (by first | (with_reducible assumption) | assumption)
             obtain ⟨ad113, e113, hx113_0, hx113_1⟩ := at_T28 (Kd.R_reads' HO_5.out).2.2 x7_2 p113 q113
             cases e113
             replace p113 := eq_true p113
             replace q113 := eq_true q113
             obtain ⟨Ao26, co26, eo26⟩ := Kd.R_slice HO_6.out
             subst eo26
             have p114 : 0 ≤ (x7_2 : Int) := of_decide_eq_true (by first | (with_reducible assumption) | assumption)
             have q114 : x7_2 < (t106.length : Int) := of_decide_eq_true (by first | (with_reducible assumption) | assumption)
             obtain ⟨ad114, e114, hx114_0, hx114_1⟩ := at_T28 (Kd.R_reads' HO_6.out).2.2 x7_2 p114 q114
             cases e114
             replace p114 := eq_true p114
             replace q114 := eq_true q114
             have p115 : 0 ≤ (x7_2 : Int) := of_decide_eq_true (by first | (with_reducible assumption) | assumption)
             have q115 : x7_2 < (t103.length : Int) := of_decide_eq_true (by first | (with_reducible assumption) | assumption)
             obtain ⟨ad115, e115, hx115_0, hx115_1⟩ := at_T28 (Kd.R_reads' HO_5.out).2.2 x7_2 p115 q115
             obtain rfl : ad113 = ad115 := (by injection e115)
             replace p115 := eq_true p115
             replace q115 := eq_true q115
             have p116 : 0 ≤ (x7_2 : Int) := of_decide_eq_true (by first | (with_reducible assumption) | assumption)
             have q116 : x7_2 < (t106.length : Int) := of_decide_eq_true (by first | (with_reducible assumption) | assumption)
             obtain ⟨ad116, e116, hx116_0, hx116_1⟩ := at_T28 (Kd.R_reads' HO_6.out).2.2 x7_2 p116 q116
             obtain rfl : ad114 = ad116 := (by injection e116)
             replace p116 := eq_true p116
             replace q116 := eq_true q116
             go_wp2
             repeat (go_quiet (fail); try go_wp2)
             go_roundg k2
             case measure => have := HJ6.out; have := HK2.out; omega
             case rel => exact ⟨(wrap64 (x7_2 + 1)), (by first | rfl | (simp; done) | (simp [*]; done)), H', ⟨by have := HJ6.out; have := HK2.out; omega⟩, ⟨by (with_reducible repeat (first | apply Kd.R_alloc | apply Kd.R_drewN | apply Kd.R_drew)); exact HO_5.out⟩, ⟨by (with_reducible repeat (first | apply Kd.R_alloc | apply Kd.R_drewN | apply Kd.R_drew)); exact HO_6.out⟩, ⟨by repeat (first | (with_reducible first | exact HB.out | apply below_alloc | apply pw_below_drewN | apply below_drew1) | exact HB.out)⟩⟩
            ·rw [if_neg c24] at H
             have c24b0 : (((rd_T28 t106 x7_2).f1) == (wrap64 (3 - ((rd_T28 t103 x7_2).f1)))) = false := beq_eq_false_iff_ne.mpr c24
             have c24b1 : (((rd_T28 t106 x7_2).f1) != (wrap64 (3 - ((rd_T28 t103 x7_2).f1)))) = true := bne_iff_ne.mpr c24
             obtain rfl := Option.some.inj H
             obtain ⟨Ao27, co27, eo27⟩ := Kd.R_slice HO_5.out
             subst eo27
             have p113 : 0 ≤ (x7_2 : Int) := of_decide_eq_true (by first | (with_reducible assumption) | assumption)
             have q113 : x7_2 < (t103.length : Int) := of_decide_eq_true (by first | (with_reducible assumption) | assumption)
             obtain ⟨ad113, e113, hx113_0, hx113_1⟩ := at_T28 (Kd.R_reads' HO_5.out).2.2 x7_2 p113 q113
             cases e113
             replace p113 := eq_true p113
             replace q113 := eq_true q113
             obtain ⟨Ao28, co28, eo28⟩ := Kd.R_slice HO_6.out
             subst eo28
             have p114 : 0 ≤ (x7_2 : Int) := of_decide_eq_true (by first | (with_reducible assumption) | assumption)
             have q114 : x7_2 < (t106.length : Int) := of_decide_eq_true (by first | (with_reducible assumption) | assumption)
             obtain ⟨ad114, e114, hx114_0, hx114_1⟩ := at_T28 (Kd.R_reads' HO_6.out).2.2 x7_2 p114 q114
             cases e114
             replace p114 := eq_true p114
             replace q114 := eq_true q114
             have p115 : 0 ≤ (x7_2 : Int) := of_decide_eq_true (by first | (with_reducible assumption) | assumption)
             have q115 : x7_2 < (t103.length : Int) := of_decide_eq_true (by first | (with_reducible assumption) | assumption)
             obtain ⟨ad115, e115, hx115_0, hx115_1⟩ := at_T28 (Kd.R_reads' HO_5.out).2.2 x7_2 p115 q115
             obtain rfl : ad113 = ad115 := (by injection e115)
             replace p115 := eq_true p115
             replace q115 := eq_true q115
             have p116 : 0 ≤ (x7_2 : Int) := of_decide_eq_true (by first | (with_reducible assumption) | assumption)
             have q116 : x7_2 < (t106.length : Int) := of_decide_eq_true (by first | (with_reducible assumption) | assumption)
             obtain ⟨ad116, e116, hx116_0, hx116_1⟩ := at_T28 (Kd.R_reads' HO_6.out).2.2 x7_2 p116 q116
             obtain rfl : ad114 = ad116 := (by injection e116)
             replace p116 := eq_true p116
             replace q116 := eq_true q116
             go_wp2
             repeat (go_quiet (fail); try go_wp2)
             go_ret
             exact ⟨by first | rfl | (simp [errW_none, errW_some] <;> rfl) | (simp [*, errW_none, errW_some] <;> rfl), by repeat (first | (with_reducible first | exact HB.out | apply below_alloc | apply pw_below_drewN | apply below_drew1) | exact HB.out)⟩
           ·rw [if_neg c23] at H
            have c23b0 : (((rd_T28 t106 x7_2).f0).toList == ((rd_T28 t103 x7_2).f0).toList) = false := beq_eq_false_iff_ne.mpr c23
            have c23b1 : (((rd_T28 t106 x7_2).f0).toList != ((rd_T28 t103 x7_2).f0).toList) = true := bne_iff_ne.mpr c23
            obtain rfl := Option.some.inj H
            obtain ⟨Ao29, co29, eo29⟩ := Kd.R_slice HO_5.out
            subst eo29
            have p113 : 0 ≤ (x7_2 : Int) := of_decide_eq_true (by first | (with_reducible assumption) | assumption)
            have q113 : x7_2 < (t103.length : Int) := of_decide_eq_true (by first | (with_reducible assumption) | assumption)
            obtain ⟨ad113, e113, hx113_0, hx113_1⟩ := at_T28 (Kd.R_reads' HO_5.out).2.2 x7_2 p113 q113
            cases e113
            replace p113 := eq_true p113
            replace q113 := eq_true q113
            obtain ⟨Ao30, co30, eo30⟩ := Kd.R_slice HO_6.out
            subst eo30
            have p114 : 0 ≤ (x7_2 : Int) := of_decide_eq_true (by first | (with_reducible assumption) | assumption)
            have q114 : x7_2 < (t106.length : Int) := of_decide_eq_true (by first | (with_reducible assumption) | assumption)
            obtain ⟨ad114, e114, hx114_0, hx114_1⟩ := at_T28 (Kd.R_reads' HO_6.out).2.2 x7_2 p114 q114
            cases e114
            replace p114 := eq_true p114
            replace q114 := eq_true q114
            have p115 : 0 ≤ (x7_2 : Int) := of_decide_eq_true (by first | (with_reducible assumption) | assumption)
            have q115 : x7_2 < (t103.length : Int) := of_decide_eq_true (by first | (with_reducible assumption) | assumption)
            obtain ⟨ad115, e115, hx115_0, hx115_1⟩ := at_T28 (Kd.R_reads' HO_5.out).2.2 x7_2 p115 q115
            obtain rfl : ad113 = ad115 := (by injection e115)
            replace p115 := eq_true p115
            replace q115 := eq_true q115
            go_wp2
            repeat (go_quiet (fail); try go_wp2)
            go_ret
            exact ⟨by first | rfl | (simp [errW_none, errW_some] <;> rfl) | (simp [*, errW_none, errW_some] <;> rfl), by repeat (first | (with_reducible first | exact HB.out | apply below_alloc | apply pw_below_drewN | apply below_drew1) | exact HB.out)⟩
          ·rw [if_neg c22] at H
           exact absurd H (by simp)
         ·rw [if_neg c21] at H
          have c21b0 : decide (((rd_T28 t103 x7_2).f1) < 3) = false := decide_eq_false c21
          clear c21
          by_cases c31 : x7_2 < (t106.length : Int)
          ·rw [if_pos c31] at H
           have c31b0 : decide (x7_2 < (t106.length : Int)) = true := decide_eq_true c31
           clear c31
           by_cases c32 : ((rd_T28 t106 x7_2).f0).toList = ((rd_T28 t103 x7_2).f0).toList
           ·rw [if_pos c32] at H
            have c32b0 : (((rd_T28 t106 x7_2).f0).toList == ((rd_T28 t103 x7_2).f0).toList) = true := beq_iff_eq.mpr c32
            have c32b1 : (((rd_T28 t106 x7_2).f0).toList != ((rd_T28 t103 x7_2).f0).toList) = false := bne_eq_false_iff_eq.mpr c32
            clear c32
            by_cases c33 : ((rd_T28 t106 x7_2).f1) = ((rd_T28 t103 x7_2).f1)
            ·rw [if_pos c33] at H
             have c33b0 : (((rd_T28 t106 x7_2).f1) == ((rd_T28 t103 x7_2).f1)) = true := beq_iff_eq.mpr c33
             have c33b1 : (((rd_T28 t106 x7_2).f1) != ((rd_T28 t103 x7_2).f1)) = false := bne_eq_false_iff_eq.mpr c33
             clear c33
             have H' := Aside0.mk H
             clear H
             obtain ⟨Ao34, co34, eo34⟩ := Kd.R_slice HO_5.out
             subst eo34
             have p113 : 0 ≤ (x7_2 : Int) := of_decide_eq_true (by first | (with_reducible assumption) | assumption)
             have q113 : x7_2 < (t103.length : Int) := of_decide_eq_true (by first | (with_reducible assumption) | assumption)
             obtain ⟨ad113, e113, hx113_0, hx113_1⟩ := at_T28 (Kd.R_reads' HO_5.out).2.2 x7_2 p113 q113
             cases e113
             replace p113 := eq_true p113
             replace q113 := eq_true q113
             obtain ⟨Ao35, co35, eo35⟩ := Kd.R_slice HO_6.out
             subst eo35
             have p117 : 0 ≤ (x7_2 : Int) := of_decide_eq_true (by first | (with_reducible assumption) | assumption)
             have q117 : x7_2 < (t106.length : Int) := of_decide_eq_true (by first | (with_reducible assumption) | assumption)
             obtain ⟨ad117, e117, hx117_0, hx117_1⟩ := at_T28 (Kd.R_reads' HO_6.out).2.2 x7_2 p117 q117
             cases e117
             replace p117 := eq_true p117
             replace q117 := eq_true q117
             have p118 : 0 ≤ (x7_2 : Int) := of_decide_eq_true (by first | (with_reducible assumption) | assumption)
             have q118 : x7_2 < (t103.length : Int) := of_decide_eq_true (by first | (with_reducible assumption) | assumption)
             obtain ⟨ad118, e118, hx118_0, hx118_1⟩ := at_T28 (Kd.R_reads' HO_5.out).2.2 x7_2 p118 q118
             obtain rfl : ad113 = ad118 := (by injection e118)
             replace p118 := eq_true p118
             replace q118 := eq_true q118
             have p119 : 0 ≤ (x7_2 : Int) := of_decide_eq_true (by first | (with_reducible assumption) | assumption)
             have q119 : x7_2 < (t106.length : Int) := of_decide_eq_true (by first | (with_reducible assumption) | assumption)
             obtain ⟨ad119, e119, hx119_0, hx119_1⟩ := at_T28 (Kd.R_reads' HO_6.out).2.2 x7_2 p119 q119
             obtain rfl : ad117 = ad119 := (by injection e119)
             replace p119 := eq_true p119
             replace q119 := eq_true q119
             go_wp2
             repeat (go_quiet (fail); try go_wp2)
             go_roundg k2
             case measure => have := HJ6.out; have := HK2.out; omega
             case rel => exact ⟨(wrap64 (x7_2 + 1)), (by first | rfl | (simp; done) | (simp [*]; done)), H', ⟨by have := HJ6.out; have := HK2.out; omega⟩, ⟨by (with_reducible repeat (first | apply Kd.R_alloc | apply Kd.R_drewN | apply Kd.R_drew)); exact HO_5.out⟩, ⟨by (with_reducible repeat (first | apply Kd.R_alloc | apply Kd.R_drewN | apply Kd.R_drew)); exact HO_6.out⟩, ⟨by repeat (first | (with_reducible first | exact HB.out | apply below_alloc | apply pw_below_drewN | apply below_drew1) | exact HB.out)⟩⟩
            ·rw [if_neg c33] at H
             have c33b0 : (((rd_T28 t106 x7_2).f1) == ((rd_T28 t103 x7_2).f1)) = false := beq_eq_false_iff_ne.mpr c33
             have c33b1 : (((rd_T28 t106 x7_2).f1) != ((rd_T28 t103 x7_2).f1)) = true := bne_iff_ne.mpr c33
             obtain rfl := Option.some.inj H
             obtain ⟨Ao36, co36, eo36⟩ := Kd.R_slice HO_5.out
             subst eo36
             have p113 : 0 ≤ (x7_2 : Int) := of_decide_eq_true (by first | (with_reducible assumption) | assumption)
             have q113 : x7_2 < (t103.length : Int) := of_decide_eq_true (by first | (with_reducible assumption) | assumption)
             obtain ⟨ad113, e113, hx113_0, hx113_1⟩ := at_T28 (Kd.R_reads' HO_5.out).2.2 x7_2 p113 q113
             cases e113
             replace p113 := eq_true p113
             replace q113 := eq_true q113
             obtain ⟨Ao37, co37, eo37⟩ := Kd.R_slice HO_6.out
             subst eo37
             have p117 : 0 ≤ (x7_2 : Int) := of_decide_eq_true (by first | (with_reducible assumption) | assumption)
             have q117 : x7_2 < (t106.length : Int) := of_decide_eq_true (by first | (with_reducible assumption) | assumption)
             obtain ⟨ad117, e117, hx117_0, hx117_1⟩ := at_T28 (Kd.R_reads' HO_6.out).2.2 x7_2 p117 q117
             cases e117
             replace p117 := eq_true p117
             replace q117 := eq_true q117
             have p118 : 0 ≤ (x7_2 : Int) := of_decide_eq_true (by first | (with_reducible assumption) | assumption)
             have q118 : x7_2 < (t103.length : Int) := of_decide_eq_true (by first | (with_reducible assumption) | assumption)
             obtain ⟨ad118, e118, hx118_0, hx118_1⟩ := at_T28 (Kd.R_reads' HO_5.out).2.2 x7_2 p118 q118
             obtain rfl : ad113 = ad118 := (by injection e118)
             replace p118 := eq_true p118
             replace q118 := eq_true q118
             have p119 : 0 ≤ (x7_2 : Int) := of_decide_eq_true (by first | (with_reducible assumption) | assumption)
             have q119 : x7_2 < (t106.length : Int) := of_decide_eq_true (by first | (with_reducible assumption) | assumption)
             obtain ⟨ad119, e119, hx119_0, hx119_1⟩ := at_T28 (Kd.R_reads' HO_6.out).2.2 x7_2 p119 q119
             obtain rfl : ad117 = ad119 := (by injection e119)
             replace p119 := eq_true p119
             replace q119 := eq_true q119
             go_wp2
             repeat (go_quiet (fail); try go_wp2)
             go_ret
             exact ⟨by first | rfl | (simp [errW_none, errW_some] <;> rfl) | (simp [*, errW_none, errW_some] <;> rfl), by repeat (first | (with_reducible first | exact HB.out | apply below_alloc | apply pw_below_drewN | apply below_drew1) | exact HB.out)⟩
           ·rw [if_neg c32] at H
            have c32b0 : (((rd_T28 t106 x7_2).f0).toList == ((rd_T28 t103 x7_2).f0).toList) = false := beq_eq_false_iff_ne.mpr c32
            have c32b1 : (((rd_T28 t106 x7_2).f0).toList != ((rd_T28 t103 x7_2).f0).toList) = true := bne_iff_ne.mpr c32
            obtain rfl := Option.some.inj H
            obtain ⟨Ao38, co38, eo38⟩ := Kd.R_slice HO_5.out
            subst eo38
            have p113 : 0 ≤ (x7_2 : Int) := of_decide_eq_true (by first | (with_reducible assumption) | assumption)
            have q113 : x7_2 < (t103.length : Int) := of_decide_eq_true (by first | (with_reducible assumption) | assumption)
            obtain ⟨ad113, e113, hx113_0, hx113_1⟩ := at_T28 (Kd.R_reads' HO_5.out).2.2 x7_2 p113 q113
            cases e113
            replace p113 := eq_true p113
            replace q113 := eq_true q113
            obtain ⟨Ao39, co39, eo39⟩ := Kd.R_slice HO_6.out
            subst eo39
            have p117 : 0 ≤ (x7_2 : Int) := of_decide_eq_true (by first | (with_reducible assumption) | assumption)
            have q117 : x7_2 < (t106.length : Int) := of_decide_eq_true (by first | (with_reducible assumption) | assumption)
            obtain ⟨ad117, e117, hx117_0, hx117_1⟩ := at_T28 (Kd.R_reads' HO_6.out).2.2 x7_2 p117 q117
            cases e117
            replace p117 := eq_true p117
            replace q117 := eq_true q117
            have p118 : 0 ≤ (x7_2 : Int) := of_decide_eq_true (by first | (with_reducible assumption) | assumption)
            have q118 : x7_2 < (t103.length : Int) := of_decide_eq_true (by first | (with_reducible assumption) | assumption)
            obtain ⟨ad118, e118, hx118_0, hx118_1⟩ := at_T28 (Kd.R_reads' HO_5.out).2.2 x7_2 p118 q118
            obtain rfl : ad113 = ad118 := (by injection e118)
            replace p118 := eq_true p118
            replace q118 := eq_true q118
            go_wp2
            repeat (go_quiet (fail); try go_wp2)
            go_ret
            exact ⟨by first | rfl | (simp [errW_none, errW_some] <;> rfl) | (simp [*, errW_none, errW_some] <;> rfl), by repeat (first | (with_reducible first | exact HB.out | apply below_alloc | apply pw_below_drewN | apply below_drew1) | exact HB.out)⟩
          ·rw [if_neg c31] at H
           exact absurd H (by simp)
        ·rw [if_neg c20] at H
         exact absurd H (by simp)
       ·rw [if_neg c19] at H
        have c19b0 : decide (x7_2 < (t103.length : Int)) = false := decide_eq_false c19
        clear c19
        replace H := Option.bind_eq_some_iff.mp H
        obtain ⟨t112, A400, H⟩ := H
        replace H : (some t112) = some r := H
        have A40 := Aside0.mk A400
        clear A400
        obtain rfl := Option.some.inj H
        obtain ⟨Ao41, co41, eo41⟩ := Kd.R_slice HO_5.out
        subst eo41
        go_wp2_with (first | (go_at_call 10; (with_reducible refine (remoralaw43_awake.calls  t112 _ A40.out).mono ?_); rintro e w42 ⟨rfl, hb⟩; have n0_ := Aside0.mk (Kd.R_below (by (with_reducible repeat (first | apply Kd.R_alloc | apply Kd.R_drewN | apply Kd.R_drew)); exact HO_5.out) hb); have n1_ := Aside0.mk (Kd.R_below (by (with_reducible repeat (first | apply Kd.R_alloc | apply Kd.R_drewN | apply Kd.R_drew)); exact HO_6.out) hb); have n2_ := Aside0.mk (below_step (by repeat (first | (with_reducible first | exact HB.out | apply below_alloc | apply pw_below_drewN | apply below_drew1) | exact HB.out)) hb); clear HO_5; clear HO_6; clear HB; have HO_5 := n0_; have HO_6 := n1_; have HB := n2_; clear n0_ n1_ n2_; (try clear hb); (try clear hb2); (try clear hk); (try clear hi)))
        repeat (go_quiet (first | (go_at_call 10; (with_reducible refine (remoralaw43_awake.calls  t112 _ A40.out).mono ?_); rintro e w42 ⟨rfl, hb⟩; have n0_ := Aside0.mk (Kd.R_below (by (with_reducible repeat (first | apply Kd.R_alloc | apply Kd.R_drewN | apply Kd.R_drew)); exact HO_5.out) hb); have n1_ := Aside0.mk (Kd.R_below (by (with_reducible repeat (first | apply Kd.R_alloc | apply Kd.R_drewN | apply Kd.R_drew)); exact HO_6.out) hb); have n2_ := Aside0.mk (below_step (by repeat (first | (with_reducible first | exact HB.out | apply below_alloc | apply pw_below_drewN | apply below_drew1) | exact HB.out)) hb); clear HO_5; clear HO_6; clear HB; have HO_5 := n0_; have HO_6 := n1_; have HB := n2_; clear n0_ n1_ n2_; (try clear hb); (try clear hb2); (try clear hk); (try clear hi))); try go_wp2_with (first | (go_at_call 10; (with_reducible refine (remoralaw43_awake.calls  t112 _ A40.out).mono ?_); rintro e w42 ⟨rfl, hb⟩; have n0_ := Aside0.mk (Kd.R_below (by (with_reducible repeat (first | apply Kd.R_alloc | apply Kd.R_drewN | apply Kd.R_drew)); exact HO_5.out) hb); have n1_ := Aside0.mk (Kd.R_below (by (with_reducible repeat (first | apply Kd.R_alloc | apply Kd.R_drewN | apply Kd.R_drew)); exact HO_6.out) hb); have n2_ := Aside0.mk (below_step (by repeat (first | (with_reducible first | exact HB.out | apply below_alloc | apply pw_below_drewN | apply below_drew1) | exact HB.out)) hb); clear HO_5; clear HO_6; clear HB; have HO_5 := n0_; have HO_6 := n1_; have HB := n2_; clear n0_ n1_ n2_; (try clear hb); (try clear hb2); (try clear hk); (try clear hi))))
        go_ret
        exact ⟨by first | rfl | (simp [errW_none, errW_some] <;> rfl) | (simp [*, errW_none, errW_some] <;> rfl), by repeat (first | (with_reducible first | exact HB.out | apply below_alloc | apply pw_below_drewN | apply below_drew1) | exact HB.out)⟩
 ·replace c4 := Bool.eq_false_iff.mpr c4
  subst c4
  have H1 : ((remoralaw43_awake.f).bind fun t102 => (some t102)) = some r := by rw [if_neg (show ¬ (false = true) by decide)] at H; exact H
  clear H
  have H := H1
  clear H1
  replace H := Option.bind_eq_some_iff.mp H
  obtain ⟨t102, A430, H⟩ := H
  replace H : (some t102) = some r := H
  have A43 := Aside0.mk A430
  clear A430
  obtain rfl := Option.some.inj H
  go_enter Try.func3, Try.ntmps3
  go_wp2_with (first | (go_at_call 9; (with_reducible refine (remoralaw43_few.calls _ _ l0 _ _ l1 false _ ?side1 ?side2 ?side3 ?side4 A3.out).mono ?_); (case side1 => repeat (first | exact HR0.out | (with_reducible refine Kd.C_alloc ?_ _) | (with_reducible refine Kd.C_drewN ?_ _) | (with_reducible refine Kd.C_drew ?_))); (case side2 => exact HC0.out); (case side3 => repeat (first | exact HR1.out | (with_reducible refine Kd.C_alloc ?_ _) | (with_reducible refine Kd.C_drewN ?_ _) | (with_reducible refine Kd.C_drew ?_))); (case side4 => exact HC1.out); rintro e w' ⟨rfl, ⟨nd, rfl⟩⟩; (try first | exact ⟨rfl, _, World.drewN_drewN _ _ _⟩ | exact ⟨rfl, _, Eq.trans (World.drewN_drewN _ _ _) (congrArg (World.drewN _) (Nat.add_assoc _ _ _))⟩)) | (go_at_call 10; (with_reducible refine (remoralaw43_awake.calls  t102 _ A43.out).mono ?_); rintro e w44 ⟨rfl, hb⟩; have n0_ := Aside0.mk (below_step (by repeat (first | (with_reducible first | exact HB.out | apply below_alloc | apply pw_below_drewN | apply below_drew1) | exact HB.out)) hb); clear HB; have HB := n0_; clear n0_; (try clear hb); (try clear hb2); (try clear hk); (try clear hi)))
  repeat (go_quiet (first | (go_at_call 9; (with_reducible refine (remoralaw43_few.calls _ _ l0 _ _ l1 false _ ?side1 ?side2 ?side3 ?side4 A3.out).mono ?_); (case side1 => repeat (first | exact HR0.out | (with_reducible refine Kd.C_alloc ?_ _) | (with_reducible refine Kd.C_drewN ?_ _) | (with_reducible refine Kd.C_drew ?_))); (case side2 => exact HC0.out); (case side3 => repeat (first | exact HR1.out | (with_reducible refine Kd.C_alloc ?_ _) | (with_reducible refine Kd.C_drewN ?_ _) | (with_reducible refine Kd.C_drew ?_))); (case side4 => exact HC1.out); rintro e w' ⟨rfl, ⟨nd, rfl⟩⟩; (try first | exact ⟨rfl, _, World.drewN_drewN _ _ _⟩ | exact ⟨rfl, _, Eq.trans (World.drewN_drewN _ _ _) (congrArg (World.drewN _) (Nat.add_assoc _ _ _))⟩)) | (go_at_call 10; (with_reducible refine (remoralaw43_awake.calls  t102 _ A43.out).mono ?_); rintro e w44 ⟨rfl, hb⟩; have n0_ := Aside0.mk (below_step (by repeat (first | (with_reducible first | exact HB.out | apply below_alloc | apply pw_below_drewN | apply below_drew1) | exact HB.out)) hb); clear HB; have HB := n0_; clear n0_; (try clear hb); (try clear hb2); (try clear hk); (try clear hi))); try go_wp2_with (first | (go_at_call 9; (with_reducible refine (remoralaw43_few.calls _ _ l0 _ _ l1 false _ ?side1 ?side2 ?side3 ?side4 A3.out).mono ?_); (case side1 => repeat (first | exact HR0.out | (with_reducible refine Kd.C_alloc ?_ _) | (with_reducible refine Kd.C_drewN ?_ _) | (with_reducible refine Kd.C_drew ?_))); (case side2 => exact HC0.out); (case side3 => repeat (first | exact HR1.out | (with_reducible refine Kd.C_alloc ?_ _) | (with_reducible refine Kd.C_drewN ?_ _) | (with_reducible refine Kd.C_drew ?_))); (case side4 => exact HC1.out); rintro e w' ⟨rfl, ⟨nd, rfl⟩⟩; (try first | exact ⟨rfl, _, World.drewN_drewN _ _ _⟩ | exact ⟨rfl, _, Eq.trans (World.drewN_drewN _ _ _) (congrArg (World.drewN _) (Nat.add_assoc _ _ _))⟩)) | (go_at_call 10; (with_reducible refine (remoralaw43_awake.calls  t102 _ A43.out).mono ?_); rintro e w44 ⟨rfl, hb⟩; have n0_ := Aside0.mk (below_step (by repeat (first | (with_reducible first | exact HB.out | apply below_alloc | apply pw_below_drewN | apply below_drew1) | exact HB.out)) hb); clear HB; have HB := n0_; clear n0_; (try clear hb); (try clear hb2); (try clear hk); (try clear hi))))
  go_ret
  exact ⟨by first | rfl | (simp [errW_none, errW_some] <;> rfl) | (simp [*, errW_none, errW_some] <;> rfl), by repeat (first | (with_reducible first | exact HB.out | apply below_alloc | apply pw_below_drewN | apply below_drew1) | exact HB.out)⟩
end Go.Proofs.Ytodbmagneaiocaa.PA
namespace Go.Proofs.Ytodbmagneaiocaa.PA
open Go.RowKit Go.Proofs.YtodbmagneaiocaaW.PrintWords Go.Proofs.YtodbmagneaiocaaW.PrintLast Go.Proofs.YtodbmagneaiocaaW.PrintMore
attribute [local go_sem] max2_int min2_int max_two min_two max_three min_three max_four min_four   -- for this text's walks alone
set_option linter.unusedVariables false
set_option linter.unusedSimpArgs false
theorem eqA41 (d : Nat) (w : World) (x0 y0 : Int) (x1 y1 : Int) (x2 y2 : Int) (x3 y3 : Int) (x4 y4 : Int) :
  (Op.equalIn (d + 2) 41 (.agg #[.int .i64 x0, .int .i64 x1, .int .i64 x2, .int .i64 x3, .int .i64 x4]) (.agg #[.int .i64 y0, .int .i64 y1, .int .i64 y2, .int .i64 y3, .int .i64 y4])).run Try.prog w = .ok (x0 == y0 && (x1 == y1 && (x2 == y2 && (x3 == y3 && (x4 == y4))))) w := by
 refine eqA_of Try.underlying41 (by kernel_rfl) ?_
 refine eqf_cons (by rfl) (by go_simp; rfl) (by go_simp; rfl) (by go_simp) ?_
 refine eqf_cons (by rfl) (by go_simp; rfl) (by go_simp; rfl) (by go_simp) ?_
 refine eqf_cons (by rfl) (by go_simp; rfl) (by go_simp; rfl) (by go_simp) ?_
 refine eqf_cons (by rfl) (by go_simp; rfl) (by go_simp; rfl) (by go_simp) ?_
 exact eqf_last (by rfl) (by go_simp; rfl) (by go_simp; rfl) (by go_simp)
end Go.Proofs.Ytodbmagneaiocaa.PA
namespace Go.Proofs.Ytodbmagneaiocaa.PA
open Go.RowKit Go.Proofs.YtodbmagneaiocaaW.PrintWords Go.Proofs.YtodbmagneaiocaaW.PrintLast Go.Proofs.YtodbmagneaiocaaW.PrintMore
attribute [local go_sem] max2_int min2_int max_two min_two max_three min_three max_four min_four   -- for this text's walks alone
set_option linter.unusedVariables false
set_option linter.unusedSimpArgs false
theorem eqA43 (d : Nat) (w : World) (x0 y0 : ByteArray) (x1 y1 : Int) (x2 y2 : Int) (x3 y3 : Int) (x4 y4 : Int) (x5 y5 : Int) (x6 y6 : Int) (x7 y7 : Int) (x8 y8 : ByteArray) (x9 y9 : ByteArray) (x10 y10 : Int) :
  (Op.equalIn (d + 3) 43 (.agg #[.string x0, .int .i64 x1, .int .i64 x2, .int .i64 x3, .int .i64 x4, .int .i64 x5, .int .i64 x6, .int .i64 x7, .string x8, .string x9, .int .i64 x10]) (.agg #[.string y0, .int .i64 y1, .int .i64 y2, .int .i64 y3, .int .i64 y4, .int .i64 y5, .int .i64 y6, .int .i64 y7, .string y8, .string y9, .int .i64 y10])).run Try.prog w = .ok (x0.toList == y0.toList && (x1 == y1 && (x2 == y2 && ((x3 == y3 && (x4 == y4 && (x5 == y5 && (x6 == y6 && (x7 == y7))))) && (x8.toList == y8.toList && (x9.toList == y9.toList && (x10 == y10))))))) w := by
 refine eqA_of Try.underlying43 (by kernel_rfl) ?_
 refine eqf_cons (by rfl) (by go_simp; rfl) (by go_simp; rfl) (by go_simp) ?_
 refine eqf_cons (by rfl) (by go_simp; rfl) (by go_simp; rfl) (by go_simp) ?_
 refine eqf_cons (by rfl) (by go_simp; rfl) (by go_simp; rfl) (by go_simp) ?_
 refine eqf_cons (by rfl) (by go_simp) (by go_simp) (eqA41 (d + 0) w _ _ _ _ _ _ _ _ _ _) ?_
 refine eqf_cons (by rfl) (by go_simp; rfl) (by go_simp; rfl) (by go_simp) ?_
 refine eqf_cons (by rfl) (by go_simp; rfl) (by go_simp; rfl) (by go_simp) ?_
 exact eqf_last (by rfl) (by go_simp; rfl) (by go_simp; rfl) (by go_simp)
end Go.Proofs.Ytodbmagneaiocaa.PA
namespace Go.Proofs.Ytodbmagneaiocaa.PA
open Go.RowKit Go.Proofs.YtodbmagneaiocaaW.PrintWords Go.Proofs.YtodbmagneaiocaaW.PrintLast Go.Proofs.YtodbmagneaiocaaW.PrintMore
attribute [local go_sem] max2_int min2_int max_two min_two max_three min_three max_four min_four   -- for this text's walks alone
set_option linter.unusedVariables false
set_option linter.unusedSimpArgs false
attribute [local go_sem high] eqA43
def remoralaw43_same.l0 : Nat → List (S43) → List (S43) → Int → Option (Bool)
 | 0, _, _, _ => none
 | k + 1, x0, x1, x5 => if x5 < (x0.length : Int) then (if 0 ≤ x5 then (if x5 < (x1.length : Int) then (if (!((((rd_T43 x0 x5).f0).toList) == (((rd_T43 x1 x5).f0).toList)) || (!(((rd_T43 x0 x5).f1) == ((rd_T43 x1 x5).f1)) || (!(((rd_T43 x0 x5).f2) == ((rd_T43 x1 x5).f2)) || ((!(((rd_T43 x0 x5).f3.f0) == ((rd_T43 x1 x5).f3.f0)) || (!(((rd_T43 x0 x5).f3.f1) == ((rd_T43 x1 x5).f3.f1)) || (!(((rd_T43 x0 x5).f3.f2) == ((rd_T43 x1 x5).f3.f2)) || (!(((rd_T43 x0 x5).f3.f3) == ((rd_T43 x1 x5).f3.f3)) || (!(((rd_T43 x0 x5).f3.f4) == ((rd_T43 x1 x5).f3.f4))))))) || (!((((rd_T43 x0 x5).f4).toList) == (((rd_T43 x1 x5).f4).toList)) || (!((((rd_T43 x0 x5).f5).toList) == (((rd_T43 x1 x5).f5).toList)) || (!(((rd_T43 x0 x5).f6) == ((rd_T43 x1 x5).f6))))))))) = true then (some false) else (remoralaw43_same.l0 k x0 x1 (wrap64 (x5 + 1)))) else (none)) else (none)) else (some true)
def remoralaw43_same.f (k : Nat) (l0 : List (S43)) (l1 : List (S43)) : Option (Bool) := if (l0.length : Int) = (l1.length : Int) then (remoralaw43_same.l0 k l0 l1 0) else (some false)
set_option maxHeartbeats 8000000 in
set_option maxRecDepth 100000 in
theorem remoralaw43_same.calls (k : Nat) (A0 : Option Addr) (c0 : Nat) (l0 : List (S43)) (A1 : Option Addr) (c1 : Nat) (l1 : List (S43)) (r : Bool) (w : World) (hr0 : Kd.C k43 w A0 l0.length l0) (hc0 : l0.length ≤ c0) (hr1 : Kd.C k43 w A1 l1.length l1) (hc1 : l1.length ≤ c1) (h : remoralaw43_same.f k l0 l1 = some r) :
  Calls Try.prog 14 #[.slice A0 l0.length c0, .slice A1 l1.length c1] w fun e w' => e = .returned (.bool r) ∧ Drawn0 w w' := by
 have hu43 := Try.underlying43
 have HR0 := Aside0.mk hr0
 have HC0 := Aside0.mk hc0
 clear hr0 hc0
 have HR1 := Aside0.mk hr1
 have HC1 := Aside0.mk hc1
 clear hr1 hc1
 have H : (if (l0.length : Int) = (l1.length : Int) then (remoralaw43_same.l0 k l0 l1 0) else (some false)) = some r := h
 clear h
 by_cases c3 : (l0.length : Int) = (l1.length : Int)
 ·rw [if_pos c3] at H
  have c3b0 : ((l0.length : Int) == (l1.length : Int)) = true := beq_iff_eq.mpr c3
  have c3b1 : ((l0.length : Int) != (l1.length : Int)) = false := bne_eq_false_iff_eq.mpr c3
  have c3b2 : (l0.length == l1.length) = true := by first | simpa using c3 | (simp at c3 ⊢; omega)
  clear c3
  have H' := Aside0.mk H
  clear H
  go_enter Try.func14, Try.ntmps14
  go_wp2
  repeat (go_quiet (fail); try go_wp2)
  go_loopg [5] k (fun kq v5 w' => ∃ (x5_1 : Int), v5 = .int .i64 x5_1 ∧ Aside0 (remoralaw43_same.l0 kq l0 l1 x5_1 = some r) ∧ Aside0 (kq ≤ k) ∧ Drawn0 w w')
  case atStart => exact ⟨(0), (by first | rfl | (simp; done) | (simp [*]; done)), H', ⟨Nat.le_refl _⟩, by repeat (first | exact Drawn0.refl _ | apply Drawn0.step)⟩
  case round =>
   clear H'
   try clear c1
   try clear p2
   try clear c3
   try clear c3b0
   try clear c3b1
   try clear c3b2
   obtain ⟨x5_1, rfl, HA, HK1, ⟨m1, rfl⟩⟩ := hrel
   cases gk with
   | zero => exact absurd HA.out (by simp [remoralaw43_same.l0])
   | succ k1 =>
    have H := HA.out
    clear HA
    simp only [remoralaw43_same.l0] at H
    by_cases c4 : x5_1 < (l0.length : Int)
    ·rw [if_pos c4] at H
     have c4b0 : decide (x5_1 < (l0.length : Int)) = true := decide_eq_true c4
     clear c4
     by_cases c5 : 0 ≤ x5_1
     ·rw [if_pos c5] at H
      have c5b0 : decide (0 ≤ x5_1) = true := decide_eq_true c5
      clear c5
      by_cases c6 : x5_1 < (l1.length : Int)
      ·rw [if_pos c6] at H
       have c6b0 : decide (x5_1 < (l1.length : Int)) = true := decide_eq_true c6
       clear c6
       by_cases c7 : (!((((rd_T43 l0 x5_1).f0).toList) == (((rd_T43 l1 x5_1).f0).toList)) || (!(((rd_T43 l0 x5_1).f1) == ((rd_T43 l1 x5_1).f1)) || (!(((rd_T43 l0 x5_1).f2) == ((rd_T43 l1 x5_1).f2)) || ((!(((rd_T43 l0 x5_1).f3.f0) == ((rd_T43 l1 x5_1).f3.f0)) || (!(((rd_T43 l0 x5_1).f3.f1) == ((rd_T43 l1 x5_1).f3.f1)) || (!(((rd_T43 l0 x5_1).f3.f2) == ((rd_T43 l1 x5_1).f3.f2)) || (!(((rd_T43 l0 x5_1).f3.f3) == ((rd_T43 l1 x5_1).f3.f3)) || (!(((rd_T43 l0 x5_1).f3.f4) == ((rd_T43 l1 x5_1).f3.f4))))))) || (!((((rd_T43 l0 x5_1).f4).toList) == (((rd_T43 l1 x5_1).f4).toList)) || (!((((rd_T43 l0 x5_1).f5).toList) == (((rd_T43 l1 x5_1).f5).toList)) || (!(((rd_T43 l0 x5_1).f6) == ((rd_T43 l1 x5_1).f6))))))))) = true
       ·rw [if_pos c7] at H
        have c7b0 : (!((((rd_T43 l0 x5_1).f0).toList) == (((rd_T43 l1 x5_1).f0).toList)) || (!(((rd_T43 l0 x5_1).f1) == ((rd_T43 l1 x5_1).f1)) || (!(((rd_T43 l0 x5_1).f2) == ((rd_T43 l1 x5_1).f2)) || ((!(((rd_T43 l0 x5_1).f3.f0) == ((rd_T43 l1 x5_1).f3.f0)) || (!(((rd_T43 l0 x5_1).f3.f1) == ((rd_T43 l1 x5_1).f3.f1)) || (!(((rd_T43 l0 x5_1).f3.f2) == ((rd_T43 l1 x5_1).f3.f2)) || (!(((rd_T43 l0 x5_1).f3.f3) == ((rd_T43 l1 x5_1).f3.f3)) || (!(((rd_T43 l0 x5_1).f3.f4) == ((rd_T43 l1 x5_1).f3.f4))))))) || (!((((rd_T43 l0 x5_1).f4).toList) == (((rd_T43 l1 x5_1).f4).toList)) || (!((((rd_T43 l0 x5_1).f5).toList) == (((rd_T43 l1 x5_1).f5).toList)) || (!(((rd_T43 l0 x5_1).f6) == ((rd_T43 l1 x5_1).f6))))))))) = true := c7
        clear c7
        obtain rfl := Option.some.inj H
        have p101 : 0 ≤ (x5_1 : Int) := of_decide_eq_true (by first | (with_reducible assumption) | assumption)
        have q101 : x5_1 < (l0.length : Int) := of_decide_eq_true (by first | (with_reducible assumption) | assumption)
        obtain ⟨ad101, e101, hx101_0, hx101_1, hx101_2, hx101_3, hx101_4, hx101_5, hx101_6, hx101_7, hx101_8, hx101_9, hx101_10⟩ := at_T43 HR0.out x5_1 p101 q101
        cases e101
        replace p101 := eq_true p101
        replace q101 := eq_true q101
        have p102 : 0 ≤ (x5_1 : Int) := of_decide_eq_true (by first | (with_reducible assumption) | assumption)
        have q102 : x5_1 < (l1.length : Int) := of_decide_eq_true (by first | (with_reducible assumption) | assumption)
        obtain ⟨ad102, e102, hx102_0, hx102_1, hx102_2, hx102_3, hx102_4, hx102_5, hx102_6, hx102_7, hx102_8, hx102_9, hx102_10⟩ := at_T43 HR1.out x5_1 p102 q102
        cases e102
        replace p102 := eq_true p102
        replace q102 := eq_true q102
        go_wp2
        repeat (go_quiet (fail); try go_wp2)
        go_ret
        exact ⟨by first | rfl | (simp; done) | (simp [*]; done), by repeat (first | exact Drawn0.refl _ | apply Drawn0.step)⟩
       ·rw [if_neg c7] at H
        have c7b0 : (!((((rd_T43 l0 x5_1).f0).toList) == (((rd_T43 l1 x5_1).f0).toList)) || (!(((rd_T43 l0 x5_1).f1) == ((rd_T43 l1 x5_1).f1)) || (!(((rd_T43 l0 x5_1).f2) == ((rd_T43 l1 x5_1).f2)) || ((!(((rd_T43 l0 x5_1).f3.f0) == ((rd_T43 l1 x5_1).f3.f0)) || (!(((rd_T43 l0 x5_1).f3.f1) == ((rd_T43 l1 x5_1).f3.f1)) || (!(((rd_T43 l0 x5_1).f3.f2) == ((rd_T43 l1 x5_1).f3.f2)) || (!(((rd_T43 l0 x5_1).f3.f3) == ((rd_T43 l1 x5_1).f3.f3)) || (!(((rd_T43 l0 x5_1).f3.f4) == ((rd_T43 l1 x5_1).f3.f4))))))) || (!((((rd_T43 l0 x5_1).f4).toList) == (((rd_T43 l1 x5_1).f4).toList)) || (!((((rd_T43 l0 x5_1).f5).toList) == (((rd_T43 l1 x5_1).f5).toList)) || (!(((rd_T43 l0 x5_1).f6) == ((rd_T43 l1 x5_1).f6))))))))) = false := by simpa using c7
        clear c7
        have H' := Aside0.mk H
        clear H
        have p101 : 0 ≤ (x5_1 : Int) := of_decide_eq_true (by first | (with_reducible assumption) | assumption)
        have q101 : x5_1 < (l0.length : Int) := of_decide_eq_true (by first | (with_reducible assumption) | assumption)
        obtain ⟨ad101, e101, hx101_0, hx101_1, hx101_2, hx101_3, hx101_4, hx101_5, hx101_6, hx101_7, hx101_8, hx101_9, hx101_10⟩ := at_T43 HR0.out x5_1 p101 q101
        cases e101
        replace p101 := eq_true p101
        replace q101 := eq_true q101
        have p102 : 0 ≤ (x5_1 : Int) := of_decide_eq_true (by first | (with_reducible assumption) | assumption)
        have q102 : x5_1 < (l1.length : Int) := of_decide_eq_true (by first | (with_reducible assumption) | assumption)
        obtain ⟨ad102, e102, hx102_0, hx102_1, hx102_2, hx102_3, hx102_4, hx102_5, hx102_6, hx102_7, hx102_8, hx102_9, hx102_10⟩ := at_T43 HR1.out x5_1 p102 q102
        cases e102
        replace p102 := eq_true p102
        replace q102 := eq_true q102
        go_wp2
        repeat (go_quiet (fail); try go_wp2)
        go_roundg k1
        case measure => have := HK1.out; omega
        case rel => exact ⟨(wrap64 (x5_1 + 1)), (by first | rfl | (simp; done) | (simp [*]; done)), H', ⟨by have := HK1.out; omega⟩, by repeat (first | exact Drawn0.refl _ | apply Drawn0.step)⟩
      ·rw [if_neg c6] at H
       exact absurd H (by simp)
     ·rw [if_neg c5] at H
      exact absurd H (by simp)
    ·rw [if_neg c4] at H
     have c4b0 : decide (x5_1 < (l0.length : Int)) = false := decide_eq_false c4
     clear c4
     obtain rfl := Option.some.inj H
     go_wp2
     repeat (go_quiet (fail); try go_wp2)
     go_ret
     exact ⟨by first | rfl | (simp; done) | (simp [*]; done), by repeat (first | exact Drawn0.refl _ | apply Drawn0.step)⟩
 ·rw [if_neg c3] at H
  have c3b0 : ((l0.length : Int) == (l1.length : Int)) = false := beq_eq_false_iff_ne.mpr c3
  have c3b1 : ((l0.length : Int) != (l1.length : Int)) = true := bne_iff_ne.mpr c3
  have c3b2 : (l0.length == l1.length) = false := by first | simpa using c3 | (simp at c3 ⊢; omega)
  obtain rfl := Option.some.inj H
  go_enter Try.func14, Try.ntmps14
  go_wp2
  repeat (go_quiet (fail); try go_wp2)
  go_ret
  exact ⟨by first | rfl | (simp; done) | (simp [*]; done), by repeat (first | exact Drawn0.refl _ | apply Drawn0.step)⟩
end Go.Proofs.Ytodbmagneaiocaa.PA
namespace Go.Proofs.Ytodbmagneaiocaa.PA
open Go.RowKit Go.Proofs.YtodbmagneaiocaaW.PrintWords Go.Proofs.YtodbmagneaiocaaW.PrintLast Go.Proofs.YtodbmagneaiocaaW.PrintMore
attribute [local go_sem] max2_int min2_int max_two min_two max_three min_three max_four min_four
set_option linter.unusedVariables false
set_option linter.unusedSimpArgs false
def KL (u v : List S43) : List ByteArray := keysL (fstL u) (fstL v)
def bec (u v : List S43) (p : ByteArray) : Int := becameI (findE p u) (findE p v)
def chg (l : List S28) (p : ByteArray) : Bool := l.any (fun c => decide (c.f0 = p))
theorem K_sort (u v : List S43) : (KL u v).Pairwise (fun p q => ltB p q = true) := keys_sort (fst_ss u) (fst_ss v)
theorem has_find (p : ByteArray) (l : List S43) : (∃ x ∈ fstL l, x.f0 = p) ↔ findE p l ≠ none := by
 rw [← fst_find p l]
 constructor
 ·intro h e
  obtain ⟨x, hx⟩ := find_some h
  rw [hx] at e
  cases e
 ·intro h
  cases hf : findE p (fstL l) with
  | none => exact absurd hf h
  | some x => exact ⟨x, find_mem hf, find_path hf⟩
theorem inK (u v : List S43) (p : ByteArray) : p ∈ KL u v ↔ findE p u ≠ none ∨ findE p v ≠ none := by
 unfold KL
 rw [keys_mem (fst_ss u) (fst_ss v)]
 unfold hasK
 rw [has_find, has_find]
theorem K_swap (u v : List S43) : KL u v = KL v u := keys_unique _ _ (K_sort u v) (K_sort v u) (fun p => by rw [inK, inK]; exact Or.comm)
theorem flat_congr {α β : Type} {f g : α → List β} : ∀ {l : List α}, (∀ x ∈ l, f x = g x) → l.flatMap f = l.flatMap g
 | [], _ => rfl
 | x :: l, h => by rw [List.flatMap_cons, List.flatMap_cons, h x (by simp), flat_congr (fun y hy => h y (List.mem_cons_of_mem _ hy))]
theorem both_form {β : Type} (u v : List S43) (f : Option S43 × Option S43 → List β) : (bothL (firstL (sortS u)) (firstL (sortS v))).flatMap f = (KL u v).flatMap (fun p => f (findE p u, findE p v)) := by
 refine (both_flat (fst_ss u) (fst_ss v) f).trans (flat_congr (fun p _ => ?_))
 rw [fst_find, fst_find]
theorem path_key {u v : List S43} {p : ByteArray} (h : p ∈ KL u v) : pathE (findE p u, findE p v) = p := by
 cases hu : findE p u with
 | some x => exact find_path hu
 | none =>
  cases hv : findE p v with
  | some y => exact find_path hv
  | none =>
   rw [inK, hu, hv] at h
   simp at h
theorem since_form (u v : List S43) : sinceL u v = (KL u v).flatMap (fun p => if bec u v p = 0 then [] else [(⟨p, bec u v p⟩ : S28)]) := by
 refine (both_form u v sinceE).trans (flat_congr (fun p hp => ?_))
 unfold sinceE bec
 rw [path_key hp]
def gC (u v : List S43) (p : ByteArray) : Option S43 := if bec u v p = 0 then findE p u else none
theorem common_form (u v : List S43) : commonL u v = (KL u v).flatMap (fun p => (gC u v p).toList) := by
 refine (both_form u v commonE).trans (flat_congr (fun p hp => ?_))
 unfold commonE gC bec
 by_cases h : becameI (findE p u) (findE p v) = 0
 ·rw [if_pos h, if_pos h]
 ·rw [if_neg h, if_neg h]
  rfl
def gA (u v : List S43) (l : List S28) (p : ByteArray) : Option S43 := if chg l p = true then findE p v else findE p u
theorem apply_form (u v : List S43) (l : List S28) : applyL u v l = (KL u v).flatMap (fun p => (gA u v l p).toList) := by
 refine (both_form u v (applyE l)).trans (flat_congr (fun p hp => ?_))
 unfold applyE gA chg
 rw [path_key hp]
 split <;> rfl
theorem gA_path (u v : List S43) (l : List S28) (p : ByteArray) (x : S43) (h : gA u v l p = some x) : x.f0 = p := by
 unfold gA at h
 split at h
 ·exact find_path h
 ·exact find_path h
theorem apply_ss (u v : List S43) (l : List S28) : SS (applyL u v l) := by
 rw [apply_form]
 exact flat_ss (K_sort u v) (gA_path u v l)
theorem apply_find (u v : List S43) (l : List S28) (q : ByteArray) : findE q (applyL u v l) = if chg l q = true then findE q v else findE q u := by
 rw [apply_form]
 refine flat_find (K_sort u v) (gA_path u v l) q (fun hq => ?_)
 have h1 : findE q u = none := Classical.byContradiction fun h => hq ((inK u v q).2 (Or.inl h))
 have h2 : findE q v = none := Classical.byContradiction fun h => hq ((inK u v q).2 (Or.inr h))
 unfold gA
 rw [h1, h2]
 split <;> rfl
theorem both_len : ∀ (n : Nat) (a b : List S43), a.length + b.length ≤ n → (bothL a b).length ≤ a.length + b.length := by
 intro n
 induction n with
 | zero =>
  intro a b hn
  obtain rfl : a = [] := List.eq_nil_of_length_eq_zero (by omega)
  obtain rfl : b = [] := List.eq_nil_of_length_eq_zero (by omega)
  rw [bothP_nil]
  exact Nat.le_refl _
 | succ n ih =>
  intro a b hn
  cases a with
  | nil =>
   cases b with
   | nil => rw [bothP_nil]; exact Nat.le_refl _
   | cons y b =>
    have := ih [] b (by simp at hn ⊢; omega)
    rw [bothP_b]
    simp at this ⊢
    omega
  | cons x a =>
   cases b with
   | nil =>
    have := ih a [] (by simp at hn ⊢; omega)
    rw [bothP_a]
    simp at this ⊢
    omega
   | cons y b =>
    rw [bothP_two]
    split
    ·have := ih a (y :: b) (by simp at hn ⊢; omega)
     simp at this ⊢
     omega
    ·split
     ·have := ih (x :: a) b (by simp at hn ⊢; omega)
      simp at this ⊢
      omega
     ·have := ih a b (by simp at hn ⊢; omega)
      simp at this ⊢
      omega
theorem fst_len (l : List S43) : (fstL l).length ≤ l.length := by
 have := firstL_len (sortS l)
 rw [(sortS_ok l).1.len] at this
 exact this
theorem K_len (u v : List S43) : (KL u v).length ≤ u.length + v.length := by
 unfold KL keysL
 rw [List.length_map]
 have := both_len _ (fstL u) (fstL v) (Nat.le_refl _)
 have h1 := fst_len u
 have h2 := fst_len v
 omega
theorem flat_len1 {α β : Type} {f : α → List β} (hf : ∀ x, (f x).length ≤ 1) : ∀ l : List α, (l.flatMap f).length ≤ l.length
 | [] => Nat.le_refl _
 | x :: l => by
  rw [List.flatMap_cons, List.length_append, List.length_cons]
  have := hf x
  have := flat_len1 hf l
  omega
theorem opt_len (o : Option S43) : o.toList.length ≤ 1 := by cases o <;> simp
theorem key_size {u v : List S43} (hu : ∀ y ∈ u, y.f0.size ≤ 1048576) (hv : ∀ y ∈ v, y.f0.size ≤ 1048576) {p : ByteArray} (h : p ∈ KL u v) : p.size ≤ 1048576 := by
 rcases (inK u v p).1 h with h | h
 ·cases hf : findE p u with
  | none => exact absurd hf h
  | some x =>
   have := hu x (find_mem hf)
   rwa [find_path hf] at this
 ·cases hf : findE p v with
  | none => exact absurd hf h
  | some x =>
   have := hv x (find_mem hf)
   rwa [find_path hf] at this
theorem since_mem {u v : List S43} {x : S28} (h : x ∈ sinceL u v) : x.f0 ∈ KL u v ∧ x.f1 = bec u v x.f0 ∧ x.f1 ≠ 0 := by
 rw [since_form] at h
 obtain ⟨p, hp, hx⟩ := List.mem_flatMap.1 h
 by_cases h0 : bec u v p = 0
 ·rw [if_pos h0] at hx
  cases hx
 ·rw [if_neg h0] at hx
  rw [List.mem_singleton.1 hx]
  exact ⟨hp, rfl, h0⟩
theorem since_ok {u v : List S43} (hu : ∀ y ∈ u, y.f0.size ≤ 1048576) (hv : ∀ y ∈ v, y.f0.size ≤ 1048576) : (sinceL u v).length ≤ u.length + v.length ∧ ∀ y ∈ sinceL u v, y.f0.size ≤ 1048576 := by
 refine ⟨?_, fun y hy => key_size hu hv (since_mem hy).1⟩
 rw [since_form]
 refine Nat.le_trans (flat_len1 (fun p => ?_) _) (K_len u v)
 split
 ·exact Nat.zero_le _
 ·exact Nat.le_refl _
theorem apply_ok {u v : List S43} (l : List S28) (hu : ∀ y ∈ u, y.f0.size ≤ 1048576) (hv : ∀ y ∈ v, y.f0.size ≤ 1048576) : (applyL u v l).length ≤ u.length + v.length ∧ ∀ y ∈ applyL u v l, y.f0.size ≤ 1048576 := by
 constructor
 ·rw [apply_form]
  exact Nat.le_trans (flat_len1 (fun p => opt_len _) _) (K_len u v)
 ·intro y hy
  rw [apply_form] at hy
  obtain ⟨p, hp, hx⟩ := List.mem_flatMap.1 hy
  cases hg : gA u v l p with
  | none => rw [hg] at hx; cases hx
  | some z =>
   rw [hg] at hx
   rw [List.mem_singleton.1 hx, gA_path u v l p z hg]
   exact key_size hu hv hp
theorem common_len (u v : List S43) : (commonL u v).length ≤ u.length + v.length := by
 rw [common_form]
 exact Nat.le_trans (flat_len1 (fun p => opt_len _) _) (K_len u v)
theorem mEq_comm (a b : S41) : mEq a b = mEq b a := by
 unfold mEq
 rw [Bool.beq_comm (a := a.f0), Bool.beq_comm (a := a.f1), Bool.beq_comm (a := a.f2), Bool.beq_comm (a := a.f3), Bool.beq_comm (a := a.f4)]
theorem mEq_self (a : S41) : mEq a a = true := by simp [mEq]
theorem bec_self (x : S43) : becameI (some x) (some x) = 0 := by
 rw [became_eq, if_neg (by simp), if_pos (mEq_self _)]
theorem bec_range (x y : Option S43) : 0 ≤ becameI x y ∧ becameI x y ≤ 4 := by
 cases x with
 | none => exact ⟨show (0 : Int) ≤ 1 by decide, show (1 : Int) ≤ 4 by decide⟩
 | some x =>
  cases y with
  | none => exact ⟨show (0 : Int) ≤ 2 by decide, show (2 : Int) ≤ 4 by decide⟩
  | some y =>
   rw [became_eq]
   split
   ·exact ⟨by decide, by decide⟩
   ·split <;> exact ⟨by decide, by decide⟩
theorem bec_comm (x y : S43) : becameI (some x) (some y) = becameI (some y) (some x) ∧ becameI (some x) (some y) ≠ 1 ∧ becameI (some x) (some y) ≠ 2 := by
 rw [became_eq, became_eq, mEq_comm]
 refine ⟨?_, ?_, ?_⟩
 ·have hc : (x.f1 ≠ y.f1 ∨ (x.f1 = 1 ∧ (x.f2 ≠ y.f2 ∨ x.f5 ≠ y.f5)) ∨ (x.f1 = 3 ∧ x.f4 ≠ y.f4)) ↔ (y.f1 ≠ x.f1 ∨ (y.f1 = 1 ∧ (y.f2 ≠ x.f2 ∨ y.f5 ≠ x.f5)) ∨ (y.f1 = 3 ∧ y.f4 ≠ x.f4)) := by
   by_cases h : x.f1 = y.f1
   ·rw [h, ne_comm (a := x.f2), ne_comm (a := x.f5), ne_comm (a := x.f4)]
   ·exact ⟨fun _ => Or.inl (fun e => h e.symm), fun _ => Or.inl h⟩
  by_cases h : (x.f1 ≠ y.f1 ∨ (x.f1 = 1 ∧ (x.f2 ≠ y.f2 ∨ x.f5 ≠ y.f5)) ∨ (x.f1 = 3 ∧ x.f4 ≠ y.f4))
  ·rw [if_pos h, if_pos (hc.1 h)]
  ·rw [if_neg h, if_neg (fun e => h (hc.2 e))]
 ·split
  ·decide
  ·split <;> decide
 ·split
  ·decide
  ·split <;> decide
def turnI (n : Int) : Int := if n = 0 then 0 else if n < 3 then 3 - n else n
theorem bec_turn (u v : List S43) (p : ByteArray) (h : p ∈ KL u v) : bec v u p = turnI (bec u v p) := by
 unfold bec
 cases hu : findE p u with
 | none =>
  cases hv : findE p v with
  | none =>
   rw [inK, hu, hv] at h
   simp at h
  | some y => rfl
 | some x =>
  cases hv : findE p v with
  | none => rfl
  | some y =>
   obtain ⟨h1, h2, h3⟩ := bec_comm x y
   have h4 := bec_range (some x) (some y)
   rw [← h1]
   unfold turnI
   by_cases h0 : becameI (some x) (some y) = 0
   ·rw [if_pos h0, h0]
   ·rw [if_neg h0, if_neg (by omega)]
def turnC (c : S28) : S28 := ⟨c.f0, if c.f1 < 3 then 3 - c.f1 else c.f1⟩
theorem since_turn (u v : List S43) : sinceL v u = (sinceL u v).map turnC := by
 rw [since_form, since_form, K_swap v u, List.map_flatMap]
 refine flat_congr (fun p hp => ?_)
 have h := bec_turn u v p hp
 unfold turnI at h
 have hr := bec_range (findE p u) (findE p v)
 have hr : 0 ≤ bec u v p ∧ bec u v p ≤ 4 := hr
 by_cases h0 : bec u v p = 0
 ·rw [if_pos h0] at h
  rw [if_pos h, if_pos h0]
  rfl
 ·rw [if_neg h0] at h
  rw [if_neg h0, if_neg (by rw [h]; split <;> omega)]
  show [(⟨p, bec v u p⟩ : S28)] = [⟨p, if bec u v p < 3 then 3 - bec u v p else bec u v p⟩]
  rw [h]
theorem since_self (u : List S43) : sinceL u u = [] := by
 rw [since_form]
 refine List.flatMap_eq_nil_iff.2 (fun p hp => ?_)
 have h : bec u u p = 0 := by
  unfold bec
  cases hu : findE p u with
  | none => rw [inK, hu] at hp; simp at hp
  | some x => exact bec_self x
 rw [if_pos h]
theorem rd28 (L : List S28) (i : Nat) (h : i < L.length) : rd_T28 L (i : Int) = L[i] := by simp [rd_T28, rdOf, h]
theorem same_l (L : List S43) (hL : L.length ≤ 1000000) : ∀ (m i k : Nat), L.length - i = m → i ≤ L.length → m + 1 ≤ k → remoralaw43_same.l0 k L L (i : Int) = some true := by
 intro m
 induction m with
 | zero =>
  intro i k hm hi hk
  obtain ⟨k, rfl⟩ : ∃ j, k = j + 1 := ⟨k - 1, by omega⟩
  rw [remoralaw43_same.l0, if_neg (by omega)]
 | succ m ih =>
  intro i k hm hi hk
  obtain ⟨k, rfl⟩ : ∃ j, k = j + 1 := ⟨k - 1, by omega⟩
  rw [remoralaw43_same.l0, if_pos (by omega), if_pos (by omega), if_pos (by omega), if_neg (by simp only [beq_self_eq_true, Bool.not_true, Bool.or_false]; decide), wrapE i (by omega)]
  exact ih (i + 1) k (by omega) (by omega) (by omega)
theorem same43 (L : List S43) (hL : L.length ≤ 1000000) (k : Nat) (hk : 1000001 ≤ k) : remoralaw43_same.f k L L = some true := by
 unfold remoralaw43_same.f
 rw [if_pos rfl]
 exact same_l L hL L.length 0 k (by omega) (by omega) (by omega)
end Go.Proofs.Ytodbmagneaiocaa.PA
namespace Go.Proofs.Ytodbmagneaiocaa.PA
open Go.RowKit Go.Proofs.YtodbmagneaiocaaW.PrintWords Go.Proofs.YtodbmagneaiocaaW.PrintLast Go.Proofs.YtodbmagneaiocaaW.PrintMore
attribute [local go_sem] max2_int min2_int max_two min_two max_three min_three max_four min_four
set_option linter.unusedVariables false
set_option linter.unusedSimpArgs false
theorem few_f (a b : List S43) : remoralaw43_few.f a b = some (decide (a.length ≤ 60) && decide (b.length ≤ 60)) := by
 unfold remoralaw43_few.f
 by_cases h : a.length ≤ 60
 ·rw [if_pos (by omega), decide_eq_true h, Bool.true_and]
  congr 1
  by_cases h2 : b.length ≤ 60
  ·rw [decide_eq_true h2, decide_eq_true (by omega)]
  ·rw [decide_eq_false h2, decide_eq_false (by omega)]
 ·rw [if_neg (by omega), decide_eq_false h, Bool.false_and]
theorem turns_l (l : List S28) (hl : l.length ≤ 1000) (hr : ∀ c ∈ l, 0 ≤ c.f1 ∧ c.f1 ≤ 4) : ∀ (n i k : Nat), l.length - i = n → i ≤ l.length → n + 1 ≤ k → remoralaw43_ArchTurns.l0 k l (l.map turnC) (i : Int) = some true := by
 intro n
 induction n with
 | zero =>
  intro i k hn hi hk
  obtain ⟨k, rfl⟩ : ∃ j, k = j + 1 := ⟨k - 1, by omega⟩
  rw [remoralaw43_ArchTurns.l0, if_neg (by omega)]
  rfl
 | succ n ih =>
  intro i k hn hi hk
  obtain ⟨k, rfl⟩ : ∃ j, k = j + 1 := ⟨k - 1, by omega⟩
  have hlt : i < l.length := by omega
  have hml : (l.map turnC).length = l.length := List.length_map _
  have h4 := hr l[i] (List.getElem_mem hlt)
  have e1 : rd_T28 (l.map turnC) (i : Int) = turnC l[i] := by rw [rd28 _ i (by omega), List.getElem_map]
  rw [remoralaw43_ArchTurns.l0, if_pos (by omega), if_pos (by omega), rd28 l i hlt, e1, hml, wrapE i (by omega)]
  have := ih (i + 1) k (by omega) (by omega) (by omega)
  by_cases h3 : (l[i]).f1 < 3
  ·rw [if_pos h3, if_pos (by omega), if_pos (show (turnC l[i]).f0.toList = (l[i]).f0.toList from rfl), if_pos (by show (if (l[i]).f1 < 3 then 3 - (l[i]).f1 else (l[i]).f1) = _; rw [if_pos h3, wr64 _ (by omega) (by omega)])]
   exact this
  ·rw [if_neg h3, if_pos (by omega), if_pos (show (turnC l[i]).f0.toList = (l[i]).f0.toList from rfl), if_pos (by show (if (l[i]).f1 < 3 then 3 - (l[i]).f1 else (l[i]).f1) = _; rw [if_neg h3])]
   exact this
theorem archTurns_f (a b : List S43) (ha : ∀ y ∈ a, y.f0.size ≤ 1048576) (hb : ∀ y ∈ b, y.f0.size ≤ 1048576) : ∃ k, remoralaw43_ArchTurns.f k a b = some true := by
 refine ⟨2000, ?_⟩
 unfold remoralaw43_ArchTurns.f
 rw [few_f, Option.bind_some]
 by_cases h : (decide (a.length ≤ 60) && decide (b.length ≤ 60)) = true
 ·rw [if_pos h]
  simp only [Bool.and_eq_true, decide_eq_true_eq] at h
  have oa : okL43 a := ⟨by omega, ha⟩
  have ob : okL43 b := ⟨by omega, hb⟩
  have hs := since_ok ha hb
  rw [arch_Since.f, if_pos ⟨oa, ob⟩, Option.bind_some, arch_Since.f, if_pos ⟨ob, oa⟩, Option.bind_some, arch_Since.f, if_pos ⟨oa, oa⟩, Option.bind_some, since_self, if_pos (show (([] : List S28).length : Int) = 0 from rfl), since_turn a b]
  have hne : (((sinceL a b).length : Int) != (((sinceL a b).map turnC).length : Int)) = false := by rw [List.length_map]; exact bne_eq_false_iff_eq.2 rfl
  rw [hne, remoralaw43_ArchTurns.j0, if_neg (by decide)]
  refine turns_l _ (by omega) (fun c hc => ?_) _ 0 1999 rfl (Nat.zero_le _) (by omega)
  rw [(since_mem hc).2.1]
  exact bec_range _ _
 ·rw [if_neg h]
  rfl
end Go.Proofs.Ytodbmagneaiocaa.PA
namespace Go.Proofs.Ytodbmagneaiocaa.PA
open Go.RowKit Go.Proofs.YtodbmagneaiocaaW.PrintWords Go.Proofs.YtodbmagneaiocaaW.PrintLast Go.Proofs.YtodbmagneaiocaaW.PrintMore
attribute [local go_sem] max2_int min2_int max_two min_two max_three min_three max_four min_four
set_option linter.unusedVariables false
set_option linter.unusedSimpArgs false
theorem bulk_pos {H : Type} : ∀ d : DataW H, 1 ≤ Rows.uptoBulk d
 | .lit (.string b) => by simp [Rows.uptoBulk]
 | .lit (.int _ _) => by simp [Rows.uptoBulk]
 | .lit (.bool _) => by simp [Rows.uptoBulk]
 | .lit (.float _ _) => by simp [Rows.uptoBulk]
 | .lit .nil => by simp [Rows.uptoBulk]
 | .nil => by simp [Rows.uptoBulk]
 | .ptr d => by simp [Rows.uptoBulk]
 | .slice _ _ => by simp [Rows.uptoBulk]
 | .agg _ => by simp [Rows.uptoBulk]
 | .iface _ _ => by simp [Rows.uptoBulk]
 | .map _ => by simp [Rows.uptoBulk]
 | .held _ => by simp [Rows.uptoBulk]
theorem bulk_len {H : Type} : ∀ l : List (DataW H), l.length ≤ Rows.uptoBulkAll l
 | [] => by simp [Rows.uptoBulkAll]
 | d :: r => by
  have h1 := bulk_pos d
  have h2 := bulk_len r
  simp only [List.length_cons, Rows.uptoBulkAll]
  omega
theorem bulk_mem {H : Type} : ∀ (l : List (DataW H)) (d : DataW H), d ∈ l → Rows.uptoBulk d ≤ Rows.uptoBulkAll l
 | [], d, h => by simp at h
 | e :: r, d, h => by
  simp only [Rows.uptoBulkAll]
  rcases List.mem_cons.1 h with rfl | h
  ·omega
  ·have := bulk_mem r d h
   omega
structure Opn {α : Type} (P : Program) (t : TypeId) (d : Kd α) (wf : Nat → α → Prop) : Prop where
 sz : d.sz = P.cellsOf t
 mono : ∀ n m a, n ≤ m → wf n a → wf m a
 op : ∀ {H : Type} (enc : TypeId × Value → H) (w : World) (base : Nat) (spare : Nat → Bool) (held : Bool) (fuel : Nat) (cs : List Value) (x : DataW H × List MemPlace), DataW.trod enc P w base spare held fuel t cs = some x → ∃ a, d.K w a cs ∧ wf (Rows.uptoBulk x.1) a
section
variable {P : Program} {t : TypeId}
theorem opn_int {k : IntKind} (ht : P.underlying t = some (.int k)) (hs : P.cellsOf t = 1) : Opn P t (Kd.int k) (fun _ a => (Lit.int k a).wf = true) where
 sz := hs.symm
 mono := fun _ _ _ _ h => h
 op := fun enc w base spare held fuel cs x h => by
  obtain ⟨n, rfl, rfl, hw⟩ := DataW.trod_int ht h
  exact ⟨n, rfl, hw⟩
theorem opn_bool (ht : P.underlying t = some .bool) (hs : P.cellsOf t = 1) : Opn P t Kd.bool (fun _ _ => True) where
 sz := hs.symm
 mono := fun _ _ _ _ h => h
 op := fun enc w base spare held fuel cs x h => by
  obtain ⟨n, rfl, rfl⟩ := DataW.trod_bool ht h
  exact ⟨n, rfl, trivial⟩
theorem opn_string (ht : P.underlying t = some .string) (hs : P.cellsOf t = 1) : Opn P t Kd.string (fun n s => s.size < n ∧ s.size ≤ maxLen) where
 sz := hs.symm
 mono := fun _ _ _ h h' => ⟨Nat.lt_of_lt_of_le h'.1 h, h'.2⟩
 op := fun enc w base spare held fuel cs x h => by
  obtain ⟨s, rfl, rfl, hw⟩ := DataW.trod_string ht h
  refine ⟨s, rfl, ?_, hw⟩
  simp [Rows.uptoBulk]
theorem cells_get {w : World} {base : Nat} {a : Addr} {n : Nat} {cs : List Value} (h : w.cells? base a n = some cs) : cs.length = n ∧ ∀ i u, cs[i]? = some u → w.cell? (a.add i) = some u := by
 unfold World.cells? at h
 split at h
 ·refine ⟨by simpa using mapM_some_length h, fun i u hu => ?_⟩
  have hl := mapM_some_length h
  have hi : i < cs.length := (List.getElem?_eq_some_iff.1 hu).1
  have := mapM_some_get h i i (by rw [List.getElem?_range]; simp at hl; omega)
  rw [this, hu]
 ·cases h
theorem add_add (a : Addr) (i j : Nat) : (a.add i).add j = a.add (i + j) := by
 unfold Addr.add
 by_cases hi : i = 0 <;> by_cases hj : j = 0 <;> simp [hi, hj, Nat.add_assoc]
theorem opn_slice {α : Type} {e : TypeId} {d : Kd α} {wf : Nat → α → Prop} (ht : P.underlying t = some (.slice e)) (hs : P.cellsOf t = 1) (O : Opn P e d wf) :
  Opn P t (Kd.slice e d) (fun n xs => xs.length < n ∧ ∀ a ∈ xs, wf n a) where
 sz := hs.symm
 mono := fun n m a h h' => ⟨Nat.lt_of_lt_of_le h'.1 h, fun x hx => O.mono n m x h (h'.2 x hx)⟩
 op := fun enc w base spare held fuel cs x h => by
  rcases DataW.trod_slice ht h with ⟨rfl, rfl⟩ | ⟨a, len, cap, elems, rest, n, _, rfl, rfl, hb, hl, hm, hlen, hel, hsp, hns⟩
  ·exact ⟨[], ⟨none, 0, rfl, Nat.le_refl _, Kd.C_nil _ _⟩, by simp [Rows.uptoBulk], by simp⟩
  ·have each : ∀ i, i < len → ∃ y, elems[i]? = some y ∧ ∃ cs', w.cells? base (a.add (i * P.cellsOf e)) (P.cellsOf e) = some cs' ∧ ∃ v, d.K w v cs' ∧ wf (Rows.uptoBulk y.1) v := by
    intro i hi
    have h1 := hel i hi
    have h2 : elems[i]? = some (elems[i]'(by omega)) := List.getElem?_eq_getElem (by omega)
    rw [h2, Option.bind_eq_some_iff] at h1
    obtain ⟨cs', hc, ht'⟩ := h1
    obtain ⟨v, hv, hw⟩ := O.op enc w base spare held n cs' _ ht'
    exact ⟨_, h2, cs', hc, v, hv, hw⟩
   have ex : ∀ m, m ≤ len → ∃ xs : List α, xs.length = m ∧ ∀ i v, xs[i]? = some v → ∃ y, elems[i]? = some y ∧ ∃ cs', w.cells? base (a.add (i * P.cellsOf e)) (P.cellsOf e) = some cs' ∧ d.K w v cs' ∧ wf (Rows.uptoBulk y.1) v := by
    intro m
    induction m with
    | zero => exact fun _ => ⟨[], rfl, by simp⟩
    | succ m ih =>
     intro hm'
     obtain ⟨xs, hx, hg⟩ := ih (by omega)
     obtain ⟨y, hy, cs', hc, v, hv, hw⟩ := each m (by omega)
     refine ⟨xs ++ [v], by simp [hx], fun i u hu => ?_⟩
     by_cases hi : i < xs.length
     ·rw [List.getElem?_append_left hi] at hu
      exact hg i u hu
     ·rw [List.getElem?_append_right (by omega)] at hu
      have hi' : i = m := by
       have := (List.getElem?_eq_some_iff.1 hu).1
       simp at this
       omega
      subst hi'
      rw [hx, Nat.sub_self] at hu
      have : v = u := by simpa using hu
      subst this
      exact ⟨y, hy, cs', hc, hv, hw⟩
   obtain ⟨xs, hx, hg⟩ := ex len (Nat.le_refl _)
   have htot : Rows.uptoBulkAll (elems.map (·.1)) + 1 ≤ Rows.uptoBulk (DataW.slice (elems.map (·.1)) (rest.map (·.1))) := by
    simp only [Rows.uptoBulk]
    omega
   refine ⟨xs, ⟨some a, cap, by rw [hx], by omega, ⟨rfl, by unfold maxLen at hm; omega, fun _ => ⟨a, rfl, fun j p hp => ?_⟩⟩⟩, ?_, ?_⟩
   ·obtain ⟨y, hy, cs', hc, hk, hw⟩ := hg j p hp
    obtain ⟨g1, g2⟩ := cells_get hc
    refine ⟨cs', by rw [g1, O.sz], hk, fun i u hu => ?_⟩
    have := g2 i u hu
    rw [add_add] at this
    rw [O.sz]
    exact this
   ·have h1 := bulk_len (elems.map (·.1))
    simp only [List.length_map, hlen] at h1
    rw [hx]
    exact Nat.lt_of_lt_of_le (Nat.lt_succ_of_le h1) htot
   ·intro v hv
    obtain ⟨i, hi⟩ := List.getElem?_of_mem hv
    obtain ⟨y, hy, _, _, _, hw⟩ := hg i v hi
    refine O.mono _ _ _ ?_ hw
    have hmem : y.1 ∈ elems.map (·.1) := List.mem_map_of_mem (List.mem_of_getElem? hy)
    exact Nat.le_trans (bulk_mem _ _ hmem) (Nat.le_of_succ_le htot)
def OpnF {α : Type} (P : Program) (fs : List Field) (o : Nat) (d : Kd α) (wf : Nat → α → Prop) : Prop :=
 (∀ n m a, n ≤ m → wf n a → wf m a) ∧
 ∀ {H : Type} (enc : TypeId × Value → H) (w : World) (base : Nat) (spare : Nat → Bool) (held : Bool) (fuel : Nat) (cs : List Value) (ys : List (DataW H × List MemPlace)) (N : Nat),
  (∀ (i : Nat) (f : Field), fs[i]? = some f → ∃ y, ys[i]? = some y ∧ Rows.uptoBulk y.1 ≤ N ∧ DataW.trod enc P w base spare held fuel f.type ((cs.drop f.offset).take (P.cellsOf f.type)) = some y) →
  ∃ a, d.K w a ((cs.drop o).take d.sz) ∧ wf N a
theorem opnF_one {α : Type} {d : Kd α} {wf : Nat → α → Prop} {f : Field} {o : Nat} (ho : f.offset = o) (O : Opn P f.type d wf) : OpnF P [f] o d wf := by
 refine ⟨O.mono, fun enc w base spare held fuel cs ys N h => ?_⟩
 obtain ⟨y, hy, hN, ht⟩ := h 0 f rfl
 obtain ⟨a, ha, hw⟩ := O.op enc w base spare held fuel _ y ht
 refine ⟨a, ?_, O.mono _ _ _ hN hw⟩
 rw [O.sz, ← ho]
 exact ha
theorem opnF_cons {α β : Type} {d : Kd α} {d' : Kd β} {wf : Nat → α → Prop} {wf' : Nat → β → Prop} {f : Field} {fs : List Field} {o o' : Nat} (ho : f.offset = o) (O : Opn P f.type d wf) (he : o' = o + d.sz) (F : OpnF P fs o' d' wf') :
  OpnF P (f :: fs) o (Kd.pair d d') (fun n x => wf n x.1 ∧ wf' n x.2) := by
 refine ⟨fun n m a h h' => ⟨O.mono _ _ _ h h'.1, F.1 _ _ _ h h'.2⟩, fun enc w base spare held fuel cs ys N h => ?_⟩
 obtain ⟨y, hy, hN, ht⟩ := h 0 f rfl
 obtain ⟨a, ha, hw⟩ := O.op enc w base spare held fuel _ y ht
 obtain ⟨b, hb, hw'⟩ := F.2 enc w base spare held fuel cs (ys.drop 1) N (fun i g hg => by
  obtain ⟨z, hz, h1, h2⟩ := h (i + 1) g (by simpa using hg)
  refine ⟨z, ?_, h1, h2⟩
  rw [List.getElem?_drop, Nat.add_comm]
  exact hz)
 refine ⟨(a, b), ⟨(cs.drop o).take d.sz, (cs.drop o').take d'.sz, ?_, ?_, hb⟩, O.mono _ _ _ hN hw, hw'⟩
 ·show (cs.drop o).take (d.sz + d'.sz) = _
  rw [List.take_add, List.drop_drop, he]
 ·rw [O.sz, ← ho]
  exact ha
theorem opn_struct {α β : Type} {fs : Array Field} {d : Kd α} {wf : Nat → α → Prop} (f : β → α) (g : α → β) (hfg : ∀ a, f (g a) = a) (ht : P.underlying t = some (.struct fs)) (F : OpnF P fs.toList 0 d wf) (hs : d.sz = P.cellsOf t) :
  Opn P t (Kd.iso d f) (fun n x => wf n (f x)) where
 sz := hs
 mono := fun n m a h h' => F.1 n m (f a) h h'
 op := fun enc w base spare held fuel cs x h => by
  obtain ⟨xs, n, rfl, rfl, hl, hlen, hf⟩ := DataW.trod_struct ht h
  obtain ⟨a, ha, hw⟩ := F.2 enc w base spare held n cs xs (Rows.uptoBulk (DataW.agg (xs.map (·.1)))) (fun i q hq => by
   have h1 := hf i q (by simpa using hq)
   have hi : i < xs.length := by
    have := (List.getElem?_eq_some_iff.1 hq).1
    simp at this
    omega
   rw [List.getElem?_eq_getElem hi] at h1
   refine ⟨_, List.getElem?_eq_getElem hi, ?_, h1⟩
   have hmem : (xs[i]).1 ∈ xs.map (·.1) := List.mem_map_of_mem (List.getElem_mem hi)
   have := bulk_mem _ _ hmem
   simp only [Rows.uptoBulk]
   omega)
  refine ⟨g a, ?_, by rw [hfg]; exact hw⟩
  show d.K w (f (g a)) cs
  rw [hfg]
  rw [List.drop_zero, hs, ← hl, List.take_length] at ha
  exact ha
end
end Go.Proofs.Ytodbmagneaiocaa.PA
