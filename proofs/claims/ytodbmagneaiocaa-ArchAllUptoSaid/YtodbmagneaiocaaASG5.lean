/- arch.first by its contract: the entries in order, of one path the first one. -/
import Derived.Deep.CutRange
import Derived.Deep.DeepCutAuto
import Derived.Lib.QuietBelow
import Derived.Shelf.SlSortCmp.InsertionK
import Derived.Test.YtodbmagneaiocaaASG1
import Derived.Test.YtodbmagneaiocaaASG4
import Derived.Test.YtodbmagneaiocaaASG3
import Derived.BigQuiet
import Derived.Deep.QuietTactic
import Derived.Great.BuildSlice
import Derived.Laws.MakeOwn
import Derived.Outline
import Derived.WalkSpells
import Derived.Laws.NewBlocks
namespace Go.Proofs.Ytodbmagneaiocaa.PA
open Go.RowKit Go.Proofs.YtodbmagneaiocaaW.PrintWords Go.Proofs.YtodbmagneaiocaaW.PrintLast Go.Proofs.YtodbmagneaiocaaW.PrintMore
attribute [local go_sem] max2_int min2_int max_two min_two max_three min_three max_four min_four
set_option linter.unusedVariables false
set_option linter.unusedSimpArgs false
open Go Go.Shelf Go.Lib Go.Sort
def SymT (P : Program) {α : Type} [Inhabited α] (enc : α → List Value) (k : Nat) (cf : α → α → Int) (g : Nat) (cb : Array Value) (blk off cap N : Nat) : Prop :=
 ∀ (A X Y B : List α) (d : Array α) (w : World) (a m b : Nat), X.length + Y.length ≤ N → X ≠ [] → Y ≠ [] → CmpB P g cb enc k cf blk off d.size w → HoldsK enc k w blk off d → blk < w.heap.size → d.toList = A ++ (X ++ (Y ++ B)) → SortedL (ltOf cf) X → SortedL (ltOf cf) Y → a = A.length → m = A.length + X.length → b = A.length + X.length + Y.length → d.size < 1000000000000 →
  Calls P 47 #[.slice (some ⟨blk, off, none⟩) d.size cap, .int .i64 a, .int .i64 m, .int .i64 b, .func (.func g) #[] cb] w fun e w' =>
   e = .returned (.tuple #[]) ∧ ∃ q os dk, (∃ Z, dk.toList = A ++ (Z ++ B) ∧ StP (ltOf cf) (X ++ Y) Z ∧ SortedL (ltOf cf) Z) ∧ dk.size = d.size ∧ w' = sWB enc k w blk off q dk os
theorem sorted_one {α : Type} {lt : α → α → Bool} {X Y : List α} (h : X = [] ∨ Y = []) (hX : SortedL lt X) (hY : SortedL lt Y) : SortedL lt (X ++ Y) := by
 rcases h with rfl | rfl
 ·exact hY
 ·rw [List.append_nil]
  exact hX
theorem part_sorted {α : Type} {lt : α → α → Bool} {X : List α} (h : SortedL lt X) (s : Nat) : SortedL lt (X.take s) ∧ SortedL lt (X.drop s) := by
 have : SortedL lt (X.take s ++ X.drop s) := by rw [List.take_append_drop]; exact h
 rw [sorted_app] at this
 exact ⟨this.1, this.2.1⟩
def subC : Code → List Bool → Code
 | .seq a b, false :: l => subC a l
 | .seq a b, true :: l => subC b l
 | c, _ => c
set_option maxHeartbeats 8000000 in
set_option maxRecDepth 1000000 in
theorem sym_t41 {P : Program} (L : LS P) {α : Type} [Inhabited α] (enc : α → List Value) (k : Nat) (aE : ∀ w, (isAgg 43).run P w = .ok true w) (zE : ∀ w, (Go.sizeOf 43).run P w = .ok k w) (hk : ∀ x, (enc x).length = k) (h1 : ∀ x, ∀ v ∈ enc x, v.oneCell' = true)
  (cf : α → α → Int) (hS : SWO (ltOf cf)) (g : Nat) (cb : Array Value) (blk off cap N : Nat) (HIH : Aside0 (SymT P enc k cf g cb blk off cap N)) (A X Y B : List α) (d : Array α) (w : World) (a m b s e mid nn : Nat) (HM : Aside0 (a = A.length ∧ m = a + X.length ∧ b = m + Y.length ∧ X.length + Y.length ≤ N + 1)) (HXs : Aside0 (SortedL (ltOf cf) X)) (HYs : Aside0 (SortedL (ltOf cf) Y)) (HH : Hid (HoldsK enc k w blk off d)) (HC : Aside0 (CmpB P g cb enc k cf blk off d.size w)) (hblk : blk < w.heap.size) (hsz : d.size < 1000000000000) (hbd : b ≤ d.size) (hmb : m + 2 ≤ b) (hmid2 : mid < b) (hmid1 : a < mid) (hnn : (mid : Int) + (m : Int) = (nn : Int)) (has : a ≤ s) (hsm : s ≤ m) (hme : m ≤ e) (heb : e ≤ b) (HEE : Aside0 (e = nn - s))
  (HCUT : Aside0 (s - a ≤ X.length ∧ nn - s - m ≤ Y.length ∧ m + s ≤ nn ∧ a ≤ s ∧ s ≤ m ∧ nn - s ≤ b ∧ (∀ x ∈ X.drop (s - a), ∀ y ∈ Y.take (nn - s - m), ltOf cf y x = true) ∧ (∀ x ∈ X.take (s - a), ∀ y ∈ Y.drop (nn - s - m), ltOf cf y x = false)))
  (q2 : Nat) (os2 : Array Obj) (d2 : Array α) (HD2 : Hid (d2.size = d.size ∧ d2.toList = A ++ (X.take (s - a) ++ (Y.take (nn - s - m) ++ (X.drop (s - a) ++ (Y.drop (nn - s - m) ++ B)))))) (t5 t6 t7 t8 t9 t10 t11 t12 t13 t14 t15 t16 t17 t19 t21 t22 t23 t25 t26 t27 t28 t29 t30 t31 t32 t33 t34 t35 t36 t37 t38 t39 t40 t41 t42 t43 t44 t45 t46 t47 t48 t49 t50 t51 t52 t53 t54 t55 t56 t57 t58 t59 t60 t61 t62 t63 t64 t65 t66 t67 t68 t69 t70 t71 t72 t73 t74 t75 t76 t77 t78 t79 t80 t81 t82 t83 t84 t85 t86 t87 t88 t89 t90 t91 t92 t93 t94 t95 t96 t97 t98 t99 t100 t101 t102 t103 t104 t105 t106 t107 t108 t109 t110 t111 t112 t113 t114 t115 t116 t117 t118 t119 t120 t121 t122 t123 t124 t125 t126 t127 t128 t129 t130 t131 t132 t133 t134 t135 t136 t137 t138 t139 t140 t141 t142 t143 t144 t145 t146 t147 t148 t149 t150 t151 t152 t153 t154 t155 t156 t157 t158 t159 t160 t161 t162 t163 t164 t165 t166 t167 t168 t169 t170 t171 t172 t173 t174 t175 t176 t177 t178 t179 t180 t181 t182 t183 t184 t185 t186 t187 t188 t189 t190 t191 t192 t193 t194 t195 t196 t197 t198 t199 t200 t201 t202 t203 t204 t205 t206 t207 t208 t209 t210 t211 t212 t213 t214 t215 t216 t217 t218 t219 : Value)
  (cR cC cN : Code) (hcR : cR = subC (Try.f47.body.getD .skip) [true, true, true, true, true, true, true, true, true, true, false, false]) (hcC : cC = subC (Try.f47.body.getD .skip) [true, true, true, true, true, true, true, true, true, true, false, true]) (hcN : cN = subC (Try.f47.body.getD .skip) [true, true, true, true, true, true, true, true, true, true, true]) (K K1 : Act → World → Prop) (Q : Exit → Act → World → Prop) (hQ : Q = (bodyPost P Try.f47 fun e w' => e = .returned (.tuple #[]) ∧ ∃ q os dk, (∃ Z, dk.toList = A ++ (Z ++ B) ∧ StP (ltOf cf) (X ++ Y) Z ∧ SortedL (ltOf cf) Z) ∧ dk.size = d.size ∧ w' = sWB enc k w blk off q dk os)) (hK : ∀ a w, Code.wp P cC (Exit.then K1 Q) a w → K a w) (hK1 : ∀ a w, Code.wp P cN Q a w → K1 a w) :
  Code.wp P cR (Exit.then K (Exit.then K1 Q)) { tmps := #[.slice (some ⟨blk, off, none⟩) d.size cap, .int .i64 a, .int .i64 m, .int .i64 b, .func (.func g) #[] cb, t5, t6, t7, t8, t9, t10, t11, t12, t13, t14, t15, t16, t17, .int .i64 mid, t19, .int .i64 s, t21, t22, t23, .int .i64 e, t25, t26, t27, t28, t29, t30, t31, t32, t33, t34, t35, t36, t37, t38, t39, t40, t41, t42, t43, t44, t45, t46, t47, t48, t49, t50, t51, t52, t53, t54, t55, t56, t57, t58, t59, t60, t61, t62, t63, t64, t65, t66, t67, t68, t69, t70, t71, t72, t73, t74, t75, t76, t77, t78, t79, t80, t81, t82, t83, t84, t85, t86, t87, t88, t89, t90, t91, t92, t93, t94, t95, t96, t97, t98, t99, t100, t101, t102, t103, t104, t105, t106, t107, t108, t109, t110, t111, t112, t113, t114, t115, t116, t117, t118, t119, t120, t121, t122, t123, t124, t125, t126, t127, t128, t129, t130, t131, t132, t133, t134, t135, t136, t137, t138, t139, t140, t141, t142, t143, t144, t145, t146, t147, t148, t149, t150, t151, t152, t153, t154, t155, t156, t157, t158, t159, t160, t161, t162, t163, t164, t165, t166, t167, t168, t169, t170, t171, t172, t173, t174, t175, t176, t177, t178, t179, t180, t181, t182, t183, t184, t185, t186, t187, t188, t189, t190, t191, t192, t193, t194, t195, t196, t197, t198, t199, t200, t201, t202, t203, t204, t205, t206, t207, t208, t209, t210, t211, t212, t213, t214, t215, t216, t217, t218, t219], defers := [] } (sWB enc k w blk off q2 d2 os2) := by
 have mixed := L.mixed
 have t3 := L.t3; have a3 := L.a3; have z3 := L.z3; have v3 := L.v3; have t4 := L.t4; have a4 := L.a4; have z4 := L.z4; have v4 := L.v4; have t68 := L.t68; have a68 := L.a68; have z68 := L.z68; have v68 := L.v68; have t22 := L.t22; have a22 := L.a22; have z22 := L.z22; have v22 := L.v22
 have ero := L.e48
 have esy := L.e47
 have HSW := Aside0.mk hS
 rw [hcC] at hK
 rw [hcN] at hK1
 rw [hcR]
 dsimp only [subC, Try.f47, Option.getD_some] at hK hK1 ⊢
 subst hQ
 clear hcR hcC hcN hS hk h1
 have hHO2 : Hid (HoldsK enc k (sWB enc k w blk off q2 d2 os2) blk off d2) := sWB_holds enc k w blk off q2 d d2 os2 HH.out hblk HD2.out.1
 have hBK2 : Hid (blk < (sWB enc k w blk off q2 d2 os2).heap.size) := Nat.lt_of_lt_of_le hblk (sWB_size enc k w blk off q2 d2 os2)
 have hON2 : Hid (∀ q' dk' os', dk'.size = d.size → sWB enc k (sWB enc k w blk off q2 d2 os2) blk off q' dk' os' = sWB enc k w blk off q' dk' (os2 ++ os')) := fun q' dk' os' h => sWB_on enc k w blk off q2 q' d2 dk' os2 os' hblk (h.trans HD2.out.1.symm)
 have hCM2 : Hid (CmpB P g cb enc k cf blk off d.size (sWB enc k w blk off q2 d2 os2)) := CmpB.on HC.out hblk q2 d2 os2 HD2.out.1
 obtain ⟨w2, hw2⟩ : ∃ w2, sWB enc k w blk off q2 d2 os2 = w2 := ⟨_, rfl⟩
 have HW2 := Aside0.mk hw2
 rw [hw2] at hHO2 hBK2 hON2 hCM2 ⊢
 clear hw2
 go_cut [199] (fun v199 wd => v199 = .bool (decide (a < s) && decide (s < mid)) ∧ wd = w2)
 case first =>
  by_cases h1 : a < s
  ·have z1 : (a : Int) < (s : Int) := by omega
   by_cases h2 : s < mid
   ·have z2 : (s : Int) < (mid : Int) := by omega
    go_wp2_with fail
    go_meet
    case rel => exact ⟨by rw [decide_eq_true h1, decide_eq_true h2]; rfl, rfl⟩
   ·have z2 : ¬ (s : Int) < (mid : Int) := by omega
    go_wp2_with fail
    go_meet
    case rel => exact ⟨by rw [decide_eq_true h1, decide_eq_false h2]; rfl, rfl⟩
  ·have z1 : ¬ (a : Int) < (s : Int) := by omega
   go_wp2_with fail
   go_meet
   case rel => exact ⟨by rw [decide_eq_false h1]; rfl, rfl⟩
 case rest =>
  obtain ⟨rfl, rfl⟩ := hcut
  obtain ⟨w2, rfl⟩ : ∃ x, x = wc := ⟨_, rfl⟩
  obtain ⟨bb, hbb⟩ : ∃ bb, (decide (a < s) && decide (s < mid)) = bb := ⟨_, rfl⟩
  rw [hbb]
  have HBB := Aside0.mk hbb
  clear hbb
  go_upto_if 199 with fail
  go_cut [205] (fun v205 we => ∃ (q : Nat) (os : Array Obj) (d3 : Array α), we = sWB enc k w blk off q d3 os ∧ Hid (d3.size = d.size ∧ ∃ Z1, d3.toList = A ++ (Z1 ++ (X.drop (s - a) ++ (Y.drop (nn - s - m) ++ B))) ∧ StP (ltOf cf) (X.take (s - a) ++ Y.take (nn - s - m)) Z1 ∧ SortedL (ltOf cf) Z1))
  case first =>
   obtain ⟨qa, qx, qy, qN⟩ := HM.out
   obtain ⟨k1, k2, k3, k4, k5, k6, _⟩ := HCUT.out
   have hge := HEE.out
   have hl1 : (X.take (s - a)).length = s - a := by rw [List.length_take]; omega
   have hl2 : (Y.take (nn - s - m)).length = nn - s - m := by rw [List.length_take]; omega
   have hn2 : nn = mid + m := by omega
   cases bb with
   | false =>
    have hone : X.take (s - a) = [] ∨ Y.take (nn - s - m) = [] := by
     have := HBB.out
     by_cases h1 : a < s
     ·by_cases h2 : s < mid
      ·rw [decide_eq_true h1, decide_eq_true h2] at this
       exact absurd this (by decide)
      ·exact Or.inr (List.length_eq_zero_iff.1 (by omega))
     ·exact Or.inl (List.length_eq_zero_iff.1 (by omega))
    have HONE := Aside0.mk hone
    clear hl1 hl2 hone k1 k2 k3 k4 k5 k6 qa qx qy qN hge hn2
    go_wp2_with fail
    go_meet
    case rel => exact ⟨q2, os2, d2, HW2.out.symm, ⟨HD2.out.1, X.take (s - a) ++ Y.take (nn - s - m), by rw [HD2.out.2]; simp only [List.append_assoc], StP.refl _, sorted_one HONE.out (part_sorted HXs.out _).1 (part_sorted HYs.out _).1⟩⟩
   | true =>
    have hlt2 : a < s ∧ s < mid := by
     have := HBB.out
     rw [Bool.and_eq_true, decide_eq_true_eq, decide_eq_true_eq] at this
     exact this
    have hrec := HIH.out A (X.take (s - a)) (Y.take (nn - s - m)) (X.drop (s - a) ++ (Y.drop (nn - s - m) ++ B)) d2 w2 a s mid (by rw [hl1, hl2]; omega) (fun h => by rw [h] at hl1; simp at hl1; omega) (fun h => by rw [h] at hl2; simp at hl2; omega) (by rw [HD2.out.1]; exact hCM2.out) hHO2.out hBK2.out HD2.out.2 (part_sorted HXs.out _).1 (part_sorted HYs.out _).1 qa (by rw [hl1]; omega) (by rw [hl1, hl2]; omega) (by rw [HD2.out.1]; exact hsz)
    rw [HD2.out.1] at hrec
    clear hl1 hl2 k1 k2 k3 k4 k5 k6 qa qx qy qN hge hlt2 hn2
    go_wp2_with (go_at_call 47; refine hrec.mono ?_; rintro e9 w9 ⟨rfl, q9, os9, d9, hZ9, hs9, rfl⟩)
    go_meet
    case rel => exact ⟨q9, os2 ++ os9, d9, hON2.out _ _ _ hs9, ⟨hs9, hZ9⟩⟩
  case rest =>
   obtain ⟨q3, os3, d3, rfl, HD3⟩ := hcut
   obtain ⟨hs3, Z1, hl3, hst3, hso3⟩ := HD3.out
   have HT3 := Aside0.mk (And.intro hs3 (And.intro hl3 (And.intro hst3 hso3)))
   have hHO3 : Hid (HoldsK enc k (sWB enc k w blk off q3 d3 os3) blk off d3) := sWB_holds enc k w blk off q3 d d3 os3 HH.out hblk hs3
   have hBK3 : Hid (blk < (sWB enc k w blk off q3 d3 os3).heap.size) := Nat.lt_of_lt_of_le hblk (sWB_size enc k w blk off q3 d3 os3)
   have hON3 : Hid (∀ q' dk' os', dk'.size = d.size → sWB enc k (sWB enc k w blk off q3 d3 os3) blk off q' dk' os' = sWB enc k w blk off q' dk' (os3 ++ os')) := fun q' dk' os' h => sWB_on enc k w blk off q3 q' d3 dk' os3 os' hblk (h.trans HT3.out.1.symm)
   have hCM3 : Hid (CmpB P g cb enc k cf blk off d.size (sWB enc k w blk off q3 d3 os3)) := CmpB.on HC.out hblk q3 d3 os3 hs3
   have hfin : Aside0 (∀ Z2, StP (ltOf cf) (X.drop (s - a) ++ Y.drop (nn - s - m)) Z2 → SortedL (ltOf cf) Z2 → StP (ltOf cf) (X ++ Y) (Z1 ++ Z2) ∧ SortedL (ltOf cf) (Z1 ++ Z2)) := ⟨fun Z2 z1 z2 => part3 HSW.out HXs.out HYs.out (s - a) (nn - s - m) HCUT.out.2.2.2.2.2.2 ⟨HT3.out.2.2.1, HT3.out.2.2.2⟩ ⟨z1, z2⟩⟩
   obtain ⟨w3, hw3⟩ : ∃ w3, sWB enc k w blk off q3 d3 os3 = w3 := ⟨_, rfl⟩
   have HW3 := Aside0.mk hw3
   rw [hw3] at hHO3 hBK3 hON3 hCM3 ⊢
   clear hw3 HBB hHO2 hBK2 hON2 hCM2 HW2 HD2 hs3 hl3 hst3 hso3 HD3
   obtain ⟨qa, qx, qy, qN⟩ := HM.out
   obtain ⟨k1, k2, k3, k4, k5, k6, _⟩ := HCUT.out
   have hge := HEE.out
   have hl1 : (X.drop (s - a)).length = m - s := by rw [List.length_drop]; omega
   have hl2 : (Y.drop (nn - s - m)).length = b - e := by rw [List.length_drop]; omega
   have hl4 : Z1.length = mid - a := by rw [HT3.out.2.2.1.len, List.length_append, List.length_take, List.length_take]; omega
   by_cases h1 : mid < e
   ·have z1 : (mid : Int) < (e : Int) := by omega
    by_cases h2 : e < b
    ·have z2 : (e : Int) < (b : Int) := by omega
     have hrec := HIH.out (A ++ Z1) (X.drop (s - a)) (Y.drop (nn - s - m)) B d3 w3 mid e b (by rw [hl1, hl2]; omega) (fun h => by rw [h] at hl1; simp at hl1; omega) (fun h => by rw [h] at hl2; simp at hl2; omega) (by rw [HT3.out.1]; exact hCM3.out) hHO3.out hBK3.out (by rw [HT3.out.2.1]; simp only [List.append_assoc]) (part_sorted HXs.out _).2 (part_sorted HYs.out _).2 (by rw [List.length_append, hl4]; omega) (by rw [List.length_append, hl4, hl1]; omega) (by rw [List.length_append, hl4, hl1, hl2]; omega) (by rw [HT3.out.1]; exact hsz)
     rw [HT3.out.1] at hrec
     clear hl1 hl2 hl4 k1 k2 k3 k4 k5 k6 qa qx qy qN hge
     go_wp2_with (go_at_call 47; refine hrec.mono ?_; rintro e9 w9 ⟨rfl, q9, os9, d9, ⟨Z2, hZ9, hst9, hso9⟩, hs9, rfl⟩)
     go_end0
     have hf := hfin.out Z2 hst9 hso9
     exact ⟨rfl, q9, os3 ++ os9, d9, ⟨Z1 ++ Z2, by rw [hZ9]; simp only [List.append_assoc], hf.1, hf.2⟩, hs9, hON3.out _ _ _ hs9⟩
    ·have z2 : ¬ (e : Int) < (b : Int) := by omega
     have hemp : Y.drop (nn - s - m) = [] := List.length_eq_zero_iff.1 (by omega)
     have hf := Aside0.mk (hfin.out (X.drop (s - a) ++ Y.drop (nn - s - m)) (StP.refl _) (sorted_one (Or.inr hemp) (part_sorted HXs.out _).2 (part_sorted HYs.out _).2))
     clear hl1 hl2 hl4 k1 k2 k3 k4 k5 k6 qa qx qy qN hge hemp
     go_wp2_with fail
     go_end0
     exact ⟨rfl, q3, os3, d3, ⟨Z1 ++ (X.drop (s - a) ++ Y.drop (nn - s - m)), by rw [HT3.out.2.1]; simp only [List.append_assoc], hf.out.1, hf.out.2⟩, HT3.out.1, HW3.out.symm⟩
   ·have z1 : ¬ (mid : Int) < (e : Int) := by omega
    have hemp : X.drop (s - a) = [] := List.length_eq_zero_iff.1 (by omega)
    have hf := Aside0.mk (hfin.out (X.drop (s - a) ++ Y.drop (nn - s - m)) (StP.refl _) (sorted_one (Or.inl hemp) (part_sorted HXs.out _).2 (part_sorted HYs.out _).2))
    clear hl1 hl2 hl4 k1 k2 k3 k4 k5 k6 qa qx qy qN hge hemp
    go_wp2_with fail
    go_end0
    exact ⟨rfl, q3, os3, d3, ⟨Z1 ++ (X.drop (s - a) ++ Y.drop (nn - s - m)), by rw [HT3.out.2.1]; simp only [List.append_assoc], hf.out.1, hf.out.2⟩, HT3.out.1, HW3.out.symm⟩
set_option maxHeartbeats 8000000 in
set_option maxRecDepth 1000000 in
theorem sym_t39 {P : Program} (L : LS P) {α : Type} [Inhabited α] (enc : α → List Value) (k : Nat) (aE : ∀ w, (isAgg 43).run P w = .ok true w) (zE : ∀ w, (Go.sizeOf 43).run P w = .ok k w) (hk : ∀ x, (enc x).length = k) (h1 : ∀ x, ∀ v ∈ enc x, v.oneCell' = true)
  (cf : α → α → Int) (hS : SWO (ltOf cf)) (g : Nat) (cb : Array Value) (blk off cap N : Nat) (HIH : Aside0 (SymT P enc k cf g cb blk off cap N)) (A X Y B : List α) (d : Array α) (w : World) (a m b s e mid nn : Nat) (HM : Aside0 (a = A.length ∧ m = a + X.length ∧ b = m + Y.length ∧ X.length + Y.length ≤ N + 1)) (HXs : Aside0 (SortedL (ltOf cf) X)) (HYs : Aside0 (SortedL (ltOf cf) Y)) (HH : Hid (HoldsK enc k w blk off d)) (HC : Aside0 (CmpB P g cb enc k cf blk off d.size w)) (hblk : blk < w.heap.size) (hsz : d.size < 1000000000000) (hbd : b ≤ d.size) (hmb : m + 2 ≤ b) (hmid2 : mid < b) (hmid1 : a < mid) (hnn : (mid : Int) + (m : Int) = (nn : Int)) (has : a ≤ s) (hsm : s ≤ m) (hme : m ≤ e) (heb : e ≤ b) (HEE : Aside0 (e = nn - s))
  (HCUT : Aside0 (s - a ≤ X.length ∧ nn - s - m ≤ Y.length ∧ m + s ≤ nn ∧ a ≤ s ∧ s ≤ m ∧ nn - s ≤ b ∧ (∀ x ∈ X.drop (s - a), ∀ y ∈ Y.take (nn - s - m), ltOf cf y x = true) ∧ (∀ x ∈ X.take (s - a), ∀ y ∈ Y.drop (nn - s - m), ltOf cf y x = false)))
  (q : Nat) (os : Array Obj) (HD : Aside0 (d.toList = A ++ (X ++ (Y ++ B)))) (wq : World) (HST2 : Aside0 (wq = sWB enc k w blk off q d os)) (t5 t6 t7 t8 t9 t10 t11 t12 t13 t14 t15 t16 t17 t19 t21 t22 t23 t25 t26 t27 t28 t29 t30 t31 t32 t33 t34 t35 t36 t37 t38 t39 t40 t41 t42 t43 t44 t45 t46 t47 t48 t49 t50 t51 t52 t53 t54 t55 t56 t57 t58 t59 t60 t61 t62 t63 t64 t65 t66 t67 t68 t69 t70 t71 t72 t73 t74 t75 t76 t77 t78 t79 t80 t81 t82 t83 t84 t85 t86 t87 t88 t89 t90 t91 t92 t93 t94 t95 t96 t97 t98 t99 t100 t101 t102 t103 t104 t105 t106 t107 t108 t109 t110 t111 t112 t113 t114 t115 t116 t117 t118 t119 t120 t121 t122 t123 t124 t125 t126 t127 t128 t129 t130 t131 t132 t133 t134 t135 t136 t137 t138 t139 t140 t141 t142 t143 t144 t145 t146 t147 t148 t149 t150 t151 t152 t153 t154 t155 t156 t157 t158 t159 t160 t161 t162 t163 t164 t165 t166 t167 t168 t169 t170 t171 t172 t173 t174 t175 t176 t177 t178 t179 t180 t181 t182 t183 t184 t185 t186 t187 t188 t189 t190 t191 t192 t193 t194 t195 t196 t197 t198 t199 t200 t201 t202 t203 t204 t205 t206 t207 t208 t209 t210 t211 t212 t213 t214 t215 t216 t217 t218 t219 : Value)
  (cR cC cN : Code) (hcR : cR = subC (Try.f47.body.getD .skip) [true, true, true, true, true, true, true, true, true, false, false]) (hcC : cC = subC (Try.f47.body.getD .skip) [true, true, true, true, true, true, true, true, true, false, true]) (hcN : cN = subC (Try.f47.body.getD .skip) [true, true, true, true, true, true, true, true, true, true]) (K K1 : Act → World → Prop) (Q : Exit → Act → World → Prop) (hQ : Q = (bodyPost P Try.f47 fun e w' => e = .returned (.tuple #[]) ∧ ∃ q os dk, (∃ Z, dk.toList = A ++ (Z ++ B) ∧ StP (ltOf cf) (X ++ Y) Z ∧ SortedL (ltOf cf) Z) ∧ dk.size = d.size ∧ w' = sWB enc k w blk off q dk os)) (hK : ∀ a w, Code.wp P cC (Exit.then K1 Q) a w → K a w) (hK1 : ∀ a w, Code.wp P cN Q a w → K1 a w) :
  Code.wp P cR (Exit.then K (Exit.then K1 Q)) { tmps := #[.slice (some ⟨blk, off, none⟩) d.size cap, .int .i64 a, .int .i64 m, .int .i64 b, .func (.func g) #[] cb, t5, t6, t7, t8, t9, t10, t11, t12, t13, t14, t15, t16, t17, .int .i64 mid, t19, .int .i64 s, t21, t22, t23, .int .i64 e, t25, t26, t27, t28, t29, t30, t31, t32, t33, t34, t35, t36, t37, t38, t39, t40, t41, t42, t43, t44, t45, t46, t47, t48, t49, t50, t51, t52, t53, t54, t55, t56, t57, t58, t59, t60, t61, t62, t63, t64, t65, t66, t67, t68, t69, t70, t71, t72, t73, t74, t75, t76, t77, t78, t79, t80, t81, t82, t83, t84, t85, t86, t87, t88, t89, t90, t91, t92, t93, t94, t95, t96, t97, t98, t99, t100, t101, t102, t103, t104, t105, t106, t107, t108, t109, t110, t111, t112, t113, t114, t115, t116, t117, t118, t119, t120, t121, t122, t123, t124, t125, t126, t127, t128, t129, t130, t131, t132, t133, t134, t135, t136, t137, t138, t139, t140, t141, t142, t143, t144, t145, t146, t147, t148, t149, t150, t151, t152, t153, t154, t155, t156, t157, t158, t159, t160, t161, t162, t163, t164, t165, t166, t167, t168, t169, t170, t171, t172, t173, t174, t175, t176, t177, t178, t179, t180, t181, t182, t183, t184, t185, t186, t187, t188, t189, t190, t191, t192, t193, t194, t195, t196, t197, t198, t199, t200, t201, t202, t203, t204, t205, t206, t207, t208, t209, t210, t211, t212, t213, t214, t215, t216, t217, t218, t219], defers := [] } wq := by
 have hrot : ∀ (W : World) (A' X' Y' B' : List α) (dk : Array α) (a' m' b' : Nat), HoldsK enc k W blk off dk → blk < W.heap.size → dk.toList = A' ++ X' ++ Y' ++ B' → X' ≠ [] → Y' ≠ [] → a' = A'.length → m' = A'.length + X'.length → b' = A'.length + X'.length + Y'.length → dk.size = d.size → Calls P 48 #[.slice (some ⟨blk, off, none⟩) d.size cap, .int .i64 a', .int .i64 m', .int .i64 b', .func (.func g) #[] cb] W fun e w' => e = .returned (.tuple #[]) ∧ ∃ q os dk', dk'.toList = A' ++ Y' ++ X' ++ B' ∧ dk'.size = d.size ∧ w' = sWB enc k W blk off q dk' os := fun W A' X' Y' B' dk a' m' b' x1 x2 x3 x4 x5 x6 x7 x8 x9 => by
  have := rotate_call L enc k aE zE hk h1 (.func (.func g) #[] cb) blk off cap A' X' Y' B' dk W x1 x2 x3 x4 x5 a' m' b' x6 x7 x8 (by omega)
  rwa [x9] at this
 have HROT := Aside0.mk hrot
 clear hrot
 have HKL := Aside0.mk (And.intro hk h1)
 have mixed := L.mixed
 have t3 := L.t3; have a3 := L.a3; have z3 := L.z3; have v3 := L.v3; have t4 := L.t4; have a4 := L.a4; have z4 := L.z4; have v4 := L.v4; have t68 := L.t68; have a68 := L.a68; have z68 := L.z68; have v68 := L.v68; have t22 := L.t22; have a22 := L.a22; have z22 := L.z22; have v22 := L.v22
 have ero := L.e48
 have esy := L.e47
 have HSW := Aside0.mk hS
 rw [hcC] at hK
 rw [hcN] at hK1
 rw [hcR]
 dsimp only [subC, Try.f47, Option.getD_some] at hK hK1 ⊢
 subst hQ
 clear hcR hcC hcN hS hk h1
 go_cut [185] (fun v185 wd => v185 = .bool (decide (s < m) && decide (m < e)) ∧ wd = wq)
 case first =>
  by_cases h1 : s < m
  ·have z1 : (s : Int) < (m : Int) := by omega
   by_cases h2 : m < e
   ·have z2 : (m : Int) < (e : Int) := by omega
    go_wp2_with fail
    go_meet
    case rel => exact ⟨by rw [decide_eq_true h1, decide_eq_true h2]; rfl, rfl⟩
   ·have z2 : ¬ (m : Int) < (e : Int) := by omega
    go_wp2_with fail
    go_meet
    case rel => exact ⟨by rw [decide_eq_true h1, decide_eq_false h2]; rfl, rfl⟩
  ·have z1 : ¬ (s : Int) < (m : Int) := by omega
   go_wp2_with fail
   go_meet
   case rel => exact ⟨by rw [decide_eq_false h1]; rfl, rfl⟩
 case rest =>
  obtain ⟨rfl, rfl⟩ := hcut
  obtain ⟨wq, rfl⟩ : ∃ x, x = wc := ⟨_, rfl⟩
  obtain ⟨bb, hbb⟩ : ∃ bb, (decide (s < m) && decide (m < e)) = bb := ⟨_, rfl⟩
  rw [hbb]
  have HBB := Aside0.mk hbb
  clear hbb
  go_upto_if 185 with fail
  go_cut [191] (fun v191 wd => ∃ (q : Nat) (os : Array Obj) (d2 : Array α), wd = sWB enc k w blk off q d2 os ∧ Hid (d2.size = d.size ∧ d2.toList = A ++ (X.take (s - a) ++ (Y.take (nn - s - m) ++ (X.drop (s - a) ++ (Y.drop (nn - s - m) ++ B))))))
  case first =>
   obtain ⟨qa, qx, qy, _⟩ := HM.out
   obtain ⟨k1, k2, k3, k4, k5, k6, _⟩ := HCUT.out
   have hge := HEE.out
   have hXd := List.take_append_drop (s - a) X
   have hYd := List.take_append_drop (nn - s - m) Y
   have hl1 : (X.take (s - a)).length = s - a := by rw [List.length_take]; omega
   have hl2 : (Y.take (nn - s - m)).length = nn - s - m := by rw [List.length_take]; omega
   have hl3 : (X.drop (s - a)).length = X.length - (s - a) := List.length_drop
   cases bb with
   | false =>
    have hone : X.drop (s - a) = [] ∨ Y.take (nn - s - m) = [] := by
     have := HBB.out
     by_cases h1 : s < m
     ·by_cases h2 : m < e
      ·rw [decide_eq_true h1, decide_eq_true h2] at this
       exact absurd this (by decide)
      ·exact Or.inr (List.length_eq_zero_iff.1 (by omega))
     ·exact Or.inl (List.length_eq_zero_iff.1 (by omega))
    have HL : Hid (d.toList = A ++ (X.take (s - a) ++ (Y.take (nn - s - m) ++ (X.drop (s - a) ++ (Y.drop (nn - s - m) ++ B))))) := by
     show _ = _
     rw [HD.out]
     (conv => lhs; rw [← hXd, ← hYd])
     rcases hone with h | h <;> rw [h] <;> simp only [List.append_assoc, List.nil_append, List.append_nil]
    have HL2 := Aside0.mk HL
    clear HL hXd hYd hl1 hl2 hl3 hone k1 k2 k3 k4 k5 k6 qa qx qy hge
    go_wp2_with fail
    go_meet
    case rel => exact ⟨q, os, d, HST2.out, ⟨rfl, HL2.out⟩⟩
   | true =>
    have hlt2 : s < m ∧ m < e := by
     have := HBB.out
     rw [Bool.and_eq_true, decide_eq_true_eq, decide_eq_true_eq] at this
     exact this
    have hdd : d.toList = (A ++ X.take (s - a)) ++ X.drop (s - a) ++ Y.take (nn - s - m) ++ (Y.drop (nn - s - m) ++ B) := by
     rw [HD.out]
     (conv => lhs; rw [← hXd, ← hYd])
     simp only [List.append_assoc]
    have hrot2 := HROT.out wq (A ++ X.take (s - a)) (X.drop (s - a)) (Y.take (nn - s - m)) (Y.drop (nn - s - m) ++ B) d s m e (by rw [HST2.out]; exact sWB_holds enc k w blk off q d d _ HH.out hblk rfl) (by rw [HST2.out]; exact Nat.lt_of_lt_of_le hblk (sWB_size enc k w blk off q d os)) hdd (fun h => by rw [h] at hl3; simp at hl3; omega) (fun h => by rw [h] at hl2; simp at hl2; omega) (by rw [List.length_append, hl1]; omega) (by rw [List.length_append, hl1, hl3]; omega) (by rw [List.length_append, hl1, hl3, hl2]; omega) rfl
    clear hdd
    clear hXd hYd hl1 hl2 hl3 k1 k2 k3 k4 k5 k6 qa qx qy hge hlt2
    go_wp2_with (go_at_call 48; refine hrot2.mono ?_; rintro e9 w9 ⟨rfl, q9, os9, d9, hd9, hs9, rfl⟩)
    go_meet
    case rel => exact ⟨q9, os ++ os9, d9, by rw [HST2.out]; exact sWB_on enc k w blk off q q9 d d9 os os9 hblk hs9, ⟨hs9, by rw [hd9]; simp only [List.append_assoc]⟩⟩
  case rest =>
   obtain ⟨q2, os2, d2, rfl, HD2⟩ := hcut
   clear HST2 HBB
   go_upto_region 41 with fail
   exact sym_t41 L enc k aE zE HKL.out.1 HKL.out.2 cf HSW.out g cb blk off cap N HIH A X Y B d w a m b s e mid nn HM HXs HYs HH HC hblk hsz hbd hmb hmid2 hmid1 hnn has hsm hme heb HEE HCUT q2 os2 d2 HD2 _ _ _ _ _ _ _ _ _ _ _ _ _ _ _ _ _ _ _ _ _ _ _ _ _ _ _ _ _ _ _ _ _ _ _ _ _ _ _ _ _ _ _ _ _ _ _ _ _ _ _ _ _ _ _ _ _ _ _ _ _ _ _ _ _ _ _ _ _ _ _ _ _ _ _ _ _ _ _ _ _ _ _ _ _ _ _ _ _ _ _ _ _ _ _ _ _ _ _ _ _ _ _ _ _ _ _ _ _ _ _ _ _ _ _ _ _ _ _ _ _ _ _ _ _ _ _ _ _ _ _ _ _ _ _ _ _ _ _ _ _ _ _ _ _ _ _ _ _ _ _ _ _ _ _ _ _ _ _ _ _ _ _ _ _ _ _ _ _ _ _ _ _ _ _ _ _ _ _ _ _ _ _ _ _ _ _ _ _ _ _ _ _ _ _ _ _ _ _ _ _ _ _ _ _ _ _ _ _ _ _ _ _ _ _ (by kernel_rfl) (by kernel_rfl) (by kernel_rfl) _ _ _ rfl (by assumption) (by assumption)
set_option maxHeartbeats 8000000 in
set_option maxRecDepth 1000000 in
theorem sym3_call {P : Program} (L : LS P) {α : Type} [Inhabited α] (enc : α → List Value) (k : Nat) (aE : ∀ w, (isAgg 43).run P w = .ok true w) (zE : ∀ w, (Go.sizeOf 43).run P w = .ok k w) (hk : ∀ x, (enc x).length = k) (h1 : ∀ x, ∀ v ∈ enc x, v.oneCell' = true)
  (cf : α → α → Int) (hS : SWO (ltOf cf)) (g : Nat) (cb : Array Value) (eg : ∀ args w, (callFunc g args).run P w = .ok (.enter g args) w) (blk off cap N : Nat) (IH : SymT P enc k cf g cb blk off cap N) (A X Y B : List α) (d : Array α) (w : World) (a m b : Nat) (hN : X.length + Y.length ≤ N + 1) (hX2 : 2 ≤ X.length) (hY2 : 2 ≤ Y.length) (hcmp : CmpB P g cb enc k cf blk off d.size w) (hH : HoldsK enc k w blk off d) (hblk : blk < w.heap.size) (hd : d.toList = A ++ (X ++ (Y ++ B))) (hX : SortedL (ltOf cf) X) (hY : SortedL (ltOf cf) Y) (ha : a = A.length) (hm : m = A.length + X.length) (hb : b = A.length + X.length + Y.length) (hsz : d.size < 1000000000000) :
  Calls P 47 #[.slice (some ⟨blk, off, none⟩) d.size cap, .int .i64 a, .int .i64 m, .int .i64 b, .func (.func g) #[] cb] w fun e w' =>
   e = .returned (.tuple #[]) ∧ ∃ q os dk, (∃ Z, dk.toList = A ++ (Z ++ B) ∧ StP (ltOf cf) (X ++ Y) Z ∧ SortedL (ltOf cf) Z) ∧ dk.size = d.size ∧ w' = sWB enc k w blk off q dk os := by
 have mixed := L.mixed
 have t3 := L.t3; have a3 := L.a3; have z3 := L.z3; have v3 := L.v3; have t4 := L.t4; have a4 := L.a4; have z4 := L.z4; have v4 := L.v4; have t68 := L.t68; have a68 := L.a68; have z68 := L.z68; have v68 := L.v68; have t22 := L.t22; have a22 := L.a22; have z22 := L.z22; have v22 := L.v22
 have F := L.f47
 have ero := L.e48
 have esy := L.e47
 have hsl : d.size = A.length + (X.length + (Y.length + B.length)) := by
  rw [← Array.length_toList, hd]
  simp
 have hdx : ∀ t (h : t < X.length), d[a + t]! = X[t] := fun t h => by
  rw [ha, ← Array.getElem!_toList, hd]
  simp [h, List.getElem?_append]
  try rw [if_neg (by omega)]
  try rfl
 have hdy : ∀ t (h : t < Y.length), d[m + t]! = Y[t] := fun t h => by
  rw [hm, ← Array.getElem!_toList, hd, ← List.append_assoc, ← List.length_append]
  simp [h, List.getElem?_append]
  rw [show A.length + X.length + t - A.length - X.length = t by omega, if_pos h, List.getElem?_eq_getElem h, if_neg (by omega), if_neg (by omega)]
  rfl
 have HIH := Aside0.mk IH
 have HD := Aside0.mk hd
 have HDX := Aside0.mk hdx
 have HDY := Aside0.mk hdy
 have HXs := Aside0.mk hX
 have HYs := Aside0.mk hY
 have HSW := Aside0.mk hS
 have HST : Hid (w = sWB enc k w blk off w.drawn d #[]) := (sWB_start enc k w blk off d hH).symm
 have HH : Hid (HoldsK enc k w blk off d) := hH
 have HC := Aside0.mk hcmp
 have HK : Hid (∀ x, (enc x).length = k) := hk
 have H1 : Hid (∀ x, ∀ v ∈ enc x, v.oneCell' = true) := h1
 have hmx : m = a + X.length := by omega
 have hby : b = m + Y.length := by omega
 have hma : ((m : Int) - (a : Int) == 1) = false := beq_eq_false_iff_ne.mpr (by omega)
 have hmz : ((b : Int) - (m : Int) == 1) = false := beq_eq_false_iff_ne.mpr (by omega)
 have ham : a + 2 ≤ m := by omega
 have hmb : m + 2 ≤ b := by omega
 have hbd : b ≤ d.size := by omega
 have HM := Aside0.mk (And.intro ha (And.intro hmx (And.intro hby hN)))
 obtain ⟨mid, hmid⟩ : ∃ mid : Nat, ((a : Int) + (b : Int)) / 2 = (mid : Int) := ⟨(a + b) / 2, by omega⟩
 obtain ⟨nn, hnn⟩ : ∃ nn : Nat, (mid : Int) + (m : Int) = (nn : Int) := ⟨mid + m, by omega⟩
 obtain ⟨p, hp⟩ : ∃ p : Nat, (nn : Int) - 1 = (p : Int) := ⟨nn - 1, by omega⟩
 have hmid1 : a < mid := by omega
 have hmid2 : mid < b := by omega
 have hnn2 : nn < 1000000000000 + 1000000000000 := by omega
 have hRng : ∀ s0 r0 : Nat, ((mid < m ∧ s0 + b = nn ∧ r0 = mid) ∨ (m ≤ mid ∧ s0 = a ∧ r0 = m)) → s0 ≤ r0 ∧ a ≤ s0 ∧ r0 ≤ m ∧ ∀ c, s0 ≤ c → c < r0 → a ≤ c ∧ c < m ∧ m + c < nn ∧ nn - 1 - c < b := fun s0 r0 h => by
  refine ⟨by omega, by omega, by omega, fun c h1 h2 => by omega⟩
 have HRNG := Aside0.mk hRng
 clear hsl hdx hdy hd hX hY hX2 hY2 hS hH hcmp hk h1 ha hm hb hmx hby hN IH hRng
 go_enter F, Try.ntmps47
 go_upto_if 140 with fail
 (try rw [hma])
 (try rw [hmz])
 go_cut [20, 21] (fun v20 v21 wc => ∃ (s0 r0 : Nat), v20 = .int .i64 s0 ∧ v21 = .int .i64 r0 ∧ Aside0 ((mid < m ∧ s0 + b = nn ∧ r0 = mid) ∨ (m ≤ mid ∧ s0 = a ∧ r0 = m)) ∧ wc = w)
 case first =>
  by_cases hmm : mid < m
  ·obtain ⟨s0, hs0⟩ : ∃ s0 : Nat, (nn : Int) - (b : Int) = (s0 : Int) := ⟨nn - b, by omega⟩
   have hq : s0 + b = nn := by omega
   have hz : (mid : Int) < (m : Int) := by omega
   go_wp2_with fail
   go_meet
   case rel => exact ⟨s0, mid, rfl, rfl, ⟨Or.inl ⟨hmm, hq, rfl⟩⟩, rfl⟩
  ·have hz : ¬ (mid : Int) < (m : Int) := by omega
   go_wp2_with fail
   go_meet
   case rel => exact ⟨a, m, rfl, rfl, ⟨Or.inr ⟨by omega, rfl, rfl⟩⟩, rfl⟩
 case rest =>
  obtain ⟨s0, r0, rfl, rfl, HS0, rfl⟩ := hcut
  obtain ⟨w, rfl⟩ : ∃ x, x = wc := ⟨_, rfl⟩
  obtain ⟨hsr, has0, hr0m, _⟩ := HRNG.out s0 r0 HS0.out
  go_wp2_with fail
  go_loopg [20, 21] (r0 - s0) (fun gg vi vj wr => ∃ (s r q : Nat) (os : Array Obj), vi = .int .i64 s ∧ vj = .int .i64 r ∧ s0 ≤ s ∧ s ≤ r ∧ r ≤ r0 ∧ r - s ≤ gg ∧ wr = sWB enc k w blk off q d os ∧ Hid ((s = s0 ∨ ltOf cf d[nn - s]! d[s - 1]! = false) ∧ (r = r0 ∨ ltOf cf d[nn - 1 - r]! d[r]! = true)))
  case atStart => exact ⟨s0, r0, _, #[], rfl, rfl, Nat.le_refl _, hsr, Nat.le_refl _, Nat.le_refl _, HST.out, ⟨Or.inl rfl, Or.inl rfl⟩⟩
  case round =>
   obtain ⟨s, r, q, os, rfl, rfl, hs, hsr2, hr, hg, rfl, HI⟩ := hrel
   obtain ⟨wq, hwq⟩ : ∃ wq, sWB enc k w blk off q d os = wq := ⟨_, rfl⟩
   have HWQ := Aside0.mk hwq
   rw [hwq]
   by_cases hlt : s < r
   ·have hltz : (s : Int) < (r : Int) := by omega
    obtain ⟨h, hh⟩ : ∃ h : Nat, ((s : Int) + (r : Int)) / 2 = (h : Int) := ⟨(s + r) / 2, by omega⟩
    have hsh : s ≤ h := by omega
    have hhr : h < r := by omega
    obtain ⟨hR1, hR2, hR3, hR4⟩ := (HRNG.out s0 r0 HS0.out).2.2.2 h (by omega) (by omega)
    obtain ⟨e, he⟩ : ∃ e : Nat, (p : Int) - (h : Int) = (e : Int) := ⟨p - h, by omega⟩
    have hee : e = nn - 1 - h := by omega
    have hwe : IntKind.i64.wrap (e : Int) = (e : Int) := by rw [IntKind.wrap_i64]; omega
    have hez : (e : Int) < (d.size : Int) := by omega
    have hhz : (h : Int) < (d.size : Int) := by omega
    have hed : e < d.size := by omega
    have hhd : h < d.size := by omega
    obtain ⟨xh, hxh⟩ : ∃ z, d[h]! = z := ⟨_, rfl⟩
    obtain ⟨ye, hye⟩ : ∃ z, d[e]! = z := ⟨_, rfl⟩
    have HXY := Aside0.mk (And.intro hxh hye)
    have hHc : ∀ q' os', HoldsK enc k (grow (redrawn wq q') os') blk off d := fun q' os' => by
     rw [← HWQ.out, sWB_regrown]
     exact sWB_holds enc k w blk off q' d d _ HH.out hblk rfl
    have lh : ∀ q' os', Sem.run P (loadCellsFrom ⟨blk, off + h * k, none⟩ 0 k #[]) (grow (redrawn wq q') os') = .ok (enc xh).toArray (grow (redrawn wq q') os') := fun q' os' => by
     rw [← hxh]; exact run_loadCellsFrom_list P _ _ _ k (HK.out _) (HoldsK.cells (hHc q' os') HK.out hhd)
    have le : ∀ q' os', Sem.run P (loadCellsFrom ⟨blk, off + e * k, none⟩ 0 k #[]) (grow (redrawn wq q') os') = .ok (enc ye).toArray (grow (redrawn wq q') os') := fun q' os' => by
     rw [← hye]; exact run_loadCellsFrom_list P _ _ _ k (HK.out _) (HoldsK.cells (hHc q' os') HK.out hed)
    have hcg : ∀ q' os', Calls P g (#[.agg (enc ye).toArray, .agg (enc xh).toArray] ++ cb) (grow (redrawn wq q') os') fun e w' => e = .returned (.int .i64 (cf ye xh)) ∧ Below (grow (redrawn wq q') os').heap.size (grow (redrawn wq q') os') w' := fun q' os' => by
     rw [← HWQ.out, sWB_regrown]
     exact HC.out q' _ d rfl ye xh
    have HEE := Aside0.mk hee
    clear hHc hxh hye hwq hee
    by_cases hlv : ¬ cf ye xh < 0
    ·have HLV := Aside0.mk (show ltOf cf ye xh = false from decide_eq_false hlv)
     have hdl : decide (cf ye xh < 0) = false := decide_eq_false hlv
     go_wp2_with fail
     refine wp_region_quiet_below (by assumption) (by kernel_rfl) ?_
     repeat (quiet_step ((go_at_fn g; refine Calls.regrown_of (hcg _ _))))
     refine wpQuiet_nil ?_
     intro _ hw'
     obtain ⟨⟨dq, osq⟩, hw''⟩ := hw'
     subst hw''
     go_wp2_with fail
     go_roundg (r - (h + 1))
     case measure => omega
     case rel =>
      refine ⟨h + 1, r, dq, os ++ osq, by go_num, rfl, by omega, by omega, hr, Nat.le_refl _, by rw [← HWQ.out, sWB_regrown], ⟨Or.inr ?_, HI.out.2⟩⟩
      rw [show nn - (h + 1) = e by have := HEE.out; omega, Nat.add_sub_cancel, HXY.out.1, HXY.out.2]
      exact HLV.out
    ·have hlv2 : cf ye xh < 0 := Classical.not_not.1 hlv
     have HLV := Aside0.mk (show ltOf cf ye xh = true from decide_eq_true hlv2)
     have hdl : decide (cf ye xh < 0) = true := decide_eq_true hlv2
     go_wp2_with fail
     refine wp_region_quiet_below (by assumption) (by kernel_rfl) ?_
     repeat (quiet_step ((go_at_fn g; refine Calls.regrown_of (hcg _ _))))
     refine wpQuiet_nil ?_
     intro _ hw'
     obtain ⟨⟨dq, osq⟩, hw''⟩ := hw'
     subst hw''
     go_wp2_with fail
     go_roundg (h - s)
     case measure => omega
     case rel =>
      refine ⟨s, h, dq, os ++ osq, rfl, rfl, hs, hsh, by omega, Nat.le_refl _, by rw [← HWQ.out, sWB_regrown], ⟨HI.out.1, Or.inr ?_⟩⟩
      rw [← HEE.out, HXY.out.1, HXY.out.2]
      exact HLV.out
   ·have hltz : ¬ (s : Int) < (r : Int) := by omega
    obtain rfl : s = r := by omega
    have HCUT : Aside0 (s - a ≤ X.length ∧ nn - s - m ≤ Y.length ∧ m + s ≤ nn ∧ a ≤ s ∧ s ≤ m ∧ nn - s ≤ b ∧ (∀ x ∈ X.drop (s - a), ∀ y ∈ Y.take (nn - s - m), ltOf cf y x = true) ∧ (∀ x ∈ X.take (s - a), ∀ y ∈ Y.drop (nn - s - m), ltOf cf y x = false)) := by
     obtain ⟨qa, qx, qy, _⟩ := HM.out
     have h0 := HS0.out
     have hsX : s - a ≤ X.length := by omega
     have htY : nn - s - m ≤ Y.length := by omega
     have hms : m + s ≤ nn := by omega
     refine ⟨⟨hsX, htY, hms, by omega, by omega, by omega, cut3 HSW.out HXs.out HYs.out (s - a) (nn - s - m) hsX htY ?_ ?_⟩⟩
     ·rcases HI.out.1 with e | e
      ·rcases h0 with ⟨h1, h2, h3⟩ | ⟨h1, h2, h3⟩
       ·exact Or.inr (Or.inl (by omega))
       ·exact Or.inl (by omega)
      ·by_cases z1 : s - a = 0
       ·exact Or.inl z1
       ·by_cases z2 : nn - s - m = Y.length
        ·exact Or.inr (Or.inl z2)
        ·refine Or.inr (Or.inr ⟨by omega, by omega, ?_⟩)
         rw [← HDX.out (s - a - 1) (by omega), ← HDY.out (nn - s - m) (by omega), show a + (s - a - 1) = s - 1 by omega, show m + (nn - s - m) = nn - s by omega]
         exact e
     ·rcases HI.out.2 with e | e
      ·rcases h0 with ⟨h1, h2, h3⟩ | ⟨h1, h2, h3⟩
       ·exact Or.inr (Or.inl (by omega))
       ·exact Or.inl (by omega)
      ·by_cases z1 : s - a = X.length
       ·exact Or.inl z1
       ·by_cases z2 : nn - s - m = 0
        ·exact Or.inr (Or.inl z2)
        ·refine Or.inr (Or.inr ⟨by omega, by omega, ?_⟩)
         rw [← HDX.out (s - a) (by omega), ← HDY.out (nn - s - m - 1) (by omega), show a + (s - a) = s by omega, show m + (nn - s - m - 1) = nn - 1 - s by omega]
         exact e
    have hst0 : wq = sWB enc k w blk off q d os := HWQ.out.symm
    have HST2 := Aside0.mk hst0
    obtain ⟨hsX, htY, hms, has, hsm, hnsb, _⟩ := HCUT.out
    obtain ⟨e, hez⟩ : ∃ e : Nat, (nn : Int) - (s : Int) = (e : Int) := ⟨nn - s, by omega⟩
    have hee : e = nn - s := by omega
    have hme : m ≤ e := by omega
    have heb : e ≤ b := by omega
    have HEE := Aside0.mk hee
    clear hst0 hwq HWQ HI HS0 HRNG hee hsX htY hms hnsb
    go_upto_region 39 with fail
    exact sym_t39 L enc k aE zE HK.out H1.out cf HSW.out g cb blk off cap N HIH A X Y B d w a m b s e mid nn HM HXs HYs HH HC hblk hsz hbd hmb hmid2 hmid1 hnn has hsm hme heb HEE HCUT q os HD wq HST2 _ _ _ _ _ _ _ _ _ _ _ _ _ _ _ _ _ _ _ _ _ _ _ _ _ _ _ _ _ _ _ _ _ _ _ _ _ _ _ _ _ _ _ _ _ _ _ _ _ _ _ _ _ _ _ _ _ _ _ _ _ _ _ _ _ _ _ _ _ _ _ _ _ _ _ _ _ _ _ _ _ _ _ _ _ _ _ _ _ _ _ _ _ _ _ _ _ _ _ _ _ _ _ _ _ _ _ _ _ _ _ _ _ _ _ _ _ _ _ _ _ _ _ _ _ _ _ _ _ _ _ _ _ _ _ _ _ _ _ _ _ _ _ _ _ _ _ _ _ _ _ _ _ _ _ _ _ _ _ _ _ _ _ _ _ _ _ _ _ _ _ _ _ _ _ _ _ _ _ _ _ _ _ _ _ _ _ _ _ _ _ _ _ _ _ _ _ _ _ _ _ _ _ _ _ _ _ _ _ _ _ _ _ _ _ (by kernel_rfl) (by kernel_rfl) (by kernel_rfl) _ _ _ rfl (by assumption) (by assumption)
theorem symMerge_call {P : Program} (L : LS P) {α : Type} [Inhabited α] (enc : α → List Value) (k : Nat) (aE : ∀ w, (isAgg 43).run P w = .ok true w) (zE : ∀ w, (Go.sizeOf 43).run P w = .ok k w) (hk : ∀ x, (enc x).length = k) (h1 : ∀ x, ∀ v ∈ enc x, v.oneCell' = true)
  (cf : α → α → Int) (hS : SWO (ltOf cf)) (g : Nat) (cb : Array Value) (eg : ∀ args w, (callFunc g args).run P w = .ok (.enter g args) w) (blk off cap : Nat) : ∀ N, SymT P enc k cf g cb blk off cap N := by
 intro N
 induction N with
 | zero =>
  intro A X Y B d w a m b hN hX0 hY0
  have := List.length_pos_iff.2 hX0
  omega
 | succ N ih =>
  intro A X Y B d w a m b hN hX0 hY0 hcmp hH hblk hd hX hY ha hm hb hsz
  have p1 := List.length_pos_iff.2 hX0
  have p2 := List.length_pos_iff.2 hY0
  by_cases e1 : X.length = 1
  ·obtain ⟨x, rfl⟩ := List.length_eq_one_iff.1 e1
   exact sym1_call L enc k aE zE hk h1 cf hS g cb eg blk off cap A x Y B d w hcmp hH hblk (by rw [hd]; rfl) hY a m b ha (by rw [hm, e1]) (by rw [hb, e1]) hsz
  ·by_cases e2 : Y.length = 1
   ·obtain ⟨y, rfl⟩ := List.length_eq_one_iff.1 e2
    exact sym2_call L enc k aE zE hk h1 cf hS g cb eg blk off cap A X y B d w hcmp hH hblk (by rw [hd]; rfl) hX e1 a m b ha hm (by rw [hb, e2]) hsz
   ·exact sym3_call L enc k aE zE hk h1 cf hS g cb eg blk off cap N ih A X Y B d w a m b hN (by omega) (by omega) hcmp hH hblk hd hX hY ha hm hb hsz
end Go.Proofs.Ytodbmagneaiocaa.PA
namespace Go.Proofs.Ytodbmagneaiocaa.PA
open Go.RowKit Go.Proofs.YtodbmagneaiocaaW.PrintWords Go.Proofs.YtodbmagneaiocaaW.PrintLast Go.Proofs.YtodbmagneaiocaaW.PrintMore
attribute [local go_sem] max2_int min2_int max_two min_two max_three min_three max_four min_four
set_option linter.unusedVariables false
set_option linter.unusedSimpArgs false
open Go Go.Shelf Go.Lib Go.Sort
inductive Blk {α : Type} (lt : α → α → Bool) (bs : Nat) : List α → Prop
 | last (Z : List α) : Z.length ≤ bs → SortedL lt Z → Blk lt bs Z
 | more (Z L : List α) : Z.length = bs → SortedL lt Z → Blk lt bs L → Blk lt bs (Z ++ L)
inductive Full {α : Type} (lt : α → α → Bool) (bs : Nat) : List α → Prop
 | none : Full lt bs []
 | more (P Z : List α) : Full lt bs P → Z.length = bs → SortedL lt Z → Full lt bs (P ++ Z)
theorem Full.blk {α : Type} {lt : α → α → Bool} {bs : Nat} {P : List α} (h : Full lt bs P) : ∀ R, Blk lt bs R → Blk lt bs (P ++ R) := by
 induction h with
 | none => intro R hR; exact hR
 | more P Z _ h1 h2 ih =>
  intro R hR
  rw [List.append_assoc]
  exact ih _ (Blk.more Z R h1 h2 hR)
theorem Blk.small {α : Type} {lt : α → α → Bool} {bs : Nat} {R : List α} (h : Blk lt bs R) : R.length ≤ bs → SortedL lt R := by
 induction h with
 | last Z h1 h2 => intro _; exact h2
 | more Z L h1 h2 _ _ =>
  intro h
  rw [List.length_append] at h
  rw [List.length_eq_zero_iff.1 (show L.length = 0 by omega), List.append_nil]
  exact h2
theorem Blk.one {α : Type} {lt : α → α → Bool} {bs : Nat} {R : List α} (h : Blk lt bs R) (h1 : bs < R.length) : ∃ Z L, R = Z ++ L ∧ Z.length = bs ∧ SortedL lt Z ∧ Blk lt bs L := by
 cases h with
 | last Z h2 _ => exact absurd h2 (by omega)
 | more Z L h2 h3 h4 => exact ⟨Z, L, rfl, h2, h3, h4⟩
theorem Blk.two {α : Type} {lt : α → α → Bool} {bs : Nat} {R : List α} (hb : 0 < bs) (h : Blk lt bs R) (h1 : 2 * bs ≤ R.length) : ∃ Z1 Z2 L, R = Z1 ++ (Z2 ++ L) ∧ Z1.length = bs ∧ Z2.length = bs ∧ SortedL lt Z1 ∧ SortedL lt Z2 ∧ Blk lt bs L := by
 obtain ⟨Z, L, rfl, h2, h3, h4⟩ := h.one (by omega)
 rw [List.length_append] at h1
 by_cases e : L.length = bs
 ·exact ⟨Z, L, [], by simp, h2, e, h3, h4.small (by omega), Blk.last [] (by simp) List.Pairwise.nil⟩
 ·obtain ⟨Z2, L2, rfl, h5, h6, h7⟩ := h4.one (by omega)
  exact ⟨Z, Z2, L2, rfl, h2, h5, h3, h6, h7⟩
set_option maxHeartbeats 8000000 in
set_option maxRecDepth 1000000 in
theorem stable_call {P : Program} (L : LS P) {α : Type} [Inhabited α] (enc : α → List Value) (k : Nat) (aE : ∀ w, (isAgg 43).run P w = .ok true w) (zE : ∀ w, (Go.sizeOf 43).run P w = .ok k w) (hk : ∀ x, (enc x).length = k) (h1 : ∀ x, ∀ v ∈ enc x, v.oneCell' = true)
  (cf : α → α → Int) (hS : SWO (ltOf cf)) (g : Nat) (cb : Array Value) (eg : ∀ args w, (callFunc g args).run P w = .ok (.enter g args) w) (blk off cap : Nat) (d : Array α) (w : World) (hcmp : CmpB P g cb enc k cf blk off d.size w) (hH : HoldsK enc k w blk off d) (hblk : blk < w.heap.size) (n : Nat) (hn : n = d.size) (hsz : d.size < 1000000000000) :
  Calls P 44 #[.slice (some ⟨blk, off, none⟩) d.size cap, .int .i64 n, .func (.func g) #[] cb] w fun e w' =>
   e = .returned (.tuple #[]) ∧ ∃ q os dk, StP (ltOf cf) d.toList dk.toList ∧ SortedL (ltOf cf) dk.toList ∧ dk.size = d.size ∧ w' = sWB enc k w blk off q dk os := by
 have mixed := L.mixed
 have t3 := L.t3; have a3 := L.a3; have z3 := L.z3; have v3 := L.v3; have t4 := L.t4; have a4 := L.a4; have z4 := L.z4; have v4 := L.v4; have t68 := L.t68; have a68 := L.a68; have z68 := L.z68; have v68 := L.v68; have t22 := L.t22; have a22 := L.a22; have z22 := L.z22; have v22 := L.v22
 have F := L.f44
 have eins := L.e46
 have esy := L.e47
 have HST : Hid (w = sWB enc k w blk off w.drawn d #[]) := (sWB_start enc k w blk off d hH).symm
 have HN := Aside0.mk hn
 have hin : Aside0 (∀ (q : Nat) (os : Array Obj) (dk : Array α) (A X B : List α) (a b : Nat), dk.size = d.size → dk.toList = A ++ (X ++ B) → a = A.length → b = A.length + X.length → Calls P 46 #[.slice (some ⟨blk, off, none⟩) d.size cap, .int .i64 a, .int .i64 b, .func (.func g) #[] cb] (sWB enc k w blk off q dk os) fun e w' => e = .returned (.tuple #[]) ∧ ∃ q' os' dk', (∃ Z, dk'.toList = A ++ (Z ++ B) ∧ StP (ltOf cf) X Z ∧ SortedL (ltOf cf) Z) ∧ dk'.size = d.size ∧ w' = sWB enc k w blk off q' dk' os') := ⟨fun q os dk A X B a b x1 x2 x3 x4 => by
  have h := ins_call L enc k aE zE hk h1 cf hS g cb eg blk off cap A X B dk (sWB enc k w blk off q dk os) (by rw [x1]; exact CmpB.on hcmp hblk q dk os x1) (sWB_holds enc k w blk off q d dk os hH hblk x1) (Nat.lt_of_lt_of_le hblk (sWB_size enc k w blk off q dk os)) x2 a b x3 x4 (by omega)
  rw [x1] at h
  refine h.mono ?_
  rintro e w' ⟨he, q', os', dk', hz, hs, rfl⟩
  exact ⟨he, q', _, dk', hz, hs, sWB_on enc k w blk off q q' dk dk' os os' hblk (hs.trans x1.symm)⟩⟩
 have hme : Aside0 (∀ (q : Nat) (os : Array Obj) (dk : Array α) (A X Y B : List α) (a m b : Nat), dk.size = d.size → dk.toList = A ++ (X ++ (Y ++ B)) → X ≠ [] → Y ≠ [] → SortedL (ltOf cf) X → SortedL (ltOf cf) Y → a = A.length → m = A.length + X.length → b = A.length + X.length + Y.length → Calls P 47 #[.slice (some ⟨blk, off, none⟩) d.size cap, .int .i64 a, .int .i64 m, .int .i64 b, .func (.func g) #[] cb] (sWB enc k w blk off q dk os) fun e w' => e = .returned (.tuple #[]) ∧ ∃ q' os' dk', (∃ Z, dk'.toList = A ++ (Z ++ B) ∧ StP (ltOf cf) (X ++ Y) Z ∧ SortedL (ltOf cf) Z) ∧ dk'.size = d.size ∧ w' = sWB enc k w blk off q' dk' os') := ⟨fun q os dk A X Y B a m b x1 x2 x3 x4 x5 x6 x7 x8 x9 => by
  have h := symMerge_call L enc k aE zE hk h1 cf hS g cb eg blk off cap (X.length + Y.length) A X Y B dk (sWB enc k w blk off q dk os) a m b (Nat.le_refl _) x3 x4 (by rw [x1]; exact CmpB.on hcmp hblk q dk os x1) (sWB_holds enc k w blk off q d dk os hH hblk x1) (Nat.lt_of_lt_of_le hblk (sWB_size enc k w blk off q dk os)) x2 x5 x6 x7 x8 x9 (by omega)
  rw [x1] at h
  refine h.mono ?_
  rintro e w' ⟨he, q', os', dk', hz, hs, rfl⟩
  exact ⟨he, q', _, dk', hz, hs, sWB_on enc k w blk off q q' dk dk' os os' hblk (hs.trans x1.symm)⟩⟩
 have hnz : n < 1000000000000 := by omega
 have HSZ : Aside0 (d.toList.length = n) := ⟨by rw [Array.length_toList, hn]⟩
 clear hcmp hH hk h1 hn hS eg
 go_enter F, Try.ntmps44
 go_wp2
 go_loopg [7, 8] n (fun gg v7 v8 wr => ∃ (a b q : Nat) (os : Array Obj) (dk : Array α), v7 = .int .i64 a ∧ v8 = .int .i64 b ∧ a < b ∧ a ≤ n ∧ n - a ≤ gg ∧ wr = sWB enc k w blk off q dk os ∧ Hid (b = a + 20 ∧ dk.size = d.size ∧ ∃ Pp, dk.toList = Pp ++ d.toList.drop a ∧ Pp.length = a ∧ StP (ltOf cf) (d.toList.take a) Pp ∧ Full (ltOf cf) 20 Pp))
 case atStart => exact ⟨0, 20, _, #[], d, rfl, rfl, by omega, by omega, by omega, HST.out, ⟨rfl, rfl, [], by simp, rfl, by simp; exact StP.refl _, Full.none⟩⟩
 case round =>
  obtain ⟨a, b, q, os, dk, rfl, rfl, hab, han, hg, rfl, HP⟩ := hrel
  by_cases hbn : b ≤ n
  ·have hz : (b : Int) ≤ (n : Int) := by omega
   obtain ⟨q1, q2, Pp0, q3, q4, q5, q6⟩ := HP.out
   have hs := HSZ.out
   have hc := hin.out q os dk Pp0 ((d.toList.drop a).take 20) ((d.toList.drop a).drop 20) a b q2 (by rw [q3, List.take_append_drop]) q4.symm (by rw [List.length_take, List.length_drop]; omega)
   have HQ5 := Aside0.mk (And.intro q1 (And.intro q2 (And.intro q3 (And.intro q4 (And.intro q5 q6)))))
   clear q1 q2 q3 q4 q5 q6 hs
   go_wp2_with (go_at_call 46; refine hc.mono ?_; rintro e9 w9 ⟨rfl, q9, os9, d9, hZ9, hs9, rfl⟩)
   go_roundg (n - b)
   case measure => omega
   case rel =>
    obtain ⟨q1, q2, q3, q4, q5, q6⟩ := HQ5.out
    obtain ⟨Z, z1, z2, z3⟩ := hZ9
    have hs := HSZ.out
    have hlz : Z.length = 20 := by rw [z2.len, List.length_take, List.length_drop]; omega
    refine ⟨b, b + 20, q9, os9, d9, rfl, by go_num, by omega, hbn, Nat.le_refl _, rfl, ⟨rfl, hs9, Pp0 ++ Z, ?_, by rw [List.length_append]; omega, ?_, Full.more Pp0 Z q6 hlz z3⟩⟩
    ·rw [z1, List.drop_drop, ← q1, List.append_assoc]
    ·rw [q1, List.take_add]
     exact q5.app z2
  ·have hz : ¬ (b : Int) ≤ (n : Int) := by omega
   obtain ⟨q1, q2, Pp0, q3, q4, q5, q6⟩ := HP.out
   have hs := HSZ.out
   have hc := hin.out q os dk Pp0 (d.toList.drop a) [] a n q2 (by rw [q3, List.append_nil]) q4.symm (by rw [List.length_drop]; omega)
   have HQ5 := Aside0.mk (And.intro q1 (And.intro q2 (And.intro q3 (And.intro q4 (And.intro q5 q6)))))
   clear q1 q2 q3 q4 q5 q6 hs
   go_wp2_with (go_at_call 46; refine hc.mono ?_; rintro e9 w9 ⟨rfl, q9, os9, d9, hZ9, hs9, rfl⟩)
   have hst : Hid (d9.size = d.size ∧ StP (ltOf cf) d.toList d9.toList ∧ Blk (ltOf cf) 20 d9.toList) := by
    obtain ⟨q1, q2, q3, q4, q5, q6⟩ := HQ5.out
    obtain ⟨Z, z1, z2, z3⟩ := hZ9
    have hs := HSZ.out
    refine ⟨hs9, ?_, ?_⟩
    ·rw [z1, List.append_nil]
     have := q5.app z2
     rwa [List.take_append_drop] at this
    ·rw [z1, List.append_nil]
     exact q6.blk Z (Blk.last Z (by rw [z2.len, List.length_drop]; omega) z3)
   clear hZ9 HP hin hc
   go_loopg [6, 7, 8, 9] n (fun gg v6 v7 v8 v9 wr => ∃ (bs q : Nat) (os : Array Obj) (dk : Array α), v6 = .int .i64 bs ∧ 0 < bs ∧ bs < 10000000000000 ∧ n - bs ≤ gg ∧ wr = sWB enc k w blk off q dk os ∧ Hid (dk.size = d.size ∧ StP (ltOf cf) d.toList dk.toList ∧ Blk (ltOf cf) bs dk.toList))
   case atStart => exact ⟨20, q9, os9, d9, rfl, by omega, by omega, by omega, rfl, hst⟩
   case round =>
    obtain ⟨bs, q2, os2, dk2, rfl, hbs0, hbs1, hg2, rfl, HB⟩ := hrel
    by_cases hbn2 : bs < n
    ·have hz2 : (bs : Int) < (n : Int) := by omega
     go_wp2_with fail
     go_loopg [7, 8] n (fun gg v7 v8 wr => ∃ (a b q : Nat) (os : Array Obj) (dk : Array α), v7 = .int .i64 a ∧ v8 = .int .i64 b ∧ a + bs < b ∧ a ≤ n ∧ n - a ≤ gg ∧ wr = sWB enc k w blk off q dk os ∧ Hid (b = a + 2 * bs ∧ dk.size = d.size ∧ StP (ltOf cf) d.toList dk.toList ∧ ∃ Pp Rr, dk.toList = Pp ++ Rr ∧ Pp.length = a ∧ Full (ltOf cf) (2 * bs) Pp ∧ Blk (ltOf cf) bs Rr))
     case atStart => exact ⟨0, 2 * bs, q2, os2, dk2, rfl, by go_num, by omega, by omega, by omega, rfl, ⟨by omega, HB.out.1, HB.out.2.1, [], _, rfl, rfl, Full.none, HB.out.2.2⟩⟩
     case round =>
      obtain ⟨a, b, q3, os3, dk, rfl, rfl, hab3, han3, hg3, rfl, HQ⟩ := hrel
      by_cases hbn3 : b ≤ n
      ·have hz3 : (b : Int) ≤ (n : Int) := by omega
       have hsp : Aside0 (∃ Pp Z1 Z2 Rr, dk.toList = Pp ++ (Z1 ++ (Z2 ++ Rr)) ∧ Pp.length = a ∧ Full (ltOf cf) (2 * bs) Pp ∧ Z1.length = bs ∧ Z2.length = bs ∧ SortedL (ltOf cf) Z1 ∧ SortedL (ltOf cf) Z2 ∧ Blk (ltOf cf) bs Rr) := by
        obtain ⟨u1, u2, u3, Pp, Rr, u4, u5, u6, u7⟩ := HQ.out
        have hs := HSZ.out
        have hl : Pp.length + Rr.length = n := by rw [← List.length_append, ← u4, Array.length_toList, u2, ← HN.out]
        obtain ⟨Z1, Z2, L2, rfl, y1, y2, y3, y4, y5⟩ := u7.two hbs0 (by omega)
        exact ⟨Pp, Z1, Z2, L2, u4, u5, u6, y1, y2, y3, y4, y5⟩
       obtain ⟨Pp, Z1, Z2, Rr, y0, y1, y2, y3, y4, y5, y6, y7⟩ := hsp.out
       obtain ⟨mm, hmm⟩ : ∃ mm : Nat, (a : Int) + (bs : Int) = (mm : Int) := ⟨a + bs, by omega⟩
       have hc := hme.out q3 os3 dk Pp Z1 Z2 Rr a mm b HQ.out.2.1 y0 (fun h => by rw [h] at y3; simp at y3; omega) (fun h => by rw [h] at y4; simp at y4; omega) y5 y6 y1.symm (by omega) (by have := HQ.out.1; omega)
       have HY := Aside0.mk (And.intro y0 (And.intro y1 (And.intro y2 (And.intro y3 (And.intro y4 y7)))))
       clear y0 y1 y2 y3 y4 y5 y6 y7 hsp
       go_wp2_with (go_at_call 47; refine hc.mono ?_; rintro e8 w8 ⟨rfl, q8, os8, d8, hZ8, hs8, rfl⟩)
       go_roundg (n - b)
       case measure => omega
       case rel =>
        obtain ⟨u1, u2, u3, _⟩ := HQ.out
        obtain ⟨y0, y1, y2, y3, y4, y7⟩ := HY.out
        obtain ⟨Z, z1, z2, z3⟩ := hZ8
        have hlz : Z.length = 2 * bs := by rw [z2.len, List.length_append]; omega
        refine ⟨b, b + 2 * bs, q8, os8, d8, rfl, by go_num, by omega, hbn3, Nat.le_refl _, rfl, ⟨rfl, hs8, ?_, Pp ++ Z, Rr, by rw [z1, List.append_assoc], by rw [List.length_append]; omega, Full.more Pp Z y2 hlz z3, y7⟩⟩
        refine u3.trans ?_
        rw [y0, z1, ← List.append_assoc Z1]
        exact (StP.refl _).app (z2.app (StP.refl _))
      ·have hz3 : ¬ (b : Int) ≤ (n : Int) := by omega
       obtain ⟨mm, hmm⟩ : ∃ mm : Nat, (a : Int) + (bs : Int) = (mm : Int) := ⟨a + bs, by omega⟩
       have hmm2 : mm = a + bs := by omega
       by_cases hmn : mm < n
       ·have hz4 : (mm : Int) < (n : Int) := by omega
        have hsp : Aside0 (∃ Pp Z1 Z2, dk.toList = Pp ++ (Z1 ++ (Z2 ++ [])) ∧ Pp.length = a ∧ Full (ltOf cf) (2 * bs) Pp ∧ Z1.length = bs ∧ 0 < Z2.length ∧ a + bs + Z2.length = n ∧ SortedL (ltOf cf) Z1 ∧ SortedL (ltOf cf) Z2) := by
         obtain ⟨u1, u2, u3, Pp, Rr, u4, u5, u6, u7⟩ := HQ.out
         have hl : Pp.length + Rr.length = n := by rw [← List.length_append, ← u4, Array.length_toList, u2, ← HN.out]
         obtain ⟨Z1, Z2, rfl, y1, y2, y3⟩ := u7.one (by omega)
         rw [List.length_append] at hl
         exact ⟨Pp, Z1, Z2, by rw [List.append_nil]; exact u4, u5, u6, y1, by omega, by omega, y2, y3.small (by omega)⟩
        obtain ⟨Pp, Z1, Z2, y0, y1, y2, y3, y4, y5, y6, y7⟩ := hsp.out
        have hc := hme.out q3 os3 dk Pp Z1 Z2 [] a mm n HQ.out.2.1 y0 (fun h => by rw [h] at y3; simp at y3; omega) (fun h => by rw [h] at y4; simp at y4) y6 y7 y1.symm (by omega) (by omega)
        have HY := Aside0.mk (And.intro y0 (And.intro y1 (And.intro y2 (And.intro y3 (And.intro y4 y5)))))
        have HMM := Aside0.mk hmm2
        clear y0 y1 y2 y3 y4 y5 y6 y7 hsp hmm2
        go_wp2_with (go_at_call 47; refine hc.mono ?_; rintro e8 w8 ⟨rfl, q8, os8, d8, hZ8, hs8, rfl⟩)
        go_roundg (n - 2 * bs)
        case measure => omega
        case rel =>
         obtain ⟨u1, u2, u3, _⟩ := HQ.out
         obtain ⟨y0, y1, y2, y3, y4, y5⟩ := HY.out
         obtain ⟨Z, z1, z2, z3⟩ := hZ8
         refine ⟨2 * bs, q8, os8, d8, by first | go_num | (congr 1; omega), by omega, by omega, Nat.le_refl _, rfl, ⟨hs8, ?_, ?_⟩⟩
         ·refine u3.trans ?_
          rw [y0, z1, ← List.append_assoc Z1]
          exact (StP.refl _).app (z2.app (StP.refl _))
         ·rw [z1, List.append_nil]
          exact y2.blk Z (Blk.last Z (by rw [z2.len, List.length_append]; omega) z3)
       ·have hz4 : ¬ (mm : Int) < (n : Int) := by omega
        have HMM := Aside0.mk hmm2
        clear hmm2
        go_wp2_with fail
        go_roundg (n - 2 * bs)
        case measure => omega
        case rel =>
         obtain ⟨u1, u2, u3, Pp, Rr, u4, u5, u6, u7⟩ := HQ.out
         have hl : Pp.length + Rr.length = n := by rw [← List.length_append, ← u4, Array.length_toList, u2, ← HN.out]
         have hm := HMM.out
         refine ⟨2 * bs, q3, os3, dk, by first | go_num | (congr 1; omega), by omega, by omega, Nat.le_refl _, rfl, ⟨u2, u3, ?_⟩⟩
         rw [u4]
         exact u6.blk Rr (Blk.last Rr (by omega) (u7.small (by omega)))
    ·have hz2 : ¬ (bs : Int) < (n : Int) := by omega
     go_wp2_with fail
     go_end0
     have hs := HSZ.out
     exact ⟨rfl, q2, os2, dk2, HB.out.2.1, HB.out.2.2.small (by rw [Array.length_toList, HB.out.1, ← HN.out]; omega), HB.out.1, rfl⟩
end Go.Proofs.Ytodbmagneaiocaa.PA
namespace Go.Proofs.Ytodbmagneaiocaa.PA
open Go.RowKit Go.Proofs.YtodbmagneaiocaaW.PrintWords Go.Proofs.YtodbmagneaiocaaW.PrintLast Go.Proofs.YtodbmagneaiocaaW.PrintMore
attribute [local go_sem] max2_int min2_int max_two min_two max_three min_three max_four min_four
set_option linter.unusedVariables false
set_option linter.unusedSimpArgs false
theorem split_same20 (a b : ByteArray) (h : splitL a = splitL b) : a = b := by
 rw [← joinB_split a, ← joinB_split b, h]
end Go.Proofs.Ytodbmagneaiocaa.PA
namespace Go.Proofs.Ytodbmagneaiocaa.PA
open Go.RowKit Go.Proofs.YtodbmagneaiocaaW.PrintWords Go.Proofs.YtodbmagneaiocaaW.PrintLast Go.Proofs.YtodbmagneaiocaaW.PrintMore
attribute [local go_sem] max2_int min2_int max_two min_two max_three min_three max_four min_four
set_option linter.unusedVariables false
set_option linter.unusedSimpArgs false
theorem made_none {α : Type} (d : Kd α) (e : Nat) (W : World) {b : Nat} (hb : b ≤ W.heap.size) : d.R e (W.alloc (.cells #[] e)) b (fun _ => True) (.slice (some ⟨W.heap.size, 0, none⟩) 0 0) [] :=
 ⟨fun _ _ => trivial, [], ⟨by simp, Or.inr ⟨W.heap.size, 0, #[], rfl, hb, blk_new W _, Nat.le_refl _, by simp [maxLen], by simp, by simp⟩⟩, Reps.none _ _⟩
set_option maxHeartbeats 2000000 in
set_option maxRecDepth 100000 in
theorem clone_call (A0 : Option Addr) (c0 : Nat) (l : List S43) (w : World) (hr : Kd.C k43 w A0 l.length l) (hl : l.length < 1000000000) :
  Calls Try.prog 39 #[.slice A0 l.length c0] w fun e w' => ∃ v, e = .returned v ∧ Kd.R k43 43 w' w.heap.size (fun _ => True) v l ∧ Below w.heap.size w w' := by
 have hu := Try.underlying43
 have HR := Aside0.mk hr
 have HL := Aside0.mk hl
 have HB := Aside0.mk (Below.refl w.heap.size w)
 cases A0 with
 | none =>
  have hnil : l = [] := by
   cases l with
   | nil => rfl
   | cons x t =>
    obtain ⟨ad, h, _⟩ := hr.2.2 (by simp)
    exact absurd h (by simp)
  subst hnil
  clear hr hl
  have hq : ∀ W, (binOp .eql 22 (.slice none 0 c0) (.slice none 0 0)).run Try.prog W = .ok (.bool true) W := fun W => (run_eql_nil_slice W 22 43 none 0 c0 0 0 Try.underlying22)
  go_enter Try.func39, Try.ntmps39
  go_wp2
  go_ret
  exact ⟨_, rfl, Kd.R_nil _ _ _ _ _, HB.out⟩
 | some ad =>
  clear hr hl
  have hq : ∀ W, (binOp .eql 22 (.slice (some ad) l.length c0) (.slice none 0 0)).run Try.prog W = .ok (.bool false) W := fun W => (run_eql_nil_slice W 22 43 (some ad) l.length c0 0 0 Try.underlying22)
  go_enter Try.func39, Try.ntmps39
  go_wp2_with (first | ((with_reducible refine gate_builtin (b := .append) (xs := #[.tmp 5, .tmp 6]) rfl ?_); at_builtin; refine Kd.R_append_rows k43 (Rr := k43.K (w.alloc (.cells #[] 43))) (w0 := w) w.heap.size rfl (.tmp 5) (.tmp 6) 22 43 (.agg #[(.string ⟨#[]⟩), (.int .i64 0), (.int .i64 0), (.int .i64 0), (.int .i64 0), (.int .i64 0), (.int .i64 0), (.int .i64 0), (.string ⟨#[]⟩), (.string ⟨#[]⟩), (.int .i64 0)]) 112 rfl Try.underlying22 info43 rfl (by decide) (by omega) (.slice (some ⟨w.heap.size, 0, none⟩) 0 0) ([] : List S43) l _ _ _ (fun _ => True) (fun _ => False) rfl rfl ?aO ?aR (fun x cs h => by rw [k43_open h]; exact k43_mkM _ _ _ x) (fun _ h => h.elim) ?aF ?aB ?aS ?aL ?_; (case aR => exact (Kd.C_below HR.out (by repeat (first | (with_reducible first | exact HB.out | apply below_alloc | apply pw_below_drewN | apply below_drew1) | exact HB.out)))); (case aB => exact (by repeat (first | (with_reducible first | exact HB.out | apply below_alloc | apply pw_below_drewN | apply below_drew1) | exact HB.out))); (case aF => exact (fun _ _ => trivial)); (case aO => exact made_none k43 43 w (Nat.le_refl _)); (case aS => exact below_size (by repeat (first | (with_reducible first | exact HB.out | apply below_alloc | apply pw_below_drewN | apply below_drew1) | exact HB.out))); (case aL => have := HL.out; simp; omega); intro v5 w5 ho hb hg hat; have n0_ := Aside0.mk hb; have n1_ := Aside0.mk ho; clear HB; have HB := n0_; have HO := n1_; clear n0_ n1_ ho hb hg hat))
  go_ret
  exact ⟨_, rfl, HO.out, HB.out⟩
end Go.Proofs.Ytodbmagneaiocaa.PA
namespace Go.Proofs.Ytodbmagneaiocaa.PA
open Go.RowKit Go.Proofs.YtodbmagneaiocaaW.PrintWords Go.Proofs.YtodbmagneaiocaaW.PrintLast Go.Proofs.YtodbmagneaiocaaW.PrintMore
attribute [local go_sem] max2_int min2_int max_two min_two max_three min_three max_four min_four
set_option linter.unusedVariables false
set_option linter.unusedSimpArgs false
open Go Go.Shelf Go.Lib Go.Sort
theorem ltS_irr (x : S43) : ltS x x = false := decide_eq_false (cmp_irr _)
theorem ltS_trans (x y z : S43) (h : ltS x y = true) (h2 : ltS y z = true) : ltS x z = true := decide_eq_true (cmp_trans _ _ _ (of_decide_eq_true h) (of_decide_eq_true h2))
theorem ltS_ntrans (x y z : S43) (h : ltS x y = false) (h2 : ltS y z = false) : ltS x z = false := by
 refine decide_eq_false (fun hn => ?_)
 have h := of_decide_eq_false h
 have h2 := of_decide_eq_false h2
 by_cases e : cmpL (splitL y.f0) (splitL x.f0) < 0
 ·exact h2 (cmp_trans _ _ _ e hn)
 ·rw [cmp_tri _ _ h e] at hn
  exact h2 hn
theorem swoS : SWO ltS := ⟨ltS_irr, ltS_trans, ltS_ntrans⟩
theorem swo43 : SWO (ltOf cf43) := ⟨fun x => by rw [ltOf_cf43]; exact ltS_irr _, fun x y z h h2 => by rw [ltOf_cf43] at *; exact ltS_trans _ _ _ h h2, fun x y z h h2 => by rw [ltOf_cf43] at *; exact ltS_ntrans _ _ _ h h2⟩
theorem sorted_map43 (m : List E43) (h : SortedL (ltOf cf43) m) : SortedL ltS (m.map (·.1)) := by
 unfold SortedL at *
 rw [List.pairwise_map]
 exact h.imp (fun {a b} h => by rwa [ltOf_cf43] at h)
theorem stp_map43 (m r : List E43) (h : StP (ltOf cf43) m r) : StP ltS (m.map (·.1)) (r.map (·.1)) := by
 refine ⟨h.1.map _, fun c => ?_⟩
 rw [List.filter_map, List.filter_map]
 by_cases hc : sml c.f0
 ·have := h.2 ⟨c, hc⟩
  have e : (eqvB ltS c ∘ fun x : E43 => x.1) = eqvB (ltOf cf43) ⟨c, hc⟩ := by
   funext y
   unfold eqvB
   rw [ltOf_cf43, ltOf_cf43]
   rfl
  rw [e, this]
 ·have e : ∀ l : List E43, l.filter (eqvB ltS c ∘ fun x : E43 => x.1) = [] := fun l => by
   rw [List.filter_eq_nil_iff]
   intro y _ hy
   simp only [Function.comp, eqvB, Bool.and_eq_true, Bool.not_eq_true'] at hy
   have := cmp_tri _ _ (of_decide_eq_false hy.1) (of_decide_eq_false hy.2)
   have := split_same20 _ _ this
   exact hc (this ▸ y.2)
  rw [e, e]
theorem ins_nil (fv : Value) (w : World) : Calls Try.prog 46 #[.slice none 0 0, .int .i64 0, .int .i64 0, fv] w fun e w' => e = .returned (.tuple #[]) ∧ Below w.heap.size w w' := by
 go_enter Try.func46, Try.ntmps46
 go_wp2
 go_loopw [8] (fun v8 wr => v8 = .int .i64 1 ∧ wr = w) (fun _ _ => 0)
 case atStart => exact ⟨rfl, rfl⟩
 case round =>
  obtain ⟨rfl, rfl⟩ := hrel
  go_wp2
  go_end0
  exact ⟨rfl, Below.refl _ _⟩
theorem stable_nil (fv : Value) (w : World) : Calls Try.prog 44 #[.slice none 0 0, .int .i64 0, fv] w fun e w' => e = .returned (.tuple #[]) ∧ Below w.heap.size w w' := by
 have hi := fun W => ins_nil fv W
 have HB := Aside0.mk (Below.refl w.heap.size w)
 go_enter Try.func44, Try.ntmps44
 go_wp2
 go_loopw [7, 8] (fun v7 v8 wr => v7 = .int .i64 0 ∧ v8 = .int .i64 20 ∧ wr = w) (fun _ _ _ => 0)
 case atStart => exact ⟨rfl, rfl, rfl⟩
 case round =>
  obtain ⟨rfl, rfl, rfl⟩ := hrel
  go_wp2_with (go_at_call 46; (with_reducible refine (hi _).mono ?_); rintro e w1 ⟨rfl, hb⟩; have n0_ := Aside0.mk (below_step HB.out hb); clear HB hb; have HB := n0_; clear n0_)
  go_loopw [6, 7, 8, 9] (fun v6 v7 v8 v9 wr2 => v6 = .int .i64 20 ∧ Aside0 (Below wr.heap.size wr wr2)) (fun _ _ _ _ _ => 0)
  case atStart => exact ⟨rfl, HB⟩
  case round =>
   obtain ⟨rfl, HB⟩ := hrel
   go_wp2
   go_end0
   exact ⟨rfl, HB.out⟩
theorem below_pt {w w' : World} {g : Nat} {v : Value} (h : Below (g + 1) w w') (hg : w.cell? ⟨g, 0, none⟩ = some v) : w'.cell? ⟨g, 0, none⟩ = some v := by
 have := h.block g (Nat.lt_succ_self g)
 rw [← hg]
 unfold World.cell?
 rw [this]
set_option maxHeartbeats 2000000 in
set_option maxRecDepth 100000 in
theorem ssf_row (gl base : Nat) (w : World) (hgl : w.cell? ⟨gl, 0, none⟩ = some (.func (.func 35) #[] #[])) (v : Value) (m : List E43) (hR : Kd.R k43 43 w base (fun _ => True) v (m.map (·.1))) (hlt : gl < base) (hbw : base ≤ w.heap.size) (hm : m.length < 1000000000000) :
  Calls Try.prog 40 #[v, .func (.func 41) #[] #[.pointer (some ⟨gl, 0, none⟩)]] w fun e w' => e = .returned (.tuple #[]) ∧ ∃ r : List E43, Kd.R k43 43 w' base (fun _ => True) v (r.map (·.1)) ∧ StP (ltOf cf43) m r ∧ SortedL (ltOf cf43) r ∧ Below base w w' := by
 rcases row_holds m hR with ⟨rfl, rfl⟩ | ⟨g, cap, cur, rfl, hb, hh, h1, h2, h3, hH⟩
 ·have hc := stable_nil (.func (.func 41) #[] #[.pointer (some ⟨gl, 0, none⟩)]) w
  have HBW := Aside0.mk hbw
  go_enter Try.func40, Try.ntmps40
  go_wp2_with (go_at_call 44; refine hc.mono ?_; rintro e9 w9 ⟨rfl, hb⟩; have HB := Aside0.mk hb; clear hb)
  go_end0
  exact ⟨rfl, [], Kd.R_nil _ _ _ _ _, StP.refl _, List.Pairwise.nil, HB.out.mono HBW.out⟩
 ·have hg : g < w.heap.size := (Array.getElem?_eq_some_iff.1 hh).1
  have hcmp : CmpB Try.prog 41 #[.pointer (some ⟨gl, 0, none⟩)] enc43 11 cf43 g 0 m.toArray.size w := fun q os dk _ x y =>
   cmpE_call x y gl _ (below_pt (sWB_below w g q (gl + 1) dk os (by omega) hg) hgl)
  have hc := stable_call LS.here enc43 11 Try.isAgg43 Try.sizeOf43 enc43_len enc43_one cf43 swo43 41 #[.pointer (some ⟨gl, 0, none⟩)] (enters_of Try.func41 (by kernel_rfl) rfl) g 0 cap m.toArray w hcmp hH hg m.length (by simp) (by simpa using hm)
  rw [List.size_toArray] at hc
  have HCALL := Aside0.mk hc
  have HF := Aside0.mk (And.intro hb (And.intro hh (And.intro h1 (And.intro h2 (And.intro h3 (And.intro hH hg))))))
  clear hc hcmp hH hh h1 h2 h3 hg hb hR hgl
  go_enter Try.func40, Try.ntmps40
  go_wp2_with (go_at_call 44; refine HCALL.out.mono ?_; rintro e9 w9 ⟨rfl, q9, os9, d9, z1, z2, z3, rfl⟩)
  go_end0
  obtain ⟨hb, hh, h1, h2, h3, hH, hg⟩ := HF.out
  obtain ⟨cur', c1, c2⟩ := sWB_row w g q9 d9 os9 cur hh
  have z3' : d9.size = m.length := z3
  refine ⟨rfl, d9.toList, ?_, z1, z2, sWB_below w g q9 base d9 os9 hb hg⟩
  have := holds_row (base := base) (cap := cap) d9 hb c1 (by omega) h2 (by rw [c2]; exact h3) (sWB_holds enc43 11 w g 0 q9 m.toArray d9 os9 hH hg z3)
  rwa [z3'] at this
set_option maxHeartbeats 2000000 in
set_option maxRecDepth 100000 in
theorem ordered_call (A0 : Option Addr) (c0 : Nat) (l : List S43) (w : World) (hr : Kd.C k43 w A0 l.length l) (hl : l.length < 1000000000) (hs : ∀ x ∈ l, sml x.f0) :
  Calls Try.prog 34 #[.slice A0 l.length c0, .func (.func 35) #[] #[]] w fun e w' => ∃ v r, e = .returned v ∧ Kd.R k43 43 w' w.heap.size (fun _ => True) v r ∧ StP ltS l r ∧ SortedL ltS r ∧ Below w.heap.size w w' := by
 obtain ⟨m, rfl⟩ := lift43 l hs
 have hml : m.length < 1000000000 := by rwa [List.length_map] at hl
 have hb0 := below_alloc (Below.refl w.heap.size w) (.cells #[.func (.func 35) #[] #[]] 58 (0, 0))
 have hcl := clone_call A0 c0 (m.map (·.1)) (w.alloc (.cells #[.func (.func 35) #[] #[]] 58 (0, 0))) (Kd.C_below hr hb0) hl
 rw [List.length_map] at hcl ⊢
 have HB := Aside0.mk hb0
 have HCL := Aside0.mk hcl
 have HM := Aside0.mk hml
 clear hr hl hs hb0 hcl hml
 go_enter Try.func34, Try.ntmps34
 go_wp2_with (go_at_call 39; refine HCL.out.mono ?_; rintro e1 w1 ⟨v1, rfl, ho, hb⟩)
 have hcell : w1.cell? ⟨w.heap.size, 0, none⟩ = some (.func (.func 35) #[] #[]) := (blk_cell (blk_below (blk_new w (.cells #[.func (.func 35) #[] #[]] 58 (0, 0))) hb) 0).trans rfl
 have hss := ssf_row w.heap.size (w.alloc (.cells #[.func (.func 35) #[] #[]] 58 (0, 0))).heap.size w1 hcell v1 m ho (by rw [World.size_alloc]; exact Nat.lt_succ_self _) hb.size (by have := HM.out; omega)
 have HSS := Aside0.mk hss
 have HB1 := Aside0.mk hb
 clear hss hcell ho hb
 go_wp2_with (go_at_call 40; refine HSS.out.mono ?_; rintro e2 w2 ⟨rfl, r, ho2, z1, z2, hb2⟩)
 go_ret
 have hsz : w.heap.size ≤ (w.alloc (.cells #[.func (.func 35) #[] #[]] 58 (0, 0))).heap.size := HB.out.size
 have hbb : Below w.heap.size w1 w2 := hb2.mono hsz
 have hb01 : Below w.heap.size w w1 := below_step HB.out HB1.out
 exact ⟨_, _, rfl, Kd.R_lower ho2 hsz, stp_map43 m r z1, sorted_map43 r z2, hb01.trans hbb⟩
set_option maxHeartbeats 2000000 in
set_option maxRecDepth 100000 in
theorem sortE_call (A0 : Option Addr) (c0 : Nat) (l : List S43) (w : World) (hr : Kd.C k43 w A0 l.length l) (hl : l.length < 1000000000) (hs : ∀ x ∈ l, sml x.f0) :
  Calls Try.prog 31 #[.slice A0 l.length c0] w fun e w' => ∃ v r, e = .returned v ∧ Kd.R k43 43 w' w.heap.size (fun _ => True) v r ∧ StP ltS l r ∧ SortedL ltS r ∧ Below w.heap.size w w' := by
 have hc := ordered_call A0 c0 l w hr hl hs
 clear hr hl hs
 go_enter Try.func31, Try.ntmps31
 go_wp2_with (go_at_call 34; refine hc.mono ?_; rintro e1 w1 ⟨v, r, rfl, ho, z1, z2, hb⟩)
 go_ret
 exact ⟨_, r, rfl, ho, z1, z2, hb⟩
end Go.Proofs.Ytodbmagneaiocaa.PA
namespace Go.Proofs.Ytodbmagneaiocaa.PA
open Go.RowKit Go.Proofs.YtodbmagneaiocaaW.PrintWords Go.Proofs.YtodbmagneaiocaaW.PrintLast Go.Proofs.YtodbmagneaiocaaW.PrintMore
attribute [local go_sem] max2_int min2_int max_two min_two max_three min_three max_four min_four
set_option linter.unusedVariables false
set_option linter.unusedSimpArgs false
open Go.Sort
theorem StP.symm {α : Type} {lt : α → α → Bool} {a b : List α} (h : StP lt a b) : StP lt b a := ⟨h.1.symm, fun c => (h.2 c).symm⟩
def insB (acc : List S43) (x : S43) : List S43 := acc.filter (fun a => !ltS x a) ++ x :: acc.filter (fun a => ltS x a)
def sortS (l : List S43) : List S43 := l.foldl insB []
theorem insB_parts (x : S43) : ∀ acc : List S43, SortedL ltS acc → acc.filter (fun a => !ltS x a) ++ acc.filter (fun a => ltS x a) = acc
 | [], _ => rfl
 | a :: t, h => by
  have hc := List.pairwise_cons.1 h
  by_cases e : ltS x a = true
  ·have hall : ∀ b ∈ a :: t, ltS x b = true := fun b hb => by
    rcases List.mem_cons.1 hb with rfl | hb
    ·exact e
    ·apply Classical.byContradiction
     intro hn
     have := swoS.ntrans x b a (by simpa using hn) (hc.1 b hb)
     rw [this] at e
     exact absurd e (by decide)
   rw [List.filter_eq_nil_iff.2 (fun b hb => by rw [hall b hb]; decide), List.filter_eq_self.2 hall]
   rfl
  ·have e' : ltS x a = false := by simpa using e
   rw [List.filter_cons, if_pos (by rw [e']; rfl), List.filter_cons, if_neg e, List.cons_append, insB_parts x t hc.2]
theorem insB_ok (acc : List S43) (x : S43) (h : SortedL ltS acc) : StP ltS (acc ++ [x]) (insB acc x) ∧ SortedL ltS (insB acc x) := by
 have hp := insB_parts x acc h
 have hs : SortedL ltS (acc.filter (fun a => !ltS x a) ++ acc.filter (fun a => ltS x a)) := by rw [hp]; exact h
 rw [sorted_app] at hs
 have m1 : ∀ a ∈ acc.filter (fun a => !ltS x a), ltS x a = false := fun a ha => by simpa using (List.mem_filter.1 ha).2
 have m2 : ∀ a ∈ acc.filter (fun a => ltS x a), ltS x a = true := fun a ha => (List.mem_filter.1 ha).2
 unfold insB
 constructor
 ·have := StP.app (StP.refl (lt := ltS) (acc.filter (fun a => !ltS x a))) (StP.swap (acc.filter (fun a => ltS x a)) [x] swoS (fun a ha y hy => by rw [List.mem_singleton.1 hy]; exact m2 a ha))
  rw [← List.append_assoc, hp] at this
  exact this
 ·rw [show ∀ (F G : List S43), F ++ x :: G = F ++ ([x] ++ G) from fun F G => by simp, sorted_app, sorted_app]
  refine ⟨hs.1, ⟨List.pairwise_singleton _ _, hs.2.1, fun a ha b hb => by rw [List.mem_singleton.1 ha]; exact anti swoS (m2 b hb)⟩, fun a ha b hb => ?_⟩
  rcases List.mem_append.1 hb with hb | hb
  ·rw [List.mem_singleton.1 hb]
   exact m1 a ha
  ·exact hs.2.2 a ha b hb
theorem sortS_fold : ∀ (l acc : List S43), SortedL ltS acc → StP ltS (acc ++ l) (l.foldl insB acc) ∧ SortedL ltS (l.foldl insB acc)
 | [], acc, h => ⟨by rw [List.append_nil]; exact StP.refl _, h⟩
 | x :: l, acc, h => by
  have h1 := insB_ok acc x h
  have h2 := sortS_fold l (insB acc x) h1.2
  refine ⟨?_, h2.2⟩
  have := (h1.1.app (StP.refl (lt := ltS) l)).trans h2.1
  rwa [List.append_assoc] at this
theorem sortS_ok (l : List S43) : StP ltS l (sortS l) ∧ SortedL ltS (sortS l) := sortS_fold l [] List.Pairwise.nil
def flist_Sort.f (l0 : List S43) : Option (List S43) := if l0.length < 1000000000 ∧ (∀ y ∈ l0, y.f0.size ≤ 1048576) then some (sortS l0) else none
theorem flist_Sort.calls (A0 : Option Addr) (c0 : Nat) (l0 : List S43) (r : List S43) (w : World) (hr0 : Kd.C k43 w A0 l0.length l0) (hc0 : l0.length ≤ c0) (h : flist_Sort.f l0 = some r) :
  Calls Try.prog 31 #[.slice A0 l0.length c0] w fun e w' => ∃ v0_ : Value, e = .returned v0_ ∧ Kd.R k43 43 w' w.heap.size (fun _ => True) v0_ r ∧ Below w.heap.size w w' := by
 unfold flist_Sort.f at h
 split at h
 ·rename_i hs
  obtain rfl := Option.some.inj h
  refine (sortE_call A0 c0 l0 w hr0 hs.1 hs.2).mono ?_
  rintro e w' ⟨v, r, rfl, ho, z1, z2, hb⟩
  have := stp_unique swoS r (sortS l0) z2 (sortS_ok l0).2 (z1.symm.trans (sortS_ok l0).1)
  subst this
  exact ⟨v, rfl, ho, hb⟩
 ·exact absurd h (by simp)
end Go.Proofs.Ytodbmagneaiocaa.PA
namespace Go.Proofs.Ytodbmagneaiocaa.PA
open Go.RowKit Go.Proofs.YtodbmagneaiocaaW.PrintWords Go.Proofs.YtodbmagneaiocaaW.PrintLast Go.Proofs.YtodbmagneaiocaaW.PrintMore
attribute [local go_sem] max2_int min2_int max_two min_two max_three min_three max_four min_four
set_option linter.unusedVariables false
set_option linter.unusedSimpArgs false
theorem rdE_get (L : List S43) (i : Nat) (h : i < L.length) : rd_T43 L (i : Int) = L[i] := by simp [rd_T43, rdOf, h]
def entA (x : S43) : List Value := [.string x.f0, .int .i64 x.f1, .int .i64 x.f2, .int .i64 x.f3.f0, .int .i64 x.f3.f1, .int .i64 x.f3.f2, .int .i64 x.f3.f3, .int .i64 x.f3.f4, .string x.f4, .string x.f5, .int .i64 x.f6]
def mEq (a b : S41) : Bool := a.f0 == b.f0 && (a.f1 == b.f1 && (a.f2 == b.f2 && (a.f3 == b.f3 && a.f4 == b.f4)))
def becameI : Option S43 → Option S43 → Int
 | none, _ => 1
 | some _, none => 2
 | some x, some y => if x.f1 ≠ y.f1 ∨ (x.f1 = 1 ∧ (x.f2 ≠ y.f2 ∨ x.f5 ≠ y.f5)) ∨ (x.f1 = 3 ∧ x.f4 ≠ y.f4) then 3 else if mEq x.f3 y.f3 = true then 0 else 4
theorem became_eq (x y : S43) : becameI (some x) (some y) = if x.f1 ≠ y.f1 ∨ (x.f1 = 1 ∧ (x.f2 ≠ y.f2 ∨ x.f5 ≠ y.f5)) ∨ (x.f1 = 3 ∧ x.f4 ≠ y.f4) then 3 else if mEq x.f3 y.f3 = true then 0 else 4 := rfl
theorem wrapE (i : Nat) (h : i < 9223372036854775807) : wrap64 ((i : Int) + 1) = ((i + 1 : Nat) : Int) := by
 rw [wr64 _ (by omega) (by omega)]
 rfl
def EP (W : World) : Option Addr → Option S43 → Prop
 | p, none => p = none
 | p, some x => ∃ g o, p = some ⟨g, o, none⟩ ∧ ∀ j u, (entA x)[j]? = some u → W.cell? ⟨g, o + j, none⟩ = some u
def bothL : List S43 → List S43 → List (Option S43 × Option S43)
 | [], [] => []
 | x :: a, [] => (some x, none) :: bothL a []
 | [], y :: b => (none, some y) :: bothL [] b
 | x :: a, y :: b => if ltS x y = true then (some x, none) :: bothL a (y :: b) else if x.f0 ≠ y.f0 then (none, some y) :: bothL (x :: a) b else (some x, some y) :: bothL a b
termination_by a b => a.length + b.length
def firstG (acc : List S43) (y : S43) : List S43 := if acc = [] ∨ (acc.getLastD z43).f0 ≠ y.f0 then acc ++ [y] else acc
def firstL (l : List S43) : List S43 := l.foldl firstG []
def pathE : Option S43 × Option S43 → ByteArray
 | (some x, _) => x.f0
 | (none, some y) => y.f0
 | (none, none) => ByteArray.empty
def sinceE (p : Option S43 × Option S43) : List S28 := if becameI p.1 p.2 = 0 then [] else [⟨pathE p, becameI p.1 p.2⟩]
def commonE (p : Option S43 × Option S43) : List S43 := if becameI p.1 p.2 = 0 then p.1.toList else []
def applyE (l : List S28) (p : Option S43 × Option S43) : List S43 := if l.any (fun c => decide (c.f0 = pathE p)) = true then p.2.toList else p.1.toList
def sinceL (was is : List S43) : List S28 := (bothL (firstL (sortS was)) (firstL (sortS is))).flatMap sinceE
def commonL (was is : List S43) : List S43 := (bothL (firstL (sortS was)) (firstL (sortS is))).flatMap commonE
def applyL (was is : List S43) (l : List S28) : List S43 := (bothL (firstL (sortS was)) (firstL (sortS is))).flatMap (applyE l)
end Go.Proofs.Ytodbmagneaiocaa.PA
namespace Go.Proofs.Ytodbmagneaiocaa.PA
open Go.RowKit Go.Proofs.YtodbmagneaiocaaW.PrintWords Go.Proofs.YtodbmagneaiocaaW.PrintLast Go.Proofs.YtodbmagneaiocaaW.PrintMore
attribute [local go_sem] max2_int min2_int max_two min_two max_three min_three max_four min_four
set_option linter.unusedVariables false
set_option linter.unusedSimpArgs false
theorem firstL_step (l : List S43) (i : Nat) (h : i < l.length) : firstL (l.take (i + 1)) = firstG (firstL (l.take i)) l[i] := by
 unfold firstL
 rw [List.take_succ_eq_append_getElem h, List.foldl_append]
 rfl
theorem firstG_len (acc : List S43) (y : S43) : (firstG acc y).length ≤ acc.length + 1 := by
 unfold firstG
 split
 ·simp
 ·omega
theorem firstL_len (l : List S43) : (firstL l).length ≤ l.length := by
 have : ∀ (l acc : List S43), (l.foldl firstG acc).length ≤ acc.length + l.length := by
  intro l
  induction l with
  | nil => intro acc; exact Nat.le_refl _
  | cons y l ih =>
   intro acc
   have h1 := ih (firstG acc y)
   have h2 := firstG_len acc y
   rw [List.foldl_cons, List.length_cons]
   omega
 have h := this l []
 rw [List.length_nil, Nat.zero_add] at h
 exact h
theorem firstL_mem (l : List S43) : ∀ x ∈ firstL l, x ∈ l := by
 have : ∀ (l acc : List S43), ∀ x ∈ l.foldl firstG acc, x ∈ acc ∨ x ∈ l := by
  intro l
  induction l with
  | nil => intro acc x hx; exact Or.inl hx
  | cons y l ih =>
   intro acc x hx
   rcases ih (firstG acc y) x hx with h | h
   ·unfold firstG at h
    split at h
    ·rcases List.mem_append.1 h with h | h
     ·exact Or.inl h
     ·exact Or.inr (List.mem_cons.2 (Or.inl (List.mem_singleton.1 h)))
    ·exact Or.inl h
   ·exact Or.inr (List.mem_cons_of_mem _ h)
 intro x hx
 rcases this l [] x hx with h | h
 ·cases h
 ·exact h
theorem last_rd (acc : List S43) (h : acc ≠ []) : rd_T43 acc ((acc.length : Int) - 1) = acc.getLastD z43 := by
 have hl : 0 < acc.length := List.length_pos_iff.2 h
 have e : (acc.length : Int) - 1 = ((acc.length - 1 : Nat) : Int) := by omega
 rw [e, rdE_get acc (acc.length - 1) (by omega)]
 cases acc with
 | nil => exact absurd rfl h
 | cons a t => simp [List.getLastD_eq_getLast?, List.getLast?_eq_getElem?]
set_option maxHeartbeats 8000000 in
set_option maxRecDepth 100000 in
theorem first_call (A0 : Option Addr) (c0 : Nat) (l0 : List S43) (w : World) (hr0 : Kd.C k43 w A0 l0.length l0) (hc0 : l0.length ≤ c0) (hl : l0.length < 1000000000) (hz : ∀ y ∈ l0, y.f0.size ≤ 1048576) :
  Calls Try.prog 22 #[.slice A0 l0.length c0] w fun e w' => ∃ v0_ : Value, e = .returned v0_ ∧ Kd.R k43 43 w' w.heap.size (fun _ => True) v0_ (firstL (sortS l0)) ∧ Below w.heap.size w w' := by
 have hu := Try.underlying43
 have HB := Aside0.mk (Below.refl w.heap.size w)
 have hso : ∀ W, Below w.heap.size w W → Calls Try.prog 31 #[.slice A0 l0.length c0] W fun e w' => ∃ v0_ : Value, e = .returned v0_ ∧ Kd.R k43 43 w' W.heap.size (fun _ => True) v0_ (sortS l0) ∧ Below W.heap.size W w' := fun W hb =>
  flist_Sort.calls A0 c0 l0 (sortS l0) W (Kd.C_below hr0 hb) hc0 (if_pos ⟨hl, hz⟩)
 obtain ⟨S, hS⟩ : ∃ S, sortS l0 = S := ⟨_, rfl⟩
 have hSl : S.length < 1000000000 := by rw [← hS, (sortS_ok l0).1.len]; exact hl
 rw [hS] at hso
 have HS := Aside0.mk hSl
 have HSO := Aside0.mk hso
 rw [hS]
 clear hS hr0 hc0 hl hz hso hSl
 go_enter Try.func22, Try.ntmps22
 go_wp2_with (first | (go_at_call 31; (with_reducible refine (HSO.out _ HB.out).mono ?_); rintro e w7 ⟨v7, rfl, ho, hb⟩; obtain ⟨A7, c7, e7⟩ := Kd.R_slice ho; subst e7; have HR := Aside0.mk ho; have HW := Aside0.mk (below_step HB.out hb); clear HB HSO ho hb; have HB := Aside0.mk (Below.refl w7.heap.size w7)))
 go_loopw [3, 9] (fun v3 v9 wr => ∃ i : Nat, v9 = .int .i64 (i : Int) ∧ Aside0 (i ≤ S.length) ∧ Aside0 (Kd.R k43 43 wr w7.heap.size (fun _ => True) v3 (firstL (S.take i))) ∧ Aside0 (Below w7.heap.size w7 wr)) (fun _ v9 _ => S.length - (intOf v9).toNat)
 case atStart => exact ⟨0, rfl, ⟨Nat.zero_le _⟩, ⟨Kd.R_nil _ _ _ _ _⟩, HB⟩
 case round =>
  clear HB
  obtain ⟨i, rfl, HI, HO, HB⟩ := hrel
  by_cases hi : i < S.length
  ·have hd : decide ((i : Int) < (S.length : Int)) = true := decide_eq_true (by omega)
   obtain ⟨gs, cs_, es, gbs, _, _, _⟩ := Kd.R_form HR.out (by omega)
   injection es with e1 e2 e3
   subst e1
   subst e3
   clear e2
   have HRr := Kd.R_below HR.out HB.out
   obtain ⟨y, hy⟩ : ∃ y, rd_T43 S (i : Int) = y := ⟨_, rfl⟩
   have hye : S[i] = y := by rw [← hy, rdE_get S i hi]
   obtain ⟨ce, hlc, hMc, hcc, hfc⟩ := Kd.R_elem HRr z43 (i : Int) (by omega) (by omega)
   obtain rfl := k43_openM hMc
   rw [Int.toNat_natCast] at hcc
   replace hcc : ∀ j u, (entA (rd_T43 S (i : Int)))[j]? = some u → wr.cell? ⟨gs, i * 11 + j, none⟩ = some u := hcc
   rw [hy] at hcc
   have hx_0 : wr.cell? ⟨gs, i * 11, none⟩ = some (.string y.f0) := hcc 0 _ rfl
   have hx_1 : wr.cell? ⟨gs, i * 11 + 1, none⟩ = some (.int .i64 y.f1) := hcc 1 _ rfl
   have hx_2 : wr.cell? ⟨gs, i * 11 + 2, none⟩ = some (.int .i64 y.f2) := hcc 2 _ rfl
   have hx_3 : wr.cell? ⟨gs, i * 11 + 3, none⟩ = some (.int .i64 y.f3.f0) := hcc 3 _ rfl
   have hx_4 : wr.cell? ⟨gs, i * 11 + 4, none⟩ = some (.int .i64 y.f3.f1) := hcc 4 _ rfl
   have hx_5 : wr.cell? ⟨gs, i * 11 + 5, none⟩ = some (.int .i64 y.f3.f2) := hcc 5 _ rfl
   have hx_6 : wr.cell? ⟨gs, i * 11 + 6, none⟩ = some (.int .i64 y.f3.f3) := hcc 6 _ rfl
   have hx_7 : wr.cell? ⟨gs, i * 11 + 7, none⟩ = some (.int .i64 y.f3.f4) := hcc 7 _ rfl
   have hx_8 : wr.cell? ⟨gs, i * 11 + 8, none⟩ = some (.string y.f4) := hcc 8 _ rfl
   have hx_9 : wr.cell? ⟨gs, i * 11 + 9, none⟩ = some (.string y.f5) := hcc 9 _ rfl
   have hx_10 : wr.cell? ⟨gs, i * 11 + 10, none⟩ = some (.int .i64 y.f6) := hcc 10 _ rfl
   clear hcc hfc hMc hlc
   have p1 : (0 ≤ (i : Int)) = True := eq_true (by omega)
   have p2 : ((i : Int) < (S.length : Int)) = True := eq_true (by omega)
   have Hst := Aside0.mk (show firstL (S.take (i + 1)) = firstG (firstL (S.take i)) y by rw [firstL_step S i hi, hye])
   have hal := firstL_len (S.take i)
   have htl := List.length_take_le i S
   obtain ⟨acc, hacc⟩ : ∃ acc, firstL (S.take i) = acc := ⟨_, rfl⟩
   rw [hacc] at HO hal
   have HACC := Aside0.mk hacc
   have Hlen := Aside0.mk (show acc.length < 1256584717458 by have := HS.out; omega)
   have Hi := Aside0.mk hi
   have hw1 : wrap64 ((i : Int) + 1) = ((i + 1 : Nat) : Int) := wrapE i (by have := HS.out; omega)
   have HW1 := Aside0.mk hw1
   clear hw1 hi hye hacc hal htl
   obtain ⟨Ao, co, eo⟩ := Kd.R_slice HO.out
   subst eo
   have hcz_0 : (wr.alloc (.cells #[.string y.f0, .int .i64 y.f1, .int .i64 y.f2, .int .i64 y.f3.f0, .int .i64 y.f3.f1, .int .i64 y.f3.f2, .int .i64 y.f3.f3, .int .i64 y.f3.f4, .string y.f4, .string y.f5, .int .i64 y.f6] 43 (0, 0))).cell? ⟨wr.heap.size, 0, none⟩ = some (.string y.f0) := (blk_cell (blk_new wr _) 0).trans rfl
   have hcz_1 : (wr.alloc (.cells #[.string y.f0, .int .i64 y.f1, .int .i64 y.f2, .int .i64 y.f3.f0, .int .i64 y.f3.f1, .int .i64 y.f3.f2, .int .i64 y.f3.f3, .int .i64 y.f3.f4, .string y.f4, .string y.f5, .int .i64 y.f6] 43 (0, 0))).cell? ⟨wr.heap.size, 1, none⟩ = some (.int .i64 y.f1) := (blk_cell (blk_new wr _) 1).trans rfl
   have hcz_2 : (wr.alloc (.cells #[.string y.f0, .int .i64 y.f1, .int .i64 y.f2, .int .i64 y.f3.f0, .int .i64 y.f3.f1, .int .i64 y.f3.f2, .int .i64 y.f3.f3, .int .i64 y.f3.f4, .string y.f4, .string y.f5, .int .i64 y.f6] 43 (0, 0))).cell? ⟨wr.heap.size, 2, none⟩ = some (.int .i64 y.f2) := (blk_cell (blk_new wr _) 2).trans rfl
   have hcz_3 : (wr.alloc (.cells #[.string y.f0, .int .i64 y.f1, .int .i64 y.f2, .int .i64 y.f3.f0, .int .i64 y.f3.f1, .int .i64 y.f3.f2, .int .i64 y.f3.f3, .int .i64 y.f3.f4, .string y.f4, .string y.f5, .int .i64 y.f6] 43 (0, 0))).cell? ⟨wr.heap.size, 3, none⟩ = some (.int .i64 y.f3.f0) := (blk_cell (blk_new wr _) 3).trans rfl
   have hcz_4 : (wr.alloc (.cells #[.string y.f0, .int .i64 y.f1, .int .i64 y.f2, .int .i64 y.f3.f0, .int .i64 y.f3.f1, .int .i64 y.f3.f2, .int .i64 y.f3.f3, .int .i64 y.f3.f4, .string y.f4, .string y.f5, .int .i64 y.f6] 43 (0, 0))).cell? ⟨wr.heap.size, 4, none⟩ = some (.int .i64 y.f3.f1) := (blk_cell (blk_new wr _) 4).trans rfl
   have hcz_5 : (wr.alloc (.cells #[.string y.f0, .int .i64 y.f1, .int .i64 y.f2, .int .i64 y.f3.f0, .int .i64 y.f3.f1, .int .i64 y.f3.f2, .int .i64 y.f3.f3, .int .i64 y.f3.f4, .string y.f4, .string y.f5, .int .i64 y.f6] 43 (0, 0))).cell? ⟨wr.heap.size, 5, none⟩ = some (.int .i64 y.f3.f2) := (blk_cell (blk_new wr _) 5).trans rfl
   have hcz_6 : (wr.alloc (.cells #[.string y.f0, .int .i64 y.f1, .int .i64 y.f2, .int .i64 y.f3.f0, .int .i64 y.f3.f1, .int .i64 y.f3.f2, .int .i64 y.f3.f3, .int .i64 y.f3.f4, .string y.f4, .string y.f5, .int .i64 y.f6] 43 (0, 0))).cell? ⟨wr.heap.size, 6, none⟩ = some (.int .i64 y.f3.f3) := (blk_cell (blk_new wr _) 6).trans rfl
   have hcz_7 : (wr.alloc (.cells #[.string y.f0, .int .i64 y.f1, .int .i64 y.f2, .int .i64 y.f3.f0, .int .i64 y.f3.f1, .int .i64 y.f3.f2, .int .i64 y.f3.f3, .int .i64 y.f3.f4, .string y.f4, .string y.f5, .int .i64 y.f6] 43 (0, 0))).cell? ⟨wr.heap.size, 7, none⟩ = some (.int .i64 y.f3.f4) := (blk_cell (blk_new wr _) 7).trans rfl
   have hcz_8 : (wr.alloc (.cells #[.string y.f0, .int .i64 y.f1, .int .i64 y.f2, .int .i64 y.f3.f0, .int .i64 y.f3.f1, .int .i64 y.f3.f2, .int .i64 y.f3.f3, .int .i64 y.f3.f4, .string y.f4, .string y.f5, .int .i64 y.f6] 43 (0, 0))).cell? ⟨wr.heap.size, 8, none⟩ = some (.string y.f4) := (blk_cell (blk_new wr _) 8).trans rfl
   have hcz_9 : (wr.alloc (.cells #[.string y.f0, .int .i64 y.f1, .int .i64 y.f2, .int .i64 y.f3.f0, .int .i64 y.f3.f1, .int .i64 y.f3.f2, .int .i64 y.f3.f3, .int .i64 y.f3.f4, .string y.f4, .string y.f5, .int .i64 y.f6] 43 (0, 0))).cell? ⟨wr.heap.size, 9, none⟩ = some (.string y.f5) := (blk_cell (blk_new wr _) 9).trans rfl
   have hcz_10 : (wr.alloc (.cells #[.string y.f0, .int .i64 y.f1, .int .i64 y.f2, .int .i64 y.f3.f0, .int .i64 y.f3.f1, .int .i64 y.f3.f2, .int .i64 y.f3.f3, .int .i64 y.f3.f4, .string y.f4, .string y.f5, .int .i64 y.f6] 43 (0, 0))).cell? ⟨wr.heap.size, 10, none⟩ = some (.int .i64 y.f6) := (blk_cell (blk_new wr _) 10).trans rfl
   by_cases hn : acc = []
   ·have q0 : ((acc.length : Int) == 0) = true := beq_iff_eq.mpr (by rw [hn]; rfl)
    have HG := Aside0.mk (show firstG acc y = acc ++ [y] from if_pos (Or.inl hn))
    clear hn
    go_wp2
    have n0_ := Aside0.mk (Kd.R_alloc HO.out (.cells #[.string y.f0, .int .i64 y.f1, .int .i64 y.f2, .int .i64 y.f3.f0, .int .i64 y.f3.f1, .int .i64 y.f3.f2, .int .i64 y.f3.f3, .int .i64 y.f3.f4, .string y.f4, .string y.f5, .int .i64 y.f6] 43 (0, 0)))
    have n1_ := Aside0.mk (below_alloc HB.out (.cells #[.string y.f0, .int .i64 y.f1, .int .i64 y.f2, .int .i64 y.f3.f0, .int .i64 y.f3.f1, .int .i64 y.f3.f2, .int .i64 y.f3.f3, .int .i64 y.f3.f4, .string y.f4, .string y.f5, .int .i64 y.f6] 43 (0, 0)))
    clear HO HB
    have HO := n0_
    have HB := n1_
    clear n0_ n1_
    generalize wr.alloc (.cells #[.string y.f0, .int .i64 y.f1, .int .i64 y.f2, .int .i64 y.f3.f0, .int .i64 y.f3.f1, .int .i64 y.f3.f2, .int .i64 y.f3.f3, .int .i64 y.f3.f4, .string y.f4, .string y.f5, .int .i64 y.f6] 43 (0, 0)) = w9 at HO HB hcz_0 hcz_1 hcz_2 hcz_3 hcz_4 hcz_5 hcz_6 hcz_7 hcz_8 hcz_9 hcz_10 ⊢
    go_quiet (fail)
    go_wp2_with (first | ((with_reducible refine gate_builtin (b := .append) (xs := #[.tmp 28, .tmp 30]) rfl ?_); at_builtin; refine Kd.R_append k43 (w0 := w7) w7.heap.size rfl (.tmp 28) (.tmp 30) 22 43 (.agg #[(.string ⟨#[]⟩), (.int .i64 0), (.int .i64 0), (.int .i64 0), (.int .i64 0), (.int .i64 0), (.int .i64 0), (.int .i64 0), (.string ⟨#[]⟩), (.string ⟨#[]⟩), (.int .i64 0)]) 112 rfl Try.underlying22 info43 rfl (by decide) (by omega) (.slice Ao acc.length co) acc y [.string y.f0, .int .i64 y.f1, .int .i64 y.f2, .int .i64 y.f3.f0, .int .i64 y.f3.f1, .int .i64 y.f3.f2, .int .i64 y.f3.f3, .int .i64 y.f3.f4, .string y.f4, .string y.f5, .int .i64 y.f6] (fun _ => True) (fun _ => False) rfl rfl ?aP (fun _ hk => hk.elim) ?aF ?aO ?aB ?aS ?aL ?_; (case aP => exact k43_mkM _ _ _ y); (case aB => exact (by repeat (first | (with_reducible first | exact HB.out | apply below_alloc | apply pw_below_drewN | apply below_drew1) | exact HB.out))); (case aF => exact (fun _ _ => trivial)); (case aO => exact (by (with_reducible repeat (first | apply Kd.R_alloc | apply Kd.R_drewN | apply Kd.R_drew)); exact HO.out)); (case aS => exact (below_size (by repeat (first | (with_reducible first | exact HB.out | apply below_alloc | apply pw_below_drewN | apply below_drew1) | exact HB.out)))); (case aL => have := Hlen.out; omega); intro v103 w8 ho hb hgr hat; have n0_ := Aside0.mk hb; have n1_ := Aside0.mk ho; clear HB HO; have HB := n0_; have HO := n1_; clear n0_ n1_ ho hb hgr hat))
    go_roundw
    case rel => exact ⟨i + 1, by rw [HW1.out], ⟨by have := Hi.out; omega⟩, ⟨by rw [Hst.out, HACC.out, HG.out]; exact HO.out⟩, HB⟩
    case measure =>
     rw [HW1.out]
     show S.length - ((i + 1 : Nat) : Int).toNat < S.length - (i : Int).toNat
     rw [Int.toNat_natCast, Int.toNat_natCast]
     have := Hi.out
     omega
   ·have hl0 : 0 < acc.length := List.length_pos_iff.2 hn
    have q0 : ((acc.length : Int) == 0) = false := beq_eq_false_iff_ne.mpr (by omega)
    have q00 : acc.isEmpty = false := by cases acc with | nil => exact absurd rfl hn | cons _ _ => rfl
    obtain ⟨m, hm⟩ : ∃ m : Nat, (acc.length : Int) - 1 = (m : Int) := ⟨acc.length - 1, by omega⟩
    have q1 : wrap64 ((acc.length : Int) - 1) = (m : Int) := by rw [wr64 _ (by omega) (by have := Hlen.out; omega), hm]
    have q2 : (0 ≤ (m : Int)) = True := eq_true (by omega)
    have q3 : ((m : Int) < (acc.length : Int)) = True := eq_true (by omega)
    have q4 : (m < acc.length) = True := eq_true (by omega)
    obtain ⟨go, co_, eo, gbo, _, _, _⟩ := Kd.R_form HO.out (by omega)
    injection eo with e1 e2 e3
    subst e1
    subst e3
    clear e2
    obtain ⟨z, hz⟩ : ∃ z, rd_T43 acc (m : Int) = z := ⟨_, rfl⟩
    obtain ⟨ce, hlc, hMc, hcc, hfc⟩ := Kd.R_elem HO.out z43 (m : Int) (by omega) (by omega)
    obtain rfl := k43_openM hMc
    rw [Int.toNat_natCast] at hcc
    replace hcc : ∀ j u, (entA (rd_T43 acc (m : Int)))[j]? = some u → wr.cell? ⟨go, m * 11 + j, none⟩ = some u := hcc
    rw [hz] at hcc
    have hl_0 : wr.cell? ⟨go, m * 11, none⟩ = some (.string z.f0) := hcc 0 _ rfl
    have hl_1 : (wr.alloc (.cells #[.string y.f0, .int .i64 y.f1, .int .i64 y.f2, .int .i64 y.f3.f0, .int .i64 y.f3.f1, .int .i64 y.f3.f2, .int .i64 y.f3.f3, .int .i64 y.f3.f4, .string y.f4, .string y.f5, .int .i64 y.f6] 43 (0, 0))).cell? ⟨go, m * 11, none⟩ = some (.string z.f0) := ((below_alloc (Below.refl wr.heap.size wr) _).cell (World.block_lt_of_cell? wr _ hl_0)).trans hl_0
    have hzl : acc.getLastD z43 = z := by rw [← hz, ← hm, last_rd acc hn]
    clear hcc hfc hMc hlc hz
    by_cases hp : z.f0 = y.f0
    ·have r0 : (z.f0.toList == y.f0.toList) = true := beq_iff_eq.mpr (by rw [hp])
     have r1 : (z.f0.toList != y.f0.toList) = false := bne_eq_false_iff_eq.mpr (by rw [hp])
     have HG := Aside0.mk (show firstG acc y = acc from if_neg (by rw [hzl]; exact fun h => h.elim hn (fun h => h hp)))
     clear hp hzl hl0 hm hn
     go_wp2
     have n0_ := Aside0.mk (Kd.R_alloc HO.out (.cells #[.string y.f0, .int .i64 y.f1, .int .i64 y.f2, .int .i64 y.f3.f0, .int .i64 y.f3.f1, .int .i64 y.f3.f2, .int .i64 y.f3.f3, .int .i64 y.f3.f4, .string y.f4, .string y.f5, .int .i64 y.f6] 43 (0, 0)))
     have n1_ := Aside0.mk (below_alloc HB.out (.cells #[.string y.f0, .int .i64 y.f1, .int .i64 y.f2, .int .i64 y.f3.f0, .int .i64 y.f3.f1, .int .i64 y.f3.f2, .int .i64 y.f3.f3, .int .i64 y.f3.f4, .string y.f4, .string y.f5, .int .i64 y.f6] 43 (0, 0)))
     clear HO HB
     have HO := n0_
     have HB := n1_
     clear n0_ n1_
     generalize wr.alloc (.cells #[.string y.f0, .int .i64 y.f1, .int .i64 y.f2, .int .i64 y.f3.f0, .int .i64 y.f3.f1, .int .i64 y.f3.f2, .int .i64 y.f3.f3, .int .i64 y.f3.f4, .string y.f4, .string y.f5, .int .i64 y.f6] 43 (0, 0)) = w9 at HO HB hcz_0 hcz_1 hcz_2 hcz_3 hcz_4 hcz_5 hcz_6 hcz_7 hcz_8 hcz_9 hcz_10 hl_1 ⊢
     go_quiet (fail)
     go_wp2
     go_roundw
     case rel => exact ⟨i + 1, by rw [HW1.out], ⟨by have := Hi.out; omega⟩, ⟨by rw [Hst.out, HACC.out, HG.out]; exact (by (with_reducible repeat (first | apply Kd.R_alloc | apply Kd.R_drewN | apply Kd.R_drew)); exact HO.out)⟩, ⟨(by repeat (first | (with_reducible first | exact HB.out | apply below_alloc | apply pw_below_drewN | apply below_drew1) | exact HB.out))⟩⟩
     case measure =>
      rw [HW1.out]
      show S.length - ((i + 1 : Nat) : Int).toNat < S.length - (i : Int).toNat
      rw [Int.toNat_natCast, Int.toNat_natCast]
      have := Hi.out
      omega
    ·have r0 : (z.f0.toList == y.f0.toList) = false := beq_eq_false_iff_ne.mpr (fun e => hp ((tl_eq _ _).1 e))
     have r1 : (z.f0.toList != y.f0.toList) = true := bne_iff_ne.mpr (fun e => hp ((tl_eq _ _).1 e))
     have HG := Aside0.mk (show firstG acc y = acc ++ [y] from if_pos (Or.inr (by rw [hzl]; exact hp)))
     clear hp hzl hl0 hm hn
     go_wp2
     have n0_ := Aside0.mk (Kd.R_alloc HO.out (.cells #[.string y.f0, .int .i64 y.f1, .int .i64 y.f2, .int .i64 y.f3.f0, .int .i64 y.f3.f1, .int .i64 y.f3.f2, .int .i64 y.f3.f3, .int .i64 y.f3.f4, .string y.f4, .string y.f5, .int .i64 y.f6] 43 (0, 0)))
     have n1_ := Aside0.mk (below_alloc HB.out (.cells #[.string y.f0, .int .i64 y.f1, .int .i64 y.f2, .int .i64 y.f3.f0, .int .i64 y.f3.f1, .int .i64 y.f3.f2, .int .i64 y.f3.f3, .int .i64 y.f3.f4, .string y.f4, .string y.f5, .int .i64 y.f6] 43 (0, 0)))
     clear HO HB
     have HO := n0_
     have HB := n1_
     clear n0_ n1_
     generalize wr.alloc (.cells #[.string y.f0, .int .i64 y.f1, .int .i64 y.f2, .int .i64 y.f3.f0, .int .i64 y.f3.f1, .int .i64 y.f3.f2, .int .i64 y.f3.f3, .int .i64 y.f3.f4, .string y.f4, .string y.f5, .int .i64 y.f6] 43 (0, 0)) = w9 at HO HB hcz_0 hcz_1 hcz_2 hcz_3 hcz_4 hcz_5 hcz_6 hcz_7 hcz_8 hcz_9 hcz_10 hl_1 ⊢
     go_quiet (fail)
     go_wp2_with (first | ((with_reducible refine gate_builtin (b := .append) (xs := #[.tmp 28, .tmp 30]) rfl ?_); at_builtin; refine Kd.R_append k43 (w0 := w7) w7.heap.size rfl (.tmp 28) (.tmp 30) 22 43 (.agg #[(.string ⟨#[]⟩), (.int .i64 0), (.int .i64 0), (.int .i64 0), (.int .i64 0), (.int .i64 0), (.int .i64 0), (.int .i64 0), (.string ⟨#[]⟩), (.string ⟨#[]⟩), (.int .i64 0)]) 112 rfl Try.underlying22 info43 rfl (by decide) (by omega) (.slice (some ⟨go, 0, none⟩) acc.length co) acc y [.string y.f0, .int .i64 y.f1, .int .i64 y.f2, .int .i64 y.f3.f0, .int .i64 y.f3.f1, .int .i64 y.f3.f2, .int .i64 y.f3.f3, .int .i64 y.f3.f4, .string y.f4, .string y.f5, .int .i64 y.f6] (fun _ => True) (fun _ => False) rfl rfl ?aP (fun _ hk => hk.elim) ?aF ?aO ?aB ?aS ?aL ?_; (case aP => exact k43_mkM _ _ _ y); (case aB => exact (by repeat (first | (with_reducible first | exact HB.out | apply below_alloc | apply pw_below_drewN | apply below_drew1) | exact HB.out))); (case aF => exact (fun _ _ => trivial)); (case aO => exact (by (with_reducible repeat (first | apply Kd.R_alloc | apply Kd.R_drewN | apply Kd.R_drew)); exact HO.out)); (case aS => exact (below_size (by repeat (first | (with_reducible first | exact HB.out | apply below_alloc | apply pw_below_drewN | apply below_drew1) | exact HB.out)))); (case aL => have := Hlen.out; omega); intro v103 w8 ho hb hgr hat; have n0_ := Aside0.mk hb; have n1_ := Aside0.mk ho; clear HB HO; have HB := n0_; have HO := n1_; clear n0_ n1_ ho hb hgr hat))
     go_roundw
     case rel => exact ⟨i + 1, by rw [HW1.out], ⟨by have := Hi.out; omega⟩, ⟨by rw [Hst.out, HACC.out, HG.out]; exact HO.out⟩, HB⟩
     case measure =>
      rw [HW1.out]
      show S.length - ((i + 1 : Nat) : Int).toNat < S.length - (i : Int).toNat
      rw [Int.toNat_natCast, Int.toNat_natCast]
      have := Hi.out
      omega
  ·have hd : decide ((i : Int) < (S.length : Int)) = false := decide_eq_false (by omega)
   have hd2 : decide (i < S.length) = false := decide_eq_false hi
   have Hi := Aside0.mk hi
   clear hi
   go_wp2
   go_ret
   exact ⟨_, rfl, Kd.R_lower (by have h := HO.out; rw [show i = S.length from by have := HI.out; have := Hi.out; omega, List.take_length] at h; exact h) (below_size HW.out), below_step HW.out HB.out⟩
end Go.Proofs.Ytodbmagneaiocaa.PA
