/- PathClean: for any text the law returns true and leaves its argument as it was. No condition. -/
import Derived.Test.YtdomeeaaidjmpaaPAx0
import Derived.Test.YtdomeeaaidjmpaaPAfpathClean
import Derived.Test.YtdomeeaaidjmpaaPAfremoralaw13awake
import Derived.Test.YtdomeeaaidjmpaaPAfpathRight
import Derived.Test.YtdomeeaaidjmpaaPAfremoralaw13texts
import Derived.Test.YtdomeeaaidjmpaaPAfpathDepth
import Derived.Test.YtdomeeaaidjmpaaXpathSplit
import Derived.ProofKit
import Derived.Test.YtdomeeaaidjmpaaRows
import Derived.WalkKit
import Derived.Test.YtdomeeaaidjmpaaPAfpathpart
import Derived.Test.YtdomeeaaidjmpaaXSplitSpec
import Derived.Lib.Join
import Derived.Test.YtdomeeaaidjmpaaXstringsJoin
import Derived.Lib.Bytealg
import Derived.Test.YtdomeeaaidjmpaaPAfremoraref13Split
import Derived.Test.YtdomeeaaidjmpaaPAfremoraref13nought
import Derived.Test.YtdomeeaaidjmpaaPAfpathCommon
import Derived.Test.YtdomeeaaidjmpaaPAfpathLess
import Derived.Test.YtdomeeaaidjmpaaPAfpathRel
import Derived.Test.YtdomeeaaidjmpaaPAfpathUnder
import Derived.Test.YtdomeeaaidjmpaaPAfremoraref13Common
import Derived.Test.YtdomeeaaidjmpaaPAfremoraref13Less
import Derived.Test.YtdomeeaaidjmpaaPAfremoraref13Rel
import Derived.Test.YtdomeeaaidjmpaaPAfremoraref13Under
import Derived.Test.YtdomeeaaidjmpaaPAfremoraref13glue
import Derived.Test.YtdomeeaaidjmpaaPAfslicesComparestringstring
import Derived.Test.YtdomeeaaidjmpaaPAfslicesEqualstringstring
import Derived.Test.YtdomeeaaidjmpaaXcmpComparestring
import Derived.Test.YtdomeeaaidjmpaaPAfremoraref13Right
import Derived.Test.YtdomeeaaidjmpaaPAfpathJoin
import Derived.Test.YtdomeeaaidjmpaaPAfpathclean
import Derived.Test.YtdomeeaaidjmpaaPAfremoraref13Clean
import Derived.Test.YtdomeeaaidjmpaaPAfremoraref13Join
import Derived.Test.YtdomeeaaidjmpaaPAfremoraref13clean
import Derived.Test.YtdomeeaaidjmpaaXstringsIndexByte
import Derived.Below
import Derived.Carry
import Derived.ChangeOld
import Derived.OpenShut
import Derived.ShutString
import Derived.SizedLaws
/-! ### YtdomeeaaidjmpaaPAfremoralaw13PathClean -/
namespace Go.Proofs.Ytdomeeaaidjmpaa.PA
open Go.RowKit Go.Proofs.YtdomeeaaidjmpaaW.PrintWords Go.Proofs.YtdomeeaaidjmpaaW.PrintLast Go.Proofs.YtdomeeaaidjmpaaW.PrintMore
attribute [local go_sem] max2_int min2_int max_two min_two max_three min_three max_four min_four   -- for this text's walks alone
set_option linter.unusedVariables false
set_option linter.unusedSimpArgs false

/-! ### remoralaw13_PathClean: function 4 -/
mutual
def remoralaw13_PathClean.j0 : Nat → ByteArray → ByteArray → Int → Bool → Option (Bool)
  | 0, _, _, _, _ => none
  | k + 1, x0, x3, x4, x29 => if x29 = true then (some false) else (if x4 = 0 then ((path_Clean.f k x3).bind fun bt107 => ((path_Split.f x0).bind fun t109 => (remoralaw13_PathClean.l0 k x3 bt107.1 bt107.2 ([] : List ByteArray) t109 0))) else (if x3.toList = ([] : List UInt8) then ((path_Right.f k x0).bind fun t105 => (if t105 = true then (some false) else ((remoralaw13_awake.f k).bind fun t106 => (some t106)))) else (some false)))
def remoralaw13_PathClean.l0 : Nat → ByteArray → ByteArray → Int → List ByteArray → List ByteArray → Int → Option (Bool)
  | 0, _, _, _, _, _, _ => none
  | k + 1, x3, x5, x6, x7, x8, x9 => if x9 < (x8.length : Int) then (if 0 ≤ x9 then (if (rdOf ByteArray.empty x8 x9).toList = ([] : List UInt8) then (remoralaw13_PathClean.l0 k x3 x5 x6 x7 x8 (wrap64 (x9 + 1))) else (if (rdOf ByteArray.empty x8 x9).toList = ([46] : List UInt8) then (remoralaw13_PathClean.l0 k x3 x5 x6 x7 x8 (wrap64 (x9 + 1))) else (if x7.length < 8796093022208 then (remoralaw13_PathClean.l0 k x3 x5 x6 (x7 ++ [rdOf ByteArray.empty x8 x9]) x8 (wrap64 (x9 + 1))) else (none)))) else (none)) else ((path_Right.f k x3).bind fun t118 => (if t118 = true then (if x5.toList = x3.toList then (if x6 = 0 then ((path_Split.f x3).bind fun t119 => ((remoralaw13_texts.f k t119 x7).bind fun t122 => (if t122 = true then ((path_Depth.f x3).bind fun t123 => (if t123 ≤ 12 then ((remoralaw13_awake.f k).bind fun t124 => (some t124)) else (some false))) else (some false)))) else (some false)) else (some false)) else (some false)))
end
def remoralaw13_PathClean.f (k : Nat) (a0 : ByteArray) : Option (Bool) := if (a0.size : Int) > 4000 then ((remoralaw13_awake.f k).bind fun t101 => (some t101)) else ((path_Clean.f k a0).bind fun bt102 => ((path_Right.f k a0).bind fun t104 => (if t104 = true then (if bt102.2 = 0 then (remoralaw13_PathClean.j0 k a0 bt102.1 bt102.2 (bt102.1.toList != a0.toList)) else (remoralaw13_PathClean.j0 k a0 bt102.1 bt102.2 true)) else (remoralaw13_PathClean.j0 k a0 bt102.1 bt102.2 false))))
theorem remoralaw13_PathClean.mono_l : ∀ k, (∀ y0 y1 y2 y3, LeO (remoralaw13_PathClean.j0 k y0 y1 y2 y3) (remoralaw13_PathClean.j0 (k + 1) y0 y1 y2 y3)) ∧ (∀ y0 y1 y2 y3 y4 y5, LeO (remoralaw13_PathClean.l0 k y0 y1 y2 y3 y4 y5) (remoralaw13_PathClean.l0 (k + 1) y0 y1 y2 y3 y4 y5))
  | 0 => ⟨fun _ _ _ _ r h => by simp [remoralaw13_PathClean.j0] at h, fun _ _ _ _ _ _ r h => by simp [remoralaw13_PathClean.l0] at h⟩
  | k + 1 => by
    obtain ⟨ih0, ih1⟩ := remoralaw13_PathClean.mono_l k
    refine ⟨?_, ?_⟩
    · intro y0 y1 y2 y3
      unfold remoralaw13_PathClean.j0
      repeat' first
      | (with_reducible exact ih0 _ _ _ _)
      | (with_reducible exact ih1 _ _ _ _ _ _)
      | (with_reducible exact path_Clean.mono _ _)
      | (with_reducible exact path_Right.mono _ _)
      | (with_reducible exact remoralaw13_awake.mono _)
      | (with_reducible exact remoralaw13_texts.mono _ _ _)
      | (with_reducible exact LeO.refl _)
      | (with_reducible exact LeO.none _)
      | (with_reducible refine LeO.ite ?_ ?_)
      | (with_reducible refine LeO.bind ?_ (fun _ => ?_))
      | exact ih0 _ _ _ _
      | exact ih1 _ _ _ _ _ _
      | exact path_Clean.mono _ _
      | exact path_Right.mono _ _
      | exact remoralaw13_awake.mono _
      | exact remoralaw13_texts.mono _ _ _
      | exact LeO.none _
      | refine LeO.ite ?_ ?_
      | refine LeO.bind ?_ (fun _ => ?_)
    · intro y0 y1 y2 y3 y4 y5
      unfold remoralaw13_PathClean.l0
      repeat' first
      | (with_reducible exact ih0 _ _ _ _)
      | (with_reducible exact ih1 _ _ _ _ _ _)
      | (with_reducible exact path_Clean.mono _ _)
      | (with_reducible exact path_Right.mono _ _)
      | (with_reducible exact remoralaw13_awake.mono _)
      | (with_reducible exact remoralaw13_texts.mono _ _ _)
      | (with_reducible exact LeO.refl _)
      | (with_reducible exact LeO.none _)
      | (with_reducible refine LeO.ite ?_ ?_)
      | (with_reducible refine LeO.bind ?_ (fun _ => ?_))
      | exact ih0 _ _ _ _
      | exact ih1 _ _ _ _ _ _
      | exact path_Clean.mono _ _
      | exact path_Right.mono _ _
      | exact remoralaw13_awake.mono _
      | exact remoralaw13_texts.mono _ _ _
      | exact LeO.none _
      | refine LeO.ite ?_ ?_
      | refine LeO.bind ?_ (fun _ => ?_)
theorem remoralaw13_PathClean.mono : ∀ a0 k, LeO (remoralaw13_PathClean.f k a0) (remoralaw13_PathClean.f (k + 1) a0) := by
  intro a0 k
  obtain ⟨ih0, ih1⟩ := remoralaw13_PathClean.mono_l k
  unfold remoralaw13_PathClean.f
  repeat' first
      | (with_reducible exact ih0 _ _ _ _)
      | (with_reducible exact ih1 _ _ _ _ _ _)
      | (with_reducible exact path_Clean.mono _ _)
      | (with_reducible exact path_Right.mono _ _)
      | (with_reducible exact remoralaw13_awake.mono _)
      | (with_reducible exact remoralaw13_texts.mono _ _ _)
      | (with_reducible exact LeO.refl _)
      | (with_reducible exact LeO.none _)
      | (with_reducible refine LeO.ite ?_ ?_)
      | (with_reducible refine LeO.bind ?_ (fun _ => ?_))
      | exact ih0 _ _ _ _
      | exact ih1 _ _ _ _ _ _
      | exact path_Clean.mono _ _
      | exact path_Right.mono _ _
      | exact remoralaw13_awake.mono _
      | exact remoralaw13_texts.mono _ _ _
      | exact LeO.none _
      | refine LeO.ite ?_ ?_
      | refine LeO.bind ?_ (fun _ => ?_)
set_option maxHeartbeats 8000000 in
set_option maxRecDepth 100000 in
theorem remoralaw13_PathClean.calls (k : Nat) (a0 : ByteArray) (r : Bool) (w : World) (h : remoralaw13_PathClean.f k a0 = some r) :
    Calls Try.prog 4 #[.string a0] w fun e w' => e = .returned (.bool r) ∧ Below w.heap.size w w' := by
  have HB := Aside0.mk (Below.refl w.heap.size w)
  have H : (if (a0.size : Int) > 4000 then ((remoralaw13_awake.f k).bind fun t101 => (some t101)) else ((path_Clean.f k a0).bind fun bt102 => ((path_Right.f k a0).bind fun t104 => (if t104 = true then (if bt102.2 = 0 then (remoralaw13_PathClean.j0 k a0 bt102.1 bt102.2 (bt102.1.toList != a0.toList)) else (remoralaw13_PathClean.j0 k a0 bt102.1 bt102.2 true)) else (remoralaw13_PathClean.j0 k a0 bt102.1 bt102.2 false))))) = some r := h
  clear h
  by_cases c2 : (a0.size : Int) > 4000
  · rw [if_pos c2] at H
    have c2b0 : decide (4000 < (a0.size : Int)) = true := decide_eq_true c2
    have c2b1 : decide (4000 < a0.size) = true := decide_eq_true (by omega)
    clear c2
    replace H := Option.bind_eq_some_iff.mp H
    obtain ⟨t101, A30, H⟩ := H
    replace H : (some t101) = some r := H
    have A3 := Aside0.mk A30
    clear A30
    obtain rfl := Option.some.inj H
    go_enter Try.func4, Try.ntmps4
    go_wp2_with (first | ((with_reducible refine gate_callee (f := 11) rfl ?_); refine goesL_ (some 13) rfl rfl Try.func11 (by kernel_rfl) rfl #[] rfl (by (try simp only [List.map_toArray, List.map_cons, List.map_nil]); first | done | rfl | (simp only [List.length_drop, List.length_take]; rfl)) ?_; (with_reducible refine (remoralaw13_awake.calls k  t101 _ A3.out).mono ?_); rintro e w4 ⟨rfl, hb⟩; refine ⟨_, rfl, ?_⟩; have n0_ := Aside0.mk (below_step (by repeat (first | (with_reducible first | exact HB.out | apply below_alloc | apply pw_below_drewN | apply below_drew1) | exact HB.out)) hb); clear HB; have HB := n0_; clear n0_; (try clear hb); (try clear hb2); (try clear hk); (try clear hi)))
    go_ret
    exact ⟨by first | rfl | (simp [errW_none, errW_some] <;> rfl) | (simp [*, errW_none, errW_some] <;> rfl), by repeat (first | (with_reducible first | exact HB.out | apply below_alloc | apply pw_below_drewN | apply below_drew1) | exact HB.out)⟩
  · rw [if_neg c2] at H
    have c2b0 : decide (4000 < (a0.size : Int)) = false := decide_eq_false c2
    have c2b1 : decide (4000 < a0.size) = false := decide_eq_false (by omega)
    clear c2
    replace H := Option.bind_eq_some_iff.mp H
    obtain ⟨⟨t102, t103⟩, A50, H⟩ := H
    replace H : ((path_Right.f k a0).bind fun t104 => (if t104 = true then (if t103 = 0 then (remoralaw13_PathClean.j0 k a0 t102 t103 (t102.toList != a0.toList)) else (remoralaw13_PathClean.j0 k a0 t102 t103 true)) else (remoralaw13_PathClean.j0 k a0 t102 t103 false))) = some r := H
    have A5 := Aside0.mk A50
    clear A50
    have HC6 := Aside0.mk H
    clear H
    go_enter Try.func4, Try.ntmps4
    go_upto_region 4 with (first | ((with_reducible refine gate_callee (f := 14) rfl ?_); refine goesL_ (some 16) rfl rfl Try.func14 (by kernel_rfl) rfl #[.string a0] rfl (by (try simp only [List.map_toArray, List.map_cons, List.map_nil]); first | done | rfl | (simp only [List.length_drop, List.length_take]; rfl)) ?_; (with_reducible refine (path_Clean.calls k a0 t102 t103 _ A5.out).mono ?_); rintro e w7 ⟨rfl, hb⟩; refine ⟨_, rfl, ?_⟩; have n0_ := Aside0.mk (below_step (by repeat (first | (with_reducible first | exact HB.out | apply below_alloc | apply pw_below_drewN | apply below_drew1) | exact HB.out)) hb); clear HB; have HB := n0_; clear n0_; (try clear hb); (try clear hb2); (try clear hk); (try clear hi)))
    (try simp only [Act.put, List.setIfInBounds_toArray, List.set_cons_zero, List.set_cons_succ])
    go_cut [29] (fun v29 wc => ∃ (kq : Nat) (x29_5 : Bool), v29 = .bool x29_5 ∧ Aside0 (remoralaw13_PathClean.j0 kq a0 t102 t103 x29_5 = some r) ∧ Aside0 (kq ≤ k) ∧ Aside0 (Below w.heap.size w wc))
    case first =>
      have H := HC6.out
      clear HC6
      replace H := Option.bind_eq_some_iff.mp H
      obtain ⟨t104, A80, H⟩ := H
      replace H : (if t104 = true then (if t103 = 0 then (remoralaw13_PathClean.j0 k a0 t102 t103 (t102.toList != a0.toList)) else (remoralaw13_PathClean.j0 k a0 t102 t103 true)) else (remoralaw13_PathClean.j0 k a0 t102 t103 false)) = some r := H
      have A8 := Aside0.mk A80
      clear A80
      by_cases c9 : t104 = true
      · subst c9
        have H1 : (if t103 = 0 then (remoralaw13_PathClean.j0 k a0 t102 t103 (t102.toList != a0.toList)) else (remoralaw13_PathClean.j0 k a0 t102 t103 true)) = some r := by rw [if_pos rfl] at H; exact H
        clear H
        have H := H1
        clear H1
        by_cases c10 : t103 = 0
        · rw [if_pos c10] at H
          have c10b0 : (t103 == 0) = true := beq_iff_eq.mpr c10
          have c10b1 : (t103 != 0) = false := bne_eq_false_iff_eq.mpr c10
          clear c10
          (first | rw [c10b0] | (simp only [i64_w, i32_w]; rw [c10b0]) | skip)
          have H' := Aside0.mk H
          clear H
          go_wp2_with (first | ((with_reducible refine gate_callee (f := 16) rfl ?_); refine goesL_ (some 20) rfl rfl Try.func16 (by kernel_rfl) rfl #[.string a0] rfl (by (try simp only [List.map_toArray, List.map_cons, List.map_nil]); first | done | rfl | (simp only [List.length_drop, List.length_take]; rfl)) ?_; (with_reducible refine (path_Right.calls k a0 true _ A8.out).mono ?_); rintro e w11 ⟨rfl, hb⟩; refine ⟨_, rfl, ?_⟩; have n0_ := Aside0.mk (below_step (by repeat (first | (with_reducible first | exact HB.out | apply below_alloc | apply pw_below_drewN | apply below_drew1) | exact HB.out)) hb); clear HB; have HB := n0_; clear n0_; (try clear hb); (try clear hb2); (try clear hk); (try clear hi)))
          go_meet
          case rel => exact ⟨_, ((t102.toList != a0.toList)), (by first | rfl | (simp; done) | (simp [*]; done)), H', ⟨by first | omega | exact Nat.le_refl _⟩, ⟨by repeat (first | (with_reducible first | exact HB.out | apply below_alloc | apply pw_below_drewN | apply below_drew1) | exact HB.out)⟩⟩
        · rw [if_neg c10] at H
          have c10b0 : (t103 == 0) = false := beq_eq_false_iff_ne.mpr c10
          have c10b1 : (t103 != 0) = true := bne_iff_ne.mpr c10
          (first | rw [c10b0] | (simp only [i64_w, i32_w]; rw [c10b0]) | skip)
          have H' := Aside0.mk H
          clear H
          go_wp2_with (first | ((with_reducible refine gate_callee (f := 16) rfl ?_); refine goesL_ (some 20) rfl rfl Try.func16 (by kernel_rfl) rfl #[.string a0] rfl (by (try simp only [List.map_toArray, List.map_cons, List.map_nil]); first | done | rfl | (simp only [List.length_drop, List.length_take]; rfl)) ?_; (with_reducible refine (path_Right.calls k a0 true _ A8.out).mono ?_); rintro e w12 ⟨rfl, hb⟩; refine ⟨_, rfl, ?_⟩; have n0_ := Aside0.mk (below_step (by repeat (first | (with_reducible first | exact HB.out | apply below_alloc | apply pw_below_drewN | apply below_drew1) | exact HB.out)) hb); clear HB; have HB := n0_; clear n0_; (try clear hb); (try clear hb2); (try clear hk); (try clear hi)))
          go_meet
          case rel => exact ⟨_, (true), (by first | rfl | (simp; done) | (simp [*]; done)), H', ⟨by first | omega | exact Nat.le_refl _⟩, ⟨by repeat (first | (with_reducible first | exact HB.out | apply below_alloc | apply pw_below_drewN | apply below_drew1) | exact HB.out)⟩⟩
      · replace c9 := Bool.eq_false_iff.mpr c9
        subst c9
        have H1 : (remoralaw13_PathClean.j0 k a0 t102 t103 false) = some r := by rw [if_neg (show ¬ (false = true) by decide)] at H; exact H
        clear H
        have H := H1
        clear H1
        have H' := Aside0.mk H
        clear H
        go_wp2_with (first | ((with_reducible refine gate_callee (f := 16) rfl ?_); refine goesL_ (some 20) rfl rfl Try.func16 (by kernel_rfl) rfl #[.string a0] rfl (by (try simp only [List.map_toArray, List.map_cons, List.map_nil]); first | done | rfl | (simp only [List.length_drop, List.length_take]; rfl)) ?_; (with_reducible refine (path_Right.calls k a0 false _ A8.out).mono ?_); rintro e w13 ⟨rfl, hb⟩; refine ⟨_, rfl, ?_⟩; have n0_ := Aside0.mk (below_step (by repeat (first | (with_reducible first | exact HB.out | apply below_alloc | apply pw_below_drewN | apply below_drew1) | exact HB.out)) hb); clear HB; have HB := n0_; clear n0_; (try clear hb); (try clear hb2); (try clear hk); (try clear hi)))
        go_meet
        case rel => exact ⟨_, (false), (by first | rfl | (simp; done) | (simp [*]; done)), H', ⟨by first | omega | exact Nat.le_refl _⟩, ⟨by repeat (first | (with_reducible first | exact HB.out | apply below_alloc | apply pw_below_drewN | apply below_drew1) | exact HB.out)⟩⟩
    case rest =>
      clear HC6
      try clear c1
      try clear c2
      try clear c2b0
      try clear c2b1
      try clear p2
      try clear c4
      try clear c9
      try clear c10
      try clear c10b0
      try clear c10b1
      try clear c11
      obtain ⟨kq, x29_5, rfl, HA, HJ5, HB⟩ := hcut
      cases kq with
      | zero => exact absurd HA.out (by simp [remoralaw13_PathClean.j0])
      | succ kj5 =>
        have H := HA.out
        clear HA
        simp only [remoralaw13_PathClean.j0] at H
        by_cases c14 : x29_5 = true
        · subst c14
          have H1 : (some false) = some r := by rw [if_pos rfl] at H; exact H
          clear H
          have H := H1
          clear H1
          obtain rfl := Option.some.inj H
          go_wp2
          go_ret
          exact ⟨by first | rfl | (simp [errW_none, errW_some] <;> rfl) | (simp [*, errW_none, errW_some] <;> rfl), by repeat (first | (with_reducible first | exact HB.out | apply below_alloc | apply pw_below_drewN | apply below_drew1) | exact HB.out)⟩
        · replace c14 := Bool.eq_false_iff.mpr c14
          subst c14
          have H1 : (if t103 = 0 then ((path_Clean.f kj5 t102).bind fun bt107 => ((path_Split.f a0).bind fun t109 => (remoralaw13_PathClean.l0 kj5 t102 bt107.1 bt107.2 ([] : List ByteArray) t109 0))) else (if t102.toList = ([] : List UInt8) then ((path_Right.f kj5 a0).bind fun t105 => (if t105 = true then (some false) else ((remoralaw13_awake.f kj5).bind fun t106 => (some t106)))) else (some false))) = some r := by rw [if_neg (show ¬ (false = true) by decide)] at H; exact H
          clear H
          have H := H1
          clear H1
          by_cases c15 : t103 = 0
          · rw [if_pos c15] at H
            have c15b0 : (t103 == 0) = true := beq_iff_eq.mpr c15
            have c15b1 : (t103 != 0) = false := bne_eq_false_iff_eq.mpr c15
            clear c15
            replace H := Option.bind_eq_some_iff.mp H
            obtain ⟨⟨t107, t108⟩, A160, H⟩ := H
            replace H : ((path_Split.f a0).bind fun t109 => (remoralaw13_PathClean.l0 kj5 t102 t107 t108 ([] : List ByteArray) t109 0)) = some r := H
            have A16 := Aside0.mk A160
            clear A160
            replace H := Option.bind_eq_some_iff.mp H
            obtain ⟨t109, A170, H⟩ := H
            replace H : (remoralaw13_PathClean.l0 kj5 t102 t107 t108 ([] : List ByteArray) t109 0) = some r := H
            have A17 := Aside0.mk A170
            clear A170
            have H' := Aside0.mk H
            clear H
            go_wp2_with (first | ((with_reducible refine gate_callee (f := 14) rfl ?_); refine goesL_ (some 44) rfl rfl Try.func14 (by kernel_rfl) rfl #[.string t102] rfl (by (try simp only [List.map_toArray, List.map_cons, List.map_nil]); first | done | rfl | (simp only [List.length_drop, List.length_take]; rfl)) ?_; (with_reducible refine (path_Clean.calls kj5 t102 t107 t108 _ A16.out).mono ?_); rintro e w18 ⟨rfl, hb⟩; refine ⟨_, rfl, ?_⟩; have n0_ := Aside0.mk (below_step (by repeat (first | (with_reducible first | exact HB.out | apply below_alloc | apply pw_below_drewN | apply below_drew1) | exact HB.out)) hb); clear HB; have HB := n0_; clear n0_; (try clear hb); (try clear hb2); (try clear hk); (try clear hi)) | ((with_reducible refine gate_callee (f := 17) rfl ?_); refine goesL_ (some 48) rfl rfl Try.func17 (by kernel_rfl) rfl #[.string a0] rfl (by (try simp only [List.map_toArray, List.map_cons, List.map_nil]); first | done | rfl | (simp only [List.length_drop, List.length_take]; rfl)) ?_; (with_reducible refine (path_Split.calls a0 t109 _ A17.out).mono ?_); rintro e w19 ⟨v110, rfl, ho0, hb⟩; refine ⟨_, rfl, ?_⟩; have n0_ := Aside0.mk (Kd.R_lower ho0 (below_size (by repeat (first | (with_reducible first | exact HB.out | apply below_alloc | apply pw_below_drewN | apply below_drew1) | exact HB.out)))); have n1_ := Aside0.mk (below_step (by repeat (first | (with_reducible first | exact HB.out | apply below_alloc | apply pw_below_drewN | apply below_drew1) | exact HB.out)) hb); clear HB; have HO111 := n0_; have HB := n1_; clear n0_ n1_; (try clear hb); (try clear hb2); (try clear hk); (try clear hi); (try clear ho0)))
            go_loopg [7, 9] kj5 (fun kq v7 v9 w' => ∃ (x7_2 : List ByteArray) (x9_2 : Int), v9 = .int .i64 x9_2 ∧ Aside0 (remoralaw13_PathClean.l0 kq t102 t107 t108 x7_2 t109 x9_2 = some r) ∧ Aside0 (kq ≤ kj5) ∧ Aside0 (Kd.R Kd.string 9 w' w.heap.size (fun k_ => some k_ ≠ (v110 : Value).ownBlock) v7 x7_2) ∧ Aside0 (Kd.R Kd.string 9 w' w.heap.size (fun k_ => some k_ ≠ (v7 : Value).ownBlock) v110 t109) ∧ Aside0 (Below w.heap.size w w'))
            case atStart => exact ⟨(([] : List ByteArray)), (0), (by first | rfl | (simp; done) | (simp [*]; done)), H', ⟨Nat.le_refl _⟩, ⟨by first | exact Kd.R_nil _ _ _ _ _ | exact Kd.N_nil _ _ _ _ _ | exact Kd.V_nil _ _ _ _ _ | exact Kd.Q_nil _ _ _ _ _ | exact Kd.S_nil _ _ _ _ _⟩, ⟨by (with_reducible repeat (first | apply Kd.R_alloc | apply Kd.R_drewN | apply Kd.R_drew)); exact Kd.R_mono HO111.out (fun _ hk => (by simp [Value.ownBlock]))⟩, ⟨by repeat (first | (with_reducible first | exact HB.out | apply below_alloc | apply pw_below_drewN | apply below_drew1) | exact HB.out)⟩⟩
            case round =>
              clear H'
              try clear c1
              try clear c2
              try clear c2b0
              try clear c2b1
              try clear p2
              try clear c4
              try clear c9
              try clear c10
              try clear c10b0
              try clear c10b1
              try clear c11
              try clear c14
              try clear c15
              try clear c15b0
              try clear c15b1
              try clear c16
              try clear c17
              try clear p2
              obtain ⟨x7_2, x9_2, rfl, HA, HK2, HO_7, HO_8, HB⟩ := hrel
              cases gk with
              | zero => exact absurd HA.out (by simp [remoralaw13_PathClean.l0])
              | succ k2 =>
                have H := HA.out
                clear HA
                simp only [remoralaw13_PathClean.l0] at H
                by_cases c20 : x9_2 < (t109.length : Int)
                · rw [if_pos c20] at H
                  have c20b0 : decide (x9_2 < (t109.length : Int)) = true := decide_eq_true c20
                  clear c20
                  by_cases c21 : 0 ≤ x9_2
                  · rw [if_pos c21] at H
                    have c21b0 : decide (0 ≤ x9_2) = true := decide_eq_true c21
                    clear c21
                    by_cases c22 : (rdOf ByteArray.empty t109 x9_2).toList = ([] : List UInt8)
                    · rw [if_pos c22] at H
                      have c22b0 : ((rdOf ByteArray.empty t109 x9_2).toList == ([] : List UInt8)) = true := beq_iff_eq.mpr c22
                      have c22b1 : ((rdOf ByteArray.empty t109 x9_2).toList != ([] : List UInt8)) = false := bne_eq_false_iff_eq.mpr c22
                      clear c22
                      have H' := Aside0.mk H
                      clear H
                      obtain ⟨Ao23, co23, eo23⟩ := Kd.R_slice HO_8.out
                      subst eo23
                      have p112 : 0 ≤ (x9_2 : Int) := of_decide_eq_true (by first | (with_reducible assumption) | assumption)
                      have q112 : x9_2 < (t109.length : Int) := of_decide_eq_true (by first | (with_reducible assumption) | assumption)
                      obtain ⟨ad112, e112, hx112_0⟩ := Kd.at_string (Kd.R_reads' HO_8.out).2.2 x9_2 p112 q112
                      cases e112
                      replace p112 := eq_true p112
                      replace q112 := eq_true q112
                      go_wp2
                      go_roundg k2
                      case measure => have := HJ5.out; have := HK2.out; omega
                      case rel => exact ⟨(x7_2), (wrap64 (x9_2 + 1)), (by first | rfl | (simp; done) | (simp [*]; done)), H', ⟨by have := HJ5.out; have := HK2.out; omega⟩, ⟨by (with_reducible repeat (first | apply Kd.R_alloc | apply Kd.R_drewN | apply Kd.R_drew)); exact HO_7.out⟩, ⟨by (with_reducible repeat (first | apply Kd.R_alloc | apply Kd.R_drewN | apply Kd.R_drew)); exact HO_8.out⟩, ⟨by repeat (first | (with_reducible first | exact HB.out | apply below_alloc | apply pw_below_drewN | apply below_drew1) | exact HB.out)⟩⟩
                    · rw [if_neg c22] at H
                      have c22b0 : ((rdOf ByteArray.empty t109 x9_2).toList == ([] : List UInt8)) = false := beq_eq_false_iff_ne.mpr c22
                      have c22b1 : ((rdOf ByteArray.empty t109 x9_2).toList != ([] : List UInt8)) = true := bne_iff_ne.mpr c22
                      by_cases c24 : (rdOf ByteArray.empty t109 x9_2).toList = ([46] : List UInt8)
                      · rw [if_pos c24] at H
                        have c24b0 : ((rdOf ByteArray.empty t109 x9_2).toList == ([46] : List UInt8)) = true := beq_iff_eq.mpr c24
                        have c24b1 : ((rdOf ByteArray.empty t109 x9_2).toList != ([46] : List UInt8)) = false := bne_eq_false_iff_eq.mpr c24
                        clear c24
                        have H' := Aside0.mk H
                        clear H
                        obtain ⟨Ao25, co25, eo25⟩ := Kd.R_slice HO_8.out
                        subst eo25
                        have p112 : 0 ≤ (x9_2 : Int) := of_decide_eq_true (by first | (with_reducible assumption) | assumption)
                        have q112 : x9_2 < (t109.length : Int) := of_decide_eq_true (by first | (with_reducible assumption) | assumption)
                        obtain ⟨ad112, e112, hx112_0⟩ := Kd.at_string (Kd.R_reads' HO_8.out).2.2 x9_2 p112 q112
                        cases e112
                        replace p112 := eq_true p112
                        replace q112 := eq_true q112
                        have p113 : 0 ≤ (x9_2 : Int) := of_decide_eq_true (by first | (with_reducible assumption) | assumption)
                        have q113 : x9_2 < (t109.length : Int) := of_decide_eq_true (by first | (with_reducible assumption) | assumption)
                        obtain ⟨ad113, e113, hx113_0⟩ := Kd.at_string (Kd.R_reads' HO_8.out).2.2 x9_2 p113 q113
                        obtain rfl : ad112 = ad113 := (by injection e113)
                        replace p113 := eq_true p113
                        replace q113 := eq_true q113
                        go_wp2
                        go_roundg k2
                        case measure => have := HJ5.out; have := HK2.out; omega
                        case rel => exact ⟨(x7_2), (wrap64 (x9_2 + 1)), (by first | rfl | (simp; done) | (simp [*]; done)), H', ⟨by have := HJ5.out; have := HK2.out; omega⟩, ⟨by (with_reducible repeat (first | apply Kd.R_alloc | apply Kd.R_drewN | apply Kd.R_drew)); exact HO_7.out⟩, ⟨by (with_reducible repeat (first | apply Kd.R_alloc | apply Kd.R_drewN | apply Kd.R_drew)); exact HO_8.out⟩, ⟨by repeat (first | (with_reducible first | exact HB.out | apply below_alloc | apply pw_below_drewN | apply below_drew1) | exact HB.out)⟩⟩
                      · rw [if_neg c24] at H
                        have c24b0 : ((rdOf ByteArray.empty t109 x9_2).toList == ([46] : List UInt8)) = false := beq_eq_false_iff_ne.mpr c24
                        have c24b1 : ((rdOf ByteArray.empty t109 x9_2).toList != ([46] : List UInt8)) = true := bne_iff_ne.mpr c24
                        by_cases c26 : x7_2.length < 8796093022208
                        · rw [if_pos c26] at H
                          have LMc26 := Aside0.mk c26
                          clear c26
                          obtain ⟨y115, hy115⟩ : ∃ y_ : List ByteArray, y_ = (x7_2 ++ [rdOf ByteArray.empty t109 x9_2]) := ⟨_, rfl⟩
                          replace H : (remoralaw13_PathClean.l0 k2 t102 t107 t108 y115 t109 (wrap64 (x9_2 + 1))) = some r := by first | (rw [hy115]; with_reducible exact H) | (have H2_ := (Option.bind_some _ _).symm.trans H; rw [hy115]; with_reducible exact H2_) | (have H2_ := (Option.bind_some _ _).symm.trans H; with_reducible exact H2_) | with_reducible exact H | (rw [hy115]; exact H) | exact H
                          have Ny115 := Aside0.mk hy115
                          clear hy115
                          have H' := Aside0.mk H
                          clear H
                          obtain ⟨Ao27, co27, eo27⟩ := Kd.R_slice HO_8.out
                          subst eo27
                          have p112 : 0 ≤ (x9_2 : Int) := of_decide_eq_true (by first | (with_reducible assumption) | assumption)
                          have q112 : x9_2 < (t109.length : Int) := of_decide_eq_true (by first | (with_reducible assumption) | assumption)
                          obtain ⟨ad112, e112, hx112_0⟩ := Kd.at_string (Kd.R_reads' HO_8.out).2.2 x9_2 p112 q112
                          cases e112
                          replace p112 := eq_true p112
                          replace q112 := eq_true q112
                          have p113 : 0 ≤ (x9_2 : Int) := of_decide_eq_true (by first | (with_reducible assumption) | assumption)
                          have q113 : x9_2 < (t109.length : Int) := of_decide_eq_true (by first | (with_reducible assumption) | assumption)
                          obtain ⟨ad113, e113, hx113_0⟩ := Kd.at_string (Kd.R_reads' HO_8.out).2.2 x9_2 p113 q113
                          obtain rfl : ad112 = ad113 := (by injection e113)
                          replace p113 := eq_true p113
                          replace q113 := eq_true q113
                          have p114 : 0 ≤ (x9_2 : Int) := of_decide_eq_true (by first | (with_reducible assumption) | assumption)
                          have q114 : x9_2 < (t109.length : Int) := of_decide_eq_true (by first | (with_reducible assumption) | assumption)
                          obtain ⟨ad114, e114, hx114_0⟩ := Kd.at_string (Kd.R_reads' HO_8.out).2.2 x9_2 p114 q114
                          obtain rfl : ad112 = ad114 := (by injection e114)
                          replace p114 := eq_true p114
                          replace q114 := eq_true q114
                          go_wp2_with (first | ((with_reducible refine gate_builtin (b := .append) (xs := #[.tmp 67, .tmp 72]) rfl ?_); at_builtin; refine Kd.R_append Kd.string (w0 := w) w.heap.size rfl (.tmp 67) (.tmp 72) 22 9 (.string ⟨#[]⟩) 16 rfl Try.underlying22 info9 rfl (by decide) (by omega) u7 x7_2 (rdOf ByteArray.empty t109 x9_2) [.string (rdOf ByteArray.empty t109 x9_2)] (fun k_ => some k_ ≠ (.slice (some ad112) t109.length co27 : Value).ownBlock) (fun _ => False) rfl rfl ?aP (fun _ hk => hk.elim) ?aF ?aO ?aB ?aS ?aL ?_; (case aP => exact rfl); (case aB => exact (by repeat (first | (with_reducible first | exact HB.out | apply below_alloc | apply pw_below_drewN | apply below_drew1) | exact HB.out))); (case aF => exact (fun k_ hk => Kd.fresh' (Kd.R_lt (by (with_reducible repeat (first | apply Kd.R_alloc | apply Kd.R_drewN | apply Kd.R_drew)); exact HO_8.out)) k_ hk)); (case aO => exact (by (with_reducible repeat (first | apply Kd.R_alloc | apply Kd.R_drewN | apply Kd.R_drew)); exact HO_7.out)); (case aS => exact (below_size (by repeat (first | (with_reducible first | exact HB.out | apply below_alloc | apply pw_below_drewN | apply below_drew1) | exact HB.out)))); (case aL => have := LMc26.out; omega); intro v116 w28 ho hb hg hat; rw [← Ny115.out] at ho; have n0_ := Aside0.mk (Kd.R_after (ok := (fun _ => True)) (by (with_reducible repeat (first | apply Kd.R_alloc | apply Kd.R_drewN | apply Kd.R_drew)); exact Kd.R_mono HO_8.out (fun _ hk => ⟨trivial, hk⟩)) hg hat); have n1_ := Aside0.mk (hb); have n2_ := Aside0.mk (ho); clear HO_8; clear HB; clear HO_7; have HO_8 := n0_; have HB := n1_; have HO117 := n2_; clear n0_ n1_ n2_; clear ho hb hg hat))
                          go_roundg k2
                          case measure => have := HJ5.out; have := HK2.out; omega
                          case rel => exact ⟨(y115), (wrap64 (x9_2 + 1)), (by first | rfl | (simp; done) | (simp [*]; done)), H', ⟨by have := HJ5.out; have := HK2.out; omega⟩, ⟨by (with_reducible repeat (first | apply Kd.R_alloc | apply Kd.R_drewN | apply Kd.R_drew)); exact HO117.out⟩, ⟨by (with_reducible repeat (first | apply Kd.R_alloc | apply Kd.R_drewN | apply Kd.R_drew)); exact Kd.R_mono HO_8.out (fun _ hk => hk.2)⟩, ⟨by repeat (first | (with_reducible first | exact HB.out | apply below_alloc | apply pw_below_drewN | apply below_drew1) | exact HB.out)⟩⟩
                        · rw [if_neg c26] at H
                          exact absurd H (by simp)
                  · rw [if_neg c21] at H
                    exact absurd H (by simp)
                · rw [if_neg c20] at H
                  have c20b0 : decide (x9_2 < (t109.length : Int)) = false := decide_eq_false c20
                  clear c20
                  replace H := Option.bind_eq_some_iff.mp H
                  obtain ⟨t118, A290, H⟩ := H
                  replace H : (if t118 = true then (if t107.toList = t102.toList then (if t108 = 0 then ((path_Split.f t102).bind fun t119 => ((remoralaw13_texts.f k2 t119 x7_2).bind fun t122 => (if t122 = true then ((path_Depth.f t102).bind fun t123 => (if t123 ≤ 12 then ((remoralaw13_awake.f k2).bind fun t124 => (some t124)) else (some false))) else (some false)))) else (some false)) else (some false)) else (some false)) = some r := H
                  have A29 := Aside0.mk A290
                  clear A290
                  by_cases c30 : t118 = true
                  · subst c30
                    have H1 : (if t107.toList = t102.toList then (if t108 = 0 then ((path_Split.f t102).bind fun t119 => ((remoralaw13_texts.f k2 t119 x7_2).bind fun t122 => (if t122 = true then ((path_Depth.f t102).bind fun t123 => (if t123 ≤ 12 then ((remoralaw13_awake.f k2).bind fun t124 => (some t124)) else (some false))) else (some false)))) else (some false)) else (some false)) = some r := by rw [if_pos rfl] at H; exact H
                    clear H
                    have H := H1
                    clear H1
                    by_cases c31 : t107.toList = t102.toList
                    · rw [if_pos c31] at H
                      have c31b0 : (t107.toList == t102.toList) = true := beq_iff_eq.mpr c31
                      have c31b1 : (t107.toList != t102.toList) = false := bne_eq_false_iff_eq.mpr c31
                      clear c31
                      by_cases c32 : t108 = 0
                      · rw [if_pos c32] at H
                        have c32b0 : (t108 == 0) = true := beq_iff_eq.mpr c32
                        have c32b1 : (t108 != 0) = false := bne_eq_false_iff_eq.mpr c32
                        clear c32
                        replace H := Option.bind_eq_some_iff.mp H
                        obtain ⟨t119, A330, H⟩ := H
                        replace H : ((remoralaw13_texts.f k2 t119 x7_2).bind fun t122 => (if t122 = true then ((path_Depth.f t102).bind fun t123 => (if t123 ≤ 12 then ((remoralaw13_awake.f k2).bind fun t124 => (some t124)) else (some false))) else (some false))) = some r := H
                        have A33 := Aside0.mk A330
                        clear A330
                        replace H := Option.bind_eq_some_iff.mp H
                        obtain ⟨t122, A340, H⟩ := H
                        replace H : (if t122 = true then ((path_Depth.f t102).bind fun t123 => (if t123 ≤ 12 then ((remoralaw13_awake.f k2).bind fun t124 => (some t124)) else (some false))) else (some false)) = some r := H
                        have A34 := Aside0.mk A340
                        clear A340
                        by_cases c35 : t122 = true
                        · subst c35
                          have H1 : ((path_Depth.f t102).bind fun t123 => (if t123 ≤ 12 then ((remoralaw13_awake.f k2).bind fun t124 => (some t124)) else (some false))) = some r := by rw [if_pos rfl] at H; exact H
                          clear H
                          have H := H1
                          clear H1
                          replace H := Option.bind_eq_some_iff.mp H
                          obtain ⟨t123, A360, H⟩ := H
                          replace H : (if t123 ≤ 12 then ((remoralaw13_awake.f k2).bind fun t124 => (some t124)) else (some false)) = some r := H
                          have A36 := Aside0.mk A360
                          clear A360
                          by_cases c37 : t123 ≤ 12
                          · rw [if_pos c37] at H
                            have c37b0 : decide (t123 ≤ 12) = true := decide_eq_true c37
                            clear c37
                            replace H := Option.bind_eq_some_iff.mp H
                            obtain ⟨t124, A380, H⟩ := H
                            replace H : (some t124) = some r := H
                            have A38 := Aside0.mk A380
                            clear A380
                            obtain rfl := Option.some.inj H
                            obtain ⟨Ao39, co39, eo39⟩ := Kd.R_slice HO_8.out
                            subst eo39
                            go_wp2_with (first | ((with_reducible refine gate_callee (f := 16) rfl ?_); refine goesL_ (some 75) rfl rfl Try.func16 (by kernel_rfl) rfl #[.string t102] rfl (by (try simp only [List.map_toArray, List.map_cons, List.map_nil]); first | done | rfl | (simp only [List.length_drop, List.length_take]; rfl)) ?_; (with_reducible refine (path_Right.calls k2 t102 true _ A29.out).mono ?_); rintro e w40 ⟨rfl, hb⟩; refine ⟨_, rfl, ?_⟩; have n0_ := Aside0.mk (Kd.R_below (by (with_reducible repeat (first | apply Kd.R_alloc | apply Kd.R_drewN | apply Kd.R_drew)); exact HO_7.out) hb); have n1_ := Aside0.mk (Kd.R_below (by (with_reducible repeat (first | apply Kd.R_alloc | apply Kd.R_drewN | apply Kd.R_drew)); exact HO_8.out) hb); have n2_ := Aside0.mk (below_step (by repeat (first | (with_reducible first | exact HB.out | apply below_alloc | apply pw_below_drewN | apply below_drew1) | exact HB.out)) hb); clear HO_7; clear HO_8; clear HB; have HO_7 := n0_; have HO_8 := n1_; have HB := n2_; clear n0_ n1_ n2_; (try clear hb); (try clear hb2); (try clear hk); (try clear hi)) | (go_at_call 17; (with_reducible refine (path_Split.calls t102 t119 _ A33.out).mono ?_); rintro e w41 ⟨v120, rfl, ho0, hb⟩; have n0_ := Aside0.mk (Kd.R_elder' (by (with_reducible repeat (first | apply Kd.R_alloc | apply Kd.R_drewN | apply Kd.R_drew)); exact HO_7.out) (Kd.R_base ho0) hb); have n1_ := Aside0.mk (Kd.R_elder' (by (with_reducible repeat (first | apply Kd.R_alloc | apply Kd.R_drewN | apply Kd.R_drew)); exact HO_8.out) (Kd.R_base ho0) hb); have n2_ := Aside0.mk (Kd.R_lower (Kd.R_new' (Kd.R_new' ho0 (Kd.R_lt (by (with_reducible repeat (first | apply Kd.R_alloc | apply Kd.R_drewN | apply Kd.R_drew)); exact HO_7.out))) (Kd.R_lt (by (with_reducible repeat (first | apply Kd.R_alloc | apply Kd.R_drewN | apply Kd.R_drew)); exact HO_8.out))) (below_size (by repeat (first | (with_reducible first | exact HB.out | apply below_alloc | apply pw_below_drewN | apply below_drew1) | exact HB.out)))); have n3_ := Aside0.mk (below_step (by repeat (first | (with_reducible first | exact HB.out | apply below_alloc | apply pw_below_drewN | apply below_drew1) | exact HB.out)) hb); clear HO_7; clear HO_8; clear HB; have HO_7 := n0_; have HO_8 := n1_; have HO121 := n2_; have HB := n3_; clear n0_ n1_ n2_ n3_; (try clear hb); (try clear hb2); (try clear hk); (try clear hi); (try clear ho0); obtain ⟨Ao42, co42, eo42⟩ := Kd.R_slice HO121.out; subst eo42; obtain ⟨Ao43, co43, eo43⟩ := Kd.R_slice HO_7.out; subst eo43) | (go_at_call 18; (with_reducible refine (remoralaw13_texts.calls k2 _ _ t119 _ _ x7_2 true _ ?side1 ?side2 ?side3 ?side4 A34.out).mono ?_); (case side1 => repeat (first | exact (Kd.R_reads' HO121.out).2.2 | (with_reducible refine Kd.C_alloc ?_ _) | (with_reducible refine Kd.C_drewN ?_ _) | (with_reducible refine Kd.C_drew ?_))); (case side2 => exact (Kd.R_reads' HO121.out).2.1); (case side3 => repeat (first | exact (Kd.R_reads' HO_7.out).2.2 | (with_reducible refine Kd.C_alloc ?_ _) | (with_reducible refine Kd.C_drewN ?_ _) | (with_reducible refine Kd.C_drew ?_))); (case side4 => exact (Kd.R_reads' HO_7.out).2.1); rintro e w' ⟨rfl, ⟨nd, rfl⟩⟩) | (go_at_call 19; (with_reducible refine (path_Depth.calls t102 t123 _ A36.out).mono ?_); rintro e w44 ⟨rfl, hb⟩; have n0_ := Aside0.mk (Kd.R_below (by (with_reducible repeat (first | apply Kd.R_alloc | apply Kd.R_drewN | apply Kd.R_drew)); exact HO_7.out) hb); have n1_ := Aside0.mk (Kd.R_below (by (with_reducible repeat (first | apply Kd.R_alloc | apply Kd.R_drewN | apply Kd.R_drew)); exact HO_8.out) hb); have n2_ := Aside0.mk (Kd.R_below (by (with_reducible repeat (first | apply Kd.R_alloc | apply Kd.R_drewN | apply Kd.R_drew)); exact HO121.out) hb); have n3_ := Aside0.mk (below_step (by repeat (first | (with_reducible first | exact HB.out | apply below_alloc | apply pw_below_drewN | apply below_drew1) | exact HB.out)) hb); clear HO_7; clear HO_8; clear HO121; clear HB; have HO_7 := n0_; have HO_8 := n1_; have HO121 := n2_; have HB := n3_; clear n0_ n1_ n2_ n3_; (try clear hb); (try clear hb2); (try clear hk); (try clear hi)) | (go_at_call 11; (with_reducible refine (remoralaw13_awake.calls k2  t124 _ A38.out).mono ?_); rintro e w45 ⟨rfl, hb⟩; have n0_ := Aside0.mk (Kd.R_below (by (with_reducible repeat (first | apply Kd.R_alloc | apply Kd.R_drewN | apply Kd.R_drew)); exact HO_7.out) hb); have n1_ := Aside0.mk (Kd.R_below (by (with_reducible repeat (first | apply Kd.R_alloc | apply Kd.R_drewN | apply Kd.R_drew)); exact HO_8.out) hb); have n2_ := Aside0.mk (Kd.R_below (by (with_reducible repeat (first | apply Kd.R_alloc | apply Kd.R_drewN | apply Kd.R_drew)); exact HO121.out) hb); have n3_ := Aside0.mk (below_step (by repeat (first | (with_reducible first | exact HB.out | apply below_alloc | apply pw_below_drewN | apply below_drew1) | exact HB.out)) hb); clear HO_7; clear HO_8; clear HO121; clear HB; have HO_7 := n0_; have HO_8 := n1_; have HO121 := n2_; have HB := n3_; clear n0_ n1_ n2_ n3_; (try clear hb); (try clear hb2); (try clear hk); (try clear hi)))
                            go_ret
                            exact ⟨by first | rfl | (simp [errW_none, errW_some] <;> rfl) | (simp [*, errW_none, errW_some] <;> rfl), by repeat (first | (with_reducible first | exact HB.out | apply below_alloc | apply pw_below_drewN | apply below_drew1) | exact HB.out)⟩
                          · rw [if_neg c37] at H
                            have c37b0 : decide (t123 ≤ 12) = false := decide_eq_false c37
                            clear c37
                            obtain rfl := Option.some.inj H
                            obtain ⟨Ao46, co46, eo46⟩ := Kd.R_slice HO_8.out
                            subst eo46
                            go_wp2_with (first | ((with_reducible refine gate_callee (f := 16) rfl ?_); refine goesL_ (some 75) rfl rfl Try.func16 (by kernel_rfl) rfl #[.string t102] rfl (by (try simp only [List.map_toArray, List.map_cons, List.map_nil]); first | done | rfl | (simp only [List.length_drop, List.length_take]; rfl)) ?_; (with_reducible refine (path_Right.calls k2 t102 true _ A29.out).mono ?_); rintro e w47 ⟨rfl, hb⟩; refine ⟨_, rfl, ?_⟩; have n0_ := Aside0.mk (Kd.R_below (by (with_reducible repeat (first | apply Kd.R_alloc | apply Kd.R_drewN | apply Kd.R_drew)); exact HO_7.out) hb); have n1_ := Aside0.mk (Kd.R_below (by (with_reducible repeat (first | apply Kd.R_alloc | apply Kd.R_drewN | apply Kd.R_drew)); exact HO_8.out) hb); have n2_ := Aside0.mk (below_step (by repeat (first | (with_reducible first | exact HB.out | apply below_alloc | apply pw_below_drewN | apply below_drew1) | exact HB.out)) hb); clear HO_7; clear HO_8; clear HB; have HO_7 := n0_; have HO_8 := n1_; have HB := n2_; clear n0_ n1_ n2_; (try clear hb); (try clear hb2); (try clear hk); (try clear hi)) | (go_at_call 17; (with_reducible refine (path_Split.calls t102 t119 _ A33.out).mono ?_); rintro e w48 ⟨v120, rfl, ho0, hb⟩; have n0_ := Aside0.mk (Kd.R_elder' (by (with_reducible repeat (first | apply Kd.R_alloc | apply Kd.R_drewN | apply Kd.R_drew)); exact HO_7.out) (Kd.R_base ho0) hb); have n1_ := Aside0.mk (Kd.R_elder' (by (with_reducible repeat (first | apply Kd.R_alloc | apply Kd.R_drewN | apply Kd.R_drew)); exact HO_8.out) (Kd.R_base ho0) hb); have n2_ := Aside0.mk (Kd.R_lower (Kd.R_new' (Kd.R_new' ho0 (Kd.R_lt (by (with_reducible repeat (first | apply Kd.R_alloc | apply Kd.R_drewN | apply Kd.R_drew)); exact HO_7.out))) (Kd.R_lt (by (with_reducible repeat (first | apply Kd.R_alloc | apply Kd.R_drewN | apply Kd.R_drew)); exact HO_8.out))) (below_size (by repeat (first | (with_reducible first | exact HB.out | apply below_alloc | apply pw_below_drewN | apply below_drew1) | exact HB.out)))); have n3_ := Aside0.mk (below_step (by repeat (first | (with_reducible first | exact HB.out | apply below_alloc | apply pw_below_drewN | apply below_drew1) | exact HB.out)) hb); clear HO_7; clear HO_8; clear HB; have HO_7 := n0_; have HO_8 := n1_; have HO121 := n2_; have HB := n3_; clear n0_ n1_ n2_ n3_; (try clear hb); (try clear hb2); (try clear hk); (try clear hi); (try clear ho0); obtain ⟨Ao49, co49, eo49⟩ := Kd.R_slice HO121.out; subst eo49; obtain ⟨Ao50, co50, eo50⟩ := Kd.R_slice HO_7.out; subst eo50) | (go_at_call 18; (with_reducible refine (remoralaw13_texts.calls k2 _ _ t119 _ _ x7_2 true _ ?side1 ?side2 ?side3 ?side4 A34.out).mono ?_); (case side1 => repeat (first | exact (Kd.R_reads' HO121.out).2.2 | (with_reducible refine Kd.C_alloc ?_ _) | (with_reducible refine Kd.C_drewN ?_ _) | (with_reducible refine Kd.C_drew ?_))); (case side2 => exact (Kd.R_reads' HO121.out).2.1); (case side3 => repeat (first | exact (Kd.R_reads' HO_7.out).2.2 | (with_reducible refine Kd.C_alloc ?_ _) | (with_reducible refine Kd.C_drewN ?_ _) | (with_reducible refine Kd.C_drew ?_))); (case side4 => exact (Kd.R_reads' HO_7.out).2.1); rintro e w' ⟨rfl, ⟨nd, rfl⟩⟩) | (go_at_call 19; (with_reducible refine (path_Depth.calls t102 t123 _ A36.out).mono ?_); rintro e w51 ⟨rfl, hb⟩; have n0_ := Aside0.mk (Kd.R_below (by (with_reducible repeat (first | apply Kd.R_alloc | apply Kd.R_drewN | apply Kd.R_drew)); exact HO_7.out) hb); have n1_ := Aside0.mk (Kd.R_below (by (with_reducible repeat (first | apply Kd.R_alloc | apply Kd.R_drewN | apply Kd.R_drew)); exact HO_8.out) hb); have n2_ := Aside0.mk (Kd.R_below (by (with_reducible repeat (first | apply Kd.R_alloc | apply Kd.R_drewN | apply Kd.R_drew)); exact HO121.out) hb); have n3_ := Aside0.mk (below_step (by repeat (first | (with_reducible first | exact HB.out | apply below_alloc | apply pw_below_drewN | apply below_drew1) | exact HB.out)) hb); clear HO_7; clear HO_8; clear HO121; clear HB; have HO_7 := n0_; have HO_8 := n1_; have HO121 := n2_; have HB := n3_; clear n0_ n1_ n2_ n3_; (try clear hb); (try clear hb2); (try clear hk); (try clear hi)))
                            go_ret
                            exact ⟨by first | rfl | (simp [errW_none, errW_some] <;> rfl) | (simp [*, errW_none, errW_some] <;> rfl), by repeat (first | (with_reducible first | exact HB.out | apply below_alloc | apply pw_below_drewN | apply below_drew1) | exact HB.out)⟩
                        · replace c35 := Bool.eq_false_iff.mpr c35
                          subst c35
                          have H1 : (some false) = some r := by rw [if_neg (show ¬ (false = true) by decide)] at H; exact H
                          clear H
                          have H := H1
                          clear H1
                          obtain rfl := Option.some.inj H
                          obtain ⟨Ao52, co52, eo52⟩ := Kd.R_slice HO_8.out
                          subst eo52
                          go_wp2_with (first | ((with_reducible refine gate_callee (f := 16) rfl ?_); refine goesL_ (some 75) rfl rfl Try.func16 (by kernel_rfl) rfl #[.string t102] rfl (by (try simp only [List.map_toArray, List.map_cons, List.map_nil]); first | done | rfl | (simp only [List.length_drop, List.length_take]; rfl)) ?_; (with_reducible refine (path_Right.calls k2 t102 true _ A29.out).mono ?_); rintro e w53 ⟨rfl, hb⟩; refine ⟨_, rfl, ?_⟩; have n0_ := Aside0.mk (Kd.R_below (by (with_reducible repeat (first | apply Kd.R_alloc | apply Kd.R_drewN | apply Kd.R_drew)); exact HO_7.out) hb); have n1_ := Aside0.mk (Kd.R_below (by (with_reducible repeat (first | apply Kd.R_alloc | apply Kd.R_drewN | apply Kd.R_drew)); exact HO_8.out) hb); have n2_ := Aside0.mk (below_step (by repeat (first | (with_reducible first | exact HB.out | apply below_alloc | apply pw_below_drewN | apply below_drew1) | exact HB.out)) hb); clear HO_7; clear HO_8; clear HB; have HO_7 := n0_; have HO_8 := n1_; have HB := n2_; clear n0_ n1_ n2_; (try clear hb); (try clear hb2); (try clear hk); (try clear hi)) | (go_at_call 17; (with_reducible refine (path_Split.calls t102 t119 _ A33.out).mono ?_); rintro e w54 ⟨v120, rfl, ho0, hb⟩; have n0_ := Aside0.mk (Kd.R_elder' (by (with_reducible repeat (first | apply Kd.R_alloc | apply Kd.R_drewN | apply Kd.R_drew)); exact HO_7.out) (Kd.R_base ho0) hb); have n1_ := Aside0.mk (Kd.R_elder' (by (with_reducible repeat (first | apply Kd.R_alloc | apply Kd.R_drewN | apply Kd.R_drew)); exact HO_8.out) (Kd.R_base ho0) hb); have n2_ := Aside0.mk (Kd.R_lower (Kd.R_new' (Kd.R_new' ho0 (Kd.R_lt (by (with_reducible repeat (first | apply Kd.R_alloc | apply Kd.R_drewN | apply Kd.R_drew)); exact HO_7.out))) (Kd.R_lt (by (with_reducible repeat (first | apply Kd.R_alloc | apply Kd.R_drewN | apply Kd.R_drew)); exact HO_8.out))) (below_size (by repeat (first | (with_reducible first | exact HB.out | apply below_alloc | apply pw_below_drewN | apply below_drew1) | exact HB.out)))); have n3_ := Aside0.mk (below_step (by repeat (first | (with_reducible first | exact HB.out | apply below_alloc | apply pw_below_drewN | apply below_drew1) | exact HB.out)) hb); clear HO_7; clear HO_8; clear HB; have HO_7 := n0_; have HO_8 := n1_; have HO121 := n2_; have HB := n3_; clear n0_ n1_ n2_ n3_; (try clear hb); (try clear hb2); (try clear hk); (try clear hi); (try clear ho0); obtain ⟨Ao55, co55, eo55⟩ := Kd.R_slice HO121.out; subst eo55; obtain ⟨Ao56, co56, eo56⟩ := Kd.R_slice HO_7.out; subst eo56) | (go_at_call 18; (with_reducible refine (remoralaw13_texts.calls k2 _ _ t119 _ _ x7_2 false _ ?side1 ?side2 ?side3 ?side4 A34.out).mono ?_); (case side1 => repeat (first | exact (Kd.R_reads' HO121.out).2.2 | (with_reducible refine Kd.C_alloc ?_ _) | (with_reducible refine Kd.C_drewN ?_ _) | (with_reducible refine Kd.C_drew ?_))); (case side2 => exact (Kd.R_reads' HO121.out).2.1); (case side3 => repeat (first | exact (Kd.R_reads' HO_7.out).2.2 | (with_reducible refine Kd.C_alloc ?_ _) | (with_reducible refine Kd.C_drewN ?_ _) | (with_reducible refine Kd.C_drew ?_))); (case side4 => exact (Kd.R_reads' HO_7.out).2.1); rintro e w' ⟨rfl, ⟨nd, rfl⟩⟩))
                          go_ret
                          exact ⟨by first | rfl | (simp [errW_none, errW_some] <;> rfl) | (simp [*, errW_none, errW_some] <;> rfl), by repeat (first | (with_reducible first | exact HB.out | apply below_alloc | apply pw_below_drewN | apply below_drew1) | exact HB.out)⟩
                      · rw [if_neg c32] at H
                        have c32b0 : (t108 == 0) = false := beq_eq_false_iff_ne.mpr c32
                        have c32b1 : (t108 != 0) = true := bne_iff_ne.mpr c32
                        obtain rfl := Option.some.inj H
                        obtain ⟨Ao57, co57, eo57⟩ := Kd.R_slice HO_8.out
                        subst eo57
                        go_wp2_with (first | ((with_reducible refine gate_callee (f := 16) rfl ?_); refine goesL_ (some 75) rfl rfl Try.func16 (by kernel_rfl) rfl #[.string t102] rfl (by (try simp only [List.map_toArray, List.map_cons, List.map_nil]); first | done | rfl | (simp only [List.length_drop, List.length_take]; rfl)) ?_; (with_reducible refine (path_Right.calls k2 t102 true _ A29.out).mono ?_); rintro e w58 ⟨rfl, hb⟩; refine ⟨_, rfl, ?_⟩; have n0_ := Aside0.mk (Kd.R_below (by (with_reducible repeat (first | apply Kd.R_alloc | apply Kd.R_drewN | apply Kd.R_drew)); exact HO_7.out) hb); have n1_ := Aside0.mk (Kd.R_below (by (with_reducible repeat (first | apply Kd.R_alloc | apply Kd.R_drewN | apply Kd.R_drew)); exact HO_8.out) hb); have n2_ := Aside0.mk (below_step (by repeat (first | (with_reducible first | exact HB.out | apply below_alloc | apply pw_below_drewN | apply below_drew1) | exact HB.out)) hb); clear HO_7; clear HO_8; clear HB; have HO_7 := n0_; have HO_8 := n1_; have HB := n2_; clear n0_ n1_ n2_; (try clear hb); (try clear hb2); (try clear hk); (try clear hi)))
                        go_ret
                        exact ⟨by first | rfl | (simp [errW_none, errW_some] <;> rfl) | (simp [*, errW_none, errW_some] <;> rfl), by repeat (first | (with_reducible first | exact HB.out | apply below_alloc | apply pw_below_drewN | apply below_drew1) | exact HB.out)⟩
                    · rw [if_neg c31] at H
                      have c31b0 : (t107.toList == t102.toList) = false := beq_eq_false_iff_ne.mpr c31
                      have c31b1 : (t107.toList != t102.toList) = true := bne_iff_ne.mpr c31
                      obtain rfl := Option.some.inj H
                      obtain ⟨Ao59, co59, eo59⟩ := Kd.R_slice HO_8.out
                      subst eo59
                      go_wp2_with (first | ((with_reducible refine gate_callee (f := 16) rfl ?_); refine goesL_ (some 75) rfl rfl Try.func16 (by kernel_rfl) rfl #[.string t102] rfl (by (try simp only [List.map_toArray, List.map_cons, List.map_nil]); first | done | rfl | (simp only [List.length_drop, List.length_take]; rfl)) ?_; (with_reducible refine (path_Right.calls k2 t102 true _ A29.out).mono ?_); rintro e w60 ⟨rfl, hb⟩; refine ⟨_, rfl, ?_⟩; have n0_ := Aside0.mk (Kd.R_below (by (with_reducible repeat (first | apply Kd.R_alloc | apply Kd.R_drewN | apply Kd.R_drew)); exact HO_7.out) hb); have n1_ := Aside0.mk (Kd.R_below (by (with_reducible repeat (first | apply Kd.R_alloc | apply Kd.R_drewN | apply Kd.R_drew)); exact HO_8.out) hb); have n2_ := Aside0.mk (below_step (by repeat (first | (with_reducible first | exact HB.out | apply below_alloc | apply pw_below_drewN | apply below_drew1) | exact HB.out)) hb); clear HO_7; clear HO_8; clear HB; have HO_7 := n0_; have HO_8 := n1_; have HB := n2_; clear n0_ n1_ n2_; (try clear hb); (try clear hb2); (try clear hk); (try clear hi)))
                      go_ret
                      exact ⟨by first | rfl | (simp [errW_none, errW_some] <;> rfl) | (simp [*, errW_none, errW_some] <;> rfl), by repeat (first | (with_reducible first | exact HB.out | apply below_alloc | apply pw_below_drewN | apply below_drew1) | exact HB.out)⟩
                  · replace c30 := Bool.eq_false_iff.mpr c30
                    subst c30
                    have H1 : (some false) = some r := by rw [if_neg (show ¬ (false = true) by decide)] at H; exact H
                    clear H
                    have H := H1
                    clear H1
                    obtain rfl := Option.some.inj H
                    obtain ⟨Ao61, co61, eo61⟩ := Kd.R_slice HO_8.out
                    subst eo61
                    go_wp2_with (first | ((with_reducible refine gate_callee (f := 16) rfl ?_); refine goesL_ (some 75) rfl rfl Try.func16 (by kernel_rfl) rfl #[.string t102] rfl (by (try simp only [List.map_toArray, List.map_cons, List.map_nil]); first | done | rfl | (simp only [List.length_drop, List.length_take]; rfl)) ?_; (with_reducible refine (path_Right.calls k2 t102 false _ A29.out).mono ?_); rintro e w62 ⟨rfl, hb⟩; refine ⟨_, rfl, ?_⟩; have n0_ := Aside0.mk (Kd.R_below (by (with_reducible repeat (first | apply Kd.R_alloc | apply Kd.R_drewN | apply Kd.R_drew)); exact HO_7.out) hb); have n1_ := Aside0.mk (Kd.R_below (by (with_reducible repeat (first | apply Kd.R_alloc | apply Kd.R_drewN | apply Kd.R_drew)); exact HO_8.out) hb); have n2_ := Aside0.mk (below_step (by repeat (first | (with_reducible first | exact HB.out | apply below_alloc | apply pw_below_drewN | apply below_drew1) | exact HB.out)) hb); clear HO_7; clear HO_8; clear HB; have HO_7 := n0_; have HO_8 := n1_; have HB := n2_; clear n0_ n1_ n2_; (try clear hb); (try clear hb2); (try clear hk); (try clear hi)))
                    go_ret
                    exact ⟨by first | rfl | (simp [errW_none, errW_some] <;> rfl) | (simp [*, errW_none, errW_some] <;> rfl), by repeat (first | (with_reducible first | exact HB.out | apply below_alloc | apply pw_below_drewN | apply below_drew1) | exact HB.out)⟩
          · rw [if_neg c15] at H
            have c15b0 : (t103 == 0) = false := beq_eq_false_iff_ne.mpr c15
            have c15b1 : (t103 != 0) = true := bne_iff_ne.mpr c15
            by_cases c63 : t102.toList = ([] : List UInt8)
            · rw [if_pos c63] at H
              have c63b0 : (t102.toList == ([] : List UInt8)) = true := beq_iff_eq.mpr c63
              have c63b1 : (t102.toList != ([] : List UInt8)) = false := bne_eq_false_iff_eq.mpr c63
              clear c63
              replace H := Option.bind_eq_some_iff.mp H
              obtain ⟨t105, A640, H⟩ := H
              replace H : (if t105 = true then (some false) else ((remoralaw13_awake.f kj5).bind fun t106 => (some t106))) = some r := H
              have A64 := Aside0.mk A640
              clear A640
              by_cases c65 : t105 = true
              · subst c65
                have H1 : (some false) = some r := by rw [if_pos rfl] at H; exact H
                clear H
                have H := H1
                clear H1
                obtain rfl := Option.some.inj H
                go_wp2_with (first | (go_at_call 16; (with_reducible refine (path_Right.calls kj5 a0 true _ A64.out).mono ?_); rintro e w66 ⟨rfl, hb⟩; have n0_ := Aside0.mk (below_step (by repeat (first | (with_reducible first | exact HB.out | apply below_alloc | apply pw_below_drewN | apply below_drew1) | exact HB.out)) hb); clear HB; have HB := n0_; clear n0_; (try clear hb); (try clear hb2); (try clear hk); (try clear hi)))
                go_ret
                exact ⟨by first | rfl | (simp [errW_none, errW_some] <;> rfl) | (simp [*, errW_none, errW_some] <;> rfl), by repeat (first | (with_reducible first | exact HB.out | apply below_alloc | apply pw_below_drewN | apply below_drew1) | exact HB.out)⟩
              · replace c65 := Bool.eq_false_iff.mpr c65
                subst c65
                have H1 : ((remoralaw13_awake.f kj5).bind fun t106 => (some t106)) = some r := by rw [if_neg (show ¬ (false = true) by decide)] at H; exact H
                clear H
                have H := H1
                clear H1
                replace H := Option.bind_eq_some_iff.mp H
                obtain ⟨t106, A670, H⟩ := H
                replace H : (some t106) = some r := H
                have A67 := Aside0.mk A670
                clear A670
                obtain rfl := Option.some.inj H
                go_wp2_with (first | (go_at_call 16; (with_reducible refine (path_Right.calls kj5 a0 false _ A64.out).mono ?_); rintro e w68 ⟨rfl, hb⟩; have n0_ := Aside0.mk (below_step (by repeat (first | (with_reducible first | exact HB.out | apply below_alloc | apply pw_below_drewN | apply below_drew1) | exact HB.out)) hb); clear HB; have HB := n0_; clear n0_; (try clear hb); (try clear hb2); (try clear hk); (try clear hi)) | (go_at_call 11; (with_reducible refine (remoralaw13_awake.calls kj5  t106 _ A67.out).mono ?_); rintro e w69 ⟨rfl, hb⟩; have n0_ := Aside0.mk (below_step (by repeat (first | (with_reducible first | exact HB.out | apply below_alloc | apply pw_below_drewN | apply below_drew1) | exact HB.out)) hb); clear HB; have HB := n0_; clear n0_; (try clear hb); (try clear hb2); (try clear hk); (try clear hi)))
                go_ret
                exact ⟨by first | rfl | (simp [errW_none, errW_some] <;> rfl) | (simp [*, errW_none, errW_some] <;> rfl), by repeat (first | (with_reducible first | exact HB.out | apply below_alloc | apply pw_below_drewN | apply below_drew1) | exact HB.out)⟩
            · rw [if_neg c63] at H
              have c63b0 : (t102.toList == ([] : List UInt8)) = false := beq_eq_false_iff_ne.mpr c63
              have c63b1 : (t102.toList != ([] : List UInt8)) = true := bne_iff_ne.mpr c63
              obtain rfl := Option.some.inj H
              go_wp2
              go_ret
              exact ⟨by first | rfl | (simp [errW_none, errW_some] <;> rfl) | (simp [*, errW_none, errW_some] <;> rfl), by repeat (first | (with_reducible first | exact HB.out | apply below_alloc | apply pw_below_drewN | apply below_drew1) | exact HB.out)⟩

/-- THE ONE PURE STATEMENT of remoralaw13_PathClean: yours. -/
def remoralaw13_PathClean.Pure : Prop := ∀ (a0 : ByteArray), a0.size ≤ 140737488351232 → ∃ k, remoralaw13_PathClean.f k a0 = some true
theorem remoralaw13_PathClean.walk (P : remoralaw13_PathClean.Pure) (a0 : ByteArray) (w : World) (w0 : a0.size ≤ 140737488351232) :
    Calls Try.prog 4 #[.string a0] w fun e w' => e = .returned (.bool true) ∧ Below w.heap.size w w' := by
  obtain ⟨k, h⟩ := P a0 w0
  refine (remoralaw13_PathClean.calls k a0 true w h).mono ?_
  rintro e w' ⟨rfl, hd⟩
  exact ⟨rfl, hd⟩

end Go.Proofs.Ytdomeeaaidjmpaa.PA
/-! ### YtdomeeaaidjmpaaXOpn -/
namespace Go.Proofs.Ytdomeeaaidjmpaa.PA
open Go.RowKit Go.Proofs.YtdomeeaaidjmpaaW.PrintWords Go.Proofs.YtdomeeaaidjmpaaW.PrintLast Go.Proofs.YtdomeeaaidjmpaaW.PrintMore
attribute [local go_sem] max2_int min2_int max_two min_two max_three min_three max_four min_four
set_option linter.unusedVariables false
set_option linter.unusedSimpArgs false
theorem bulk_pos {H : Type} : ∀ d : DataW H, 1 ≤ Rows.uptoBulk d
  | .lit (.string b) => by simp [Rows.uptoBulk]
  | .lit (.int _ _) => by simp [Rows.uptoBulk]
  | .lit (.bool _) => by simp [Rows.uptoBulk]
  | .lit (.float _ _) => by simp [Rows.uptoBulk]
  | .lit .nil => by simp [Rows.uptoBulk]
  | .nil => by simp [Rows.uptoBulk]
  | .ptr d => by simp [Rows.uptoBulk]
  | .slice _ _ => by simp [Rows.uptoBulk]
  | .agg _ => by simp [Rows.uptoBulk]
  | .iface _ _ => by simp [Rows.uptoBulk]
  | .map _ => by simp [Rows.uptoBulk]
  | .held _ => by simp [Rows.uptoBulk]
theorem bulk_len {H : Type} : ∀ l : List (DataW H), l.length ≤ Rows.uptoBulkAll l
  | [] => by simp [Rows.uptoBulkAll]
  | d :: r => by
    have h1 := bulk_pos d
    have h2 := bulk_len r
    simp only [List.length_cons, Rows.uptoBulkAll]
    omega
theorem bulk_mem {H : Type} : ∀ (l : List (DataW H)) (d : DataW H), d ∈ l → Rows.uptoBulk d ≤ Rows.uptoBulkAll l
  | [], d, h => by simp at h
  | e :: r, d, h => by
    simp only [Rows.uptoBulkAll]
    rcases List.mem_cons.1 h with rfl | h
    · omega
    · have := bulk_mem r d h
      omega
/-- A reading at type t opens into a value of kind d, which is as wf says (of the reading's bulk). -/
structure Opn {α : Type} (P : Program) (t : TypeId) (d : Kd α) (wf : Nat → α → Prop) : Prop where
  sz : d.sz = P.cellsOf t
  mono : ∀ n m a, n ≤ m → wf n a → wf m a
  op : ∀ {H : Type} (enc : TypeId × Value → H) (w : World) (base : Nat) (spare : Nat → Bool) (held : Bool) (fuel : Nat) (cs : List Value) (x : DataW H × List MemPlace), DataW.trod enc P w base spare held fuel t cs = some x → ∃ a, d.K w a cs ∧ wf (Rows.uptoBulk x.1) a
section
variable {P : Program} {t : TypeId}
theorem opn_int {k : IntKind} (ht : P.underlying t = some (.int k)) (hs : P.cellsOf t = 1) : Opn P t (Kd.int k) (fun _ a => (Lit.int k a).wf = true) where
  sz := hs.symm
  mono := fun _ _ _ _ h => h
  op := fun enc w base spare held fuel cs x h => by
    obtain ⟨n, rfl, rfl, hw⟩ := DataW.trod_int ht h
    exact ⟨n, rfl, hw⟩
theorem opn_bool (ht : P.underlying t = some .bool) (hs : P.cellsOf t = 1) : Opn P t Kd.bool (fun _ _ => True) where
  sz := hs.symm
  mono := fun _ _ _ _ h => h
  op := fun enc w base spare held fuel cs x h => by
    obtain ⟨n, rfl, rfl⟩ := DataW.trod_bool ht h
    exact ⟨n, rfl, trivial⟩
theorem opn_string (ht : P.underlying t = some .string) (hs : P.cellsOf t = 1) : Opn P t Kd.string (fun n s => s.size < n ∧ s.size ≤ maxLen) where
  sz := hs.symm
  mono := fun _ _ _ h h' => ⟨Nat.lt_of_lt_of_le h'.1 h, h'.2⟩
  op := fun enc w base spare held fuel cs x h => by
    obtain ⟨s, rfl, rfl, hw⟩ := DataW.trod_string ht h
    refine ⟨s, rfl, ?_, hw⟩
    simp [Rows.uptoBulk]
theorem cells_get {w : World} {base : Nat} {a : Addr} {n : Nat} {cs : List Value} (h : w.cells? base a n = some cs) : cs.length = n ∧ ∀ i u, cs[i]? = some u → w.cell? (a.add i) = some u := by
  unfold World.cells? at h
  split at h
  · refine ⟨by simpa using mapM_some_length h, fun i u hu => ?_⟩
    have hl := mapM_some_length h
    have hi : i < cs.length := (List.getElem?_eq_some_iff.1 hu).1
    have := mapM_some_get h i i (by rw [List.getElem?_range]; simp at hl; omega)
    rw [this, hu]
  · cases h
theorem add_add (a : Addr) (i j : Nat) : (a.add i).add j = a.add (i + j) := by
  unfold Addr.add
  by_cases hi : i = 0 <;> by_cases hj : j = 0 <;> simp [hi, hj, Nat.add_assoc]
theorem opn_slice {α : Type} {e : TypeId} {d : Kd α} {wf : Nat → α → Prop} (ht : P.underlying t = some (.slice e)) (hs : P.cellsOf t = 1) (O : Opn P e d wf) :
    Opn P t (Kd.slice e d) (fun n xs => xs.length < n ∧ ∀ a ∈ xs, wf n a) where
  sz := hs.symm
  mono := fun n m a h h' => ⟨Nat.lt_of_lt_of_le h'.1 h, fun x hx => O.mono n m x h (h'.2 x hx)⟩
  op := fun enc w base spare held fuel cs x h => by
    rcases DataW.trod_slice ht h with ⟨rfl, rfl⟩ | ⟨a, len, cap, elems, rest, n, _, rfl, rfl, hb, hl, hm, hlen, hel, hsp, hns⟩
    · exact ⟨[], ⟨none, 0, rfl, Nat.le_refl _, Kd.C_nil _ _⟩, by simp [Rows.uptoBulk], by simp⟩
    · have each : ∀ i, i < len → ∃ y, elems[i]? = some y ∧ ∃ cs', w.cells? base (a.add (i * P.cellsOf e)) (P.cellsOf e) = some cs' ∧ ∃ v, d.K w v cs' ∧ wf (Rows.uptoBulk y.1) v := by
        intro i hi
        have h1 := hel i hi
        have h2 : elems[i]? = some (elems[i]'(by omega)) := List.getElem?_eq_getElem (by omega)
        rw [h2, Option.bind_eq_some_iff] at h1
        obtain ⟨cs', hc, ht'⟩ := h1
        obtain ⟨v, hv, hw⟩ := O.op enc w base spare held n cs' _ ht'
        exact ⟨_, h2, cs', hc, v, hv, hw⟩
      have ex : ∀ m, m ≤ len → ∃ xs : List α, xs.length = m ∧ ∀ i v, xs[i]? = some v → ∃ y, elems[i]? = some y ∧ ∃ cs', w.cells? base (a.add (i * P.cellsOf e)) (P.cellsOf e) = some cs' ∧ d.K w v cs' ∧ wf (Rows.uptoBulk y.1) v := by
        intro m
        induction m with
        | zero => exact fun _ => ⟨[], rfl, by simp⟩
        | succ m ih =>
          intro hm'
          obtain ⟨xs, hx, hg⟩ := ih (by omega)
          obtain ⟨y, hy, cs', hc, v, hv, hw⟩ := each m (by omega)
          refine ⟨xs ++ [v], by simp [hx], fun i u hu => ?_⟩
          by_cases hi : i < xs.length
          · rw [List.getElem?_append_left hi] at hu
            exact hg i u hu
          · rw [List.getElem?_append_right (by omega)] at hu
            have hi' : i = m := by
              have := (List.getElem?_eq_some_iff.1 hu).1
              simp at this
              omega
            subst hi'
            rw [hx, Nat.sub_self] at hu
            have : v = u := by simpa using hu
            subst this
            exact ⟨y, hy, cs', hc, hv, hw⟩
      obtain ⟨xs, hx, hg⟩ := ex len (Nat.le_refl _)
      have htot : Rows.uptoBulkAll (elems.map (·.1)) + 1 ≤ Rows.uptoBulk (DataW.slice (elems.map (·.1)) (rest.map (·.1))) := by
        simp only [Rows.uptoBulk]
        omega
      refine ⟨xs, ⟨some a, cap, by rw [hx], by omega, ⟨rfl, by unfold maxLen at hm; omega, fun _ => ⟨a, rfl, fun j p hp => ?_⟩⟩⟩, ?_, ?_⟩
      · obtain ⟨y, hy, cs', hc, hk, hw⟩ := hg j p hp
        obtain ⟨g1, g2⟩ := cells_get hc
        refine ⟨cs', by rw [g1, O.sz], hk, fun i u hu => ?_⟩
        have := g2 i u hu
        rw [add_add] at this
        rw [O.sz]
        exact this
      · have h1 := bulk_len (elems.map (·.1))
        simp only [List.length_map, hlen] at h1
        rw [hx]
        exact Nat.lt_of_lt_of_le (Nat.lt_succ_of_le h1) htot
      · intro v hv
        obtain ⟨i, hi⟩ := List.getElem?_of_mem hv
        obtain ⟨y, hy, _, _, _, hw⟩ := hg i v hi
        refine O.mono _ _ _ ?_ hw
        have hmem : y.1 ∈ elems.map (·.1) := List.mem_map_of_mem (List.mem_of_getElem? hy)
        exact Nat.le_trans (bulk_mem _ _ hmem) (Nat.le_of_succ_le htot)
/-- The fields fs of a struct, from cell o on, open into a value of kind d. -/
def OpnF {α : Type} (P : Program) (fs : List Field) (o : Nat) (d : Kd α) (wf : Nat → α → Prop) : Prop :=
  (∀ n m a, n ≤ m → wf n a → wf m a) ∧
  ∀ {H : Type} (enc : TypeId × Value → H) (w : World) (base : Nat) (spare : Nat → Bool) (held : Bool) (fuel : Nat) (cs : List Value) (ys : List (DataW H × List MemPlace)) (N : Nat),
    (∀ (i : Nat) (f : Field), fs[i]? = some f → ∃ y, ys[i]? = some y ∧ Rows.uptoBulk y.1 ≤ N ∧ DataW.trod enc P w base spare held fuel f.type ((cs.drop f.offset).take (P.cellsOf f.type)) = some y) →
    ∃ a, d.K w a ((cs.drop o).take d.sz) ∧ wf N a
theorem opnF_one {α : Type} {d : Kd α} {wf : Nat → α → Prop} {f : Field} {o : Nat} (ho : f.offset = o) (O : Opn P f.type d wf) : OpnF P [f] o d wf := by
  refine ⟨O.mono, fun enc w base spare held fuel cs ys N h => ?_⟩
  obtain ⟨y, hy, hN, ht⟩ := h 0 f rfl
  obtain ⟨a, ha, hw⟩ := O.op enc w base spare held fuel _ y ht
  refine ⟨a, ?_, O.mono _ _ _ hN hw⟩
  rw [O.sz, ← ho]
  exact ha
theorem opnF_cons {α β : Type} {d : Kd α} {d' : Kd β} {wf : Nat → α → Prop} {wf' : Nat → β → Prop} {f : Field} {fs : List Field} {o o' : Nat} (ho : f.offset = o) (O : Opn P f.type d wf) (he : o' = o + d.sz) (F : OpnF P fs o' d' wf') :
    OpnF P (f :: fs) o (Kd.pair d d') (fun n x => wf n x.1 ∧ wf' n x.2) := by
  refine ⟨fun n m a h h' => ⟨O.mono _ _ _ h h'.1, F.1 _ _ _ h h'.2⟩, fun enc w base spare held fuel cs ys N h => ?_⟩
  obtain ⟨y, hy, hN, ht⟩ := h 0 f rfl
  obtain ⟨a, ha, hw⟩ := O.op enc w base spare held fuel _ y ht
  obtain ⟨b, hb, hw'⟩ := F.2 enc w base spare held fuel cs (ys.drop 1) N (fun i g hg => by
    obtain ⟨z, hz, h1, h2⟩ := h (i + 1) g (by simpa using hg)
    refine ⟨z, ?_, h1, h2⟩
    rw [List.getElem?_drop, Nat.add_comm]
    exact hz)
  refine ⟨(a, b), ⟨(cs.drop o).take d.sz, (cs.drop o').take d'.sz, ?_, ?_, hb⟩, O.mono _ _ _ hN hw, hw'⟩
  · show (cs.drop o).take (d.sz + d'.sz) = _
    rw [List.take_add, List.drop_drop, he]
  · rw [O.sz, ← ho]
    exact ha
theorem opn_struct {α β : Type} {fs : Array Field} {d : Kd α} {wf : Nat → α → Prop} (f : β → α) (g : α → β) (hfg : ∀ a, f (g a) = a) (ht : P.underlying t = some (.struct fs)) (F : OpnF P fs.toList 0 d wf) (hs : d.sz = P.cellsOf t) :
    Opn P t (Kd.iso d f) (fun n x => wf n (f x)) where
  sz := hs
  mono := fun n m a h h' => F.1 n m (f a) h h'
  op := fun enc w base spare held fuel cs x h => by
    obtain ⟨xs, n, rfl, rfl, hl, hlen, hf⟩ := DataW.trod_struct ht h
    obtain ⟨a, ha, hw⟩ := F.2 enc w base spare held n cs xs (Rows.uptoBulk (DataW.agg (xs.map (·.1)))) (fun i q hq => by
      have h1 := hf i q (by simpa using hq)
      have hi : i < xs.length := by
        have := (List.getElem?_eq_some_iff.1 hq).1
        simp at this
        omega
      rw [List.getElem?_eq_getElem hi] at h1
      refine ⟨_, List.getElem?_eq_getElem hi, ?_, h1⟩
      have hmem : (xs[i]).1 ∈ xs.map (·.1) := List.mem_map_of_mem (List.getElem_mem hi)
      have := bulk_mem _ _ hmem
      simp only [Rows.uptoBulk]
      omega)
    refine ⟨g a, ?_, by rw [hfg]; exact hw⟩
    show d.K w (f (g a)) cs
    rw [hfg]
    rw [List.drop_zero, hs, ← hl, List.take_length] at ha
    exact ha
end
end Go.Proofs.Ytdomeeaaidjmpaa.PA
/-! ### YtdomeeaaidjmpaaXMayPure -/
namespace Go.Proofs.Ytdomeeaaidjmpaa.PA
open Go.RowKit Go.Proofs.YtdomeeaaidjmpaaW.PrintWords Go.Proofs.YtdomeeaaidjmpaaW.PrintLast Go.Proofs.YtdomeeaaidjmpaaW.PrintMore
attribute [local go_sem] max2_int min2_int max_two min_two max_three min_three max_four min_four
set_option linter.unusedVariables false
set_option linter.unusedSimpArgs false
def partB (s : ByteArray) : Bool := !(s.toList == []) && decide ((s.size : Int) ≤ 48) && !(s.toList == [46]) && !(s.toList == [46, 46]) && decide (Lib.indexByte s.data.toList 0 < 0)
theorem part_f (s : ByteArray) : path_part.f s = some (partB s) := by
  unfold path_part.f partB
  by_cases h1 : s.toList = ([] : List UInt8)
  · rw [if_pos h1, beq_iff_eq.mpr h1]
    rfl
  · rw [if_neg h1, beq_eq_false_iff_ne.mpr h1]
    by_cases h2 : (s.size : Int) ≤ 48
    · rw [if_pos h2, decide_eq_true h2]
      by_cases h3 : s.toList = ([46] : List UInt8)
      · rw [if_pos h3, beq_iff_eq.mpr h3]
        rfl
      · rw [if_neg h3, beq_eq_false_iff_ne.mpr h3]
        by_cases h4 : s.toList = ([46, 46] : List UInt8)
        · rw [if_pos h4, beq_iff_eq.mpr h4]
          rfl
        · rw [if_neg h4, beq_eq_false_iff_ne.mpr h4]
          rfl
    · rw [if_neg h2, decide_eq_false h2]
      rfl
def rightB (p : ByteArray) : Bool := (splitL p).all partB && decide (((splitL p).length : Int) ≤ 12) && decide ((p.size : Int) ≤ 200)
theorem right_l (p : ByteArray) (l : List ByteArray) (hl : l.length < 9223372036854775807) : ∀ k j : Nat, j ≤ l.length → l.length - j < k → path_Right.l0 k p l l (l.length : Int) (j : Int) = some ((l.drop j).all partB && decide ((l.length : Int) ≤ 12) && decide ((p.size : Int) ≤ 200))
  | 0, j, _, h => by omega
  | k + 1, j, hj, h => by
    unfold path_Right.l0
    by_cases hlt : j < l.length
    · rw [if_pos (show (j : Int) < (l.length : Int) by omega), if_pos (show 0 ≤ (j : Int) by omega), if_pos (show (j : Int) < (l.length : Int) by omega), part_f]
      have e : rdOf ByteArray.empty l (j : Int) = l[j]'hlt := by
        simp [rdOf, hlt]
      rw [e, List.drop_eq_getElem_cons hlt]
      show (if partB (l[j]'hlt) = true then _ else _) = _
      cases hp : partB (l[j]'hlt) with
      | true =>
        rw [if_pos rfl, wr64 _ (by omega) (by omega)]
        have ih := right_l p l hl k (j + 1) (by omega) (by omega)
        rw [show ((j : Int) + 1) = ((j + 1 : Nat) : Int) by omega, ih, List.all_cons, hp, Bool.true_and]
      | false =>
        rw [if_neg (by decide), List.all_cons, hp]
        rfl
    · have hje : j = l.length := by omega
      rw [if_neg (show ¬ (j : Int) < (l.length : Int) by omega), hje, List.drop_length]
      by_cases h12 : (l.length : Int) ≤ 12
      · rw [if_pos h12, decide_eq_true h12]
        rfl
      · rw [if_neg h12, decide_eq_false h12]
        rfl
theorem splitL_len (s : ByteArray) : (splitL s).length ≤ s.size + 1 := by
  have := splitTo_len s s.size
  unfold splitL
  split
  · exact Nat.zero_le _
  · simp
    omega
theorem right_f (p : ByteArray) (hs : p.size < 4398046511104) (k : Nat) (hk : p.size + 1 < k) : path_Right.f k p = some (rightB p) := by
  unfold path_Right.f path_Split.f
  rw [if_pos hs]
  have h := splitL_len p
  show path_Right.l0 k p (splitL p) (splitL p) ((splitL p).length : Int) 0 = _
  exact right_l p (splitL p) (by omega) k 0 (by omega) (by omega)
end Go.Proofs.Ytdomeeaaidjmpaa.PA
/-! ### YtdomeeaaidjmpaaXSpl -/
namespace Go.Proofs.Ytdomeeaaidjmpaa.PA
open Go.RowKit Go.Proofs.YtdomeeaaidjmpaaW.PrintWords Go.Proofs.YtdomeeaaidjmpaaW.PrintLast Go.Proofs.YtdomeeaaidjmpaaW.PrintMore
attribute [local go_sem] max2_int min2_int max_two min_two max_three min_three max_four min_four
set_option linter.unusedVariables false
set_option linter.unusedSimpArgs false
def spl : List UInt8 → List (List UInt8)
  | [] => [[]]
  | x :: t => if x = 47 then [] :: spl t else match spl t with
    | [] => [[x]]
    | h :: r => (x :: h) :: r
theorem spl_ne : ∀ s, spl s ≠ []
  | [] => by simp [spl]
  | x :: t => by
    rw [spl]
    split
    · simp
    · split <;> simp
theorem spl_cons (x : UInt8) (t : List UInt8) (h : x ≠ 47) : ∃ a r, spl t = a :: r ∧ spl (x :: t) = (x :: a) :: r := by
  cases hs : spl t with
  | nil => exact absurd hs (spl_ne t)
  | cons a r =>
    refine ⟨a, r, rfl, ?_⟩
    rw [spl, if_neg h, hs]
theorem spl_snoc47 : ∀ s, spl (s ++ [47]) = spl s ++ [[]]
  | [] => rfl
  | x :: t => by
    by_cases h : x = 47
    · rw [List.cons_append, spl, if_pos h, spl, if_pos h, spl_snoc47 t, List.cons_append]
    · obtain ⟨a, r, e1, e2⟩ := spl_cons x t h
      obtain ⟨a', r', e3, e4⟩ := spl_cons x (t ++ [47]) h
      rw [spl_snoc47 t, e1, List.cons_append] at e3
      rw [List.cons_append, e4, e2]
      have e5 := List.cons.inj e3
      rw [← e5.1, ← e5.2, List.cons_append]
theorem spl_snoc (c : UInt8) (hc : c ≠ 47) : ∀ (s : List UInt8) (L : List (List UInt8)) (x : List UInt8), spl s = L ++ [x] → spl (s ++ [c]) = L ++ [x ++ [c]]
  | [], L, x, h => by
    cases L with
    | nil =>
      have hx := (List.cons.inj (show ([[]] : List (List UInt8)) = [x] from h)).1
      rw [← hx]
      simp [spl, hc]
    | cons a r =>
      have h1 := (List.cons.inj (show ([[]] : List (List UInt8)) = a :: (r ++ [x]) from h)).2
      simp at h1
  | y :: t, L, x, h => by
    by_cases hy : y = 47
    · rw [spl, if_pos hy] at h
      cases L with
      | nil =>
        have h1 := (List.cons.inj (show [] :: spl t = [x] from h)).2
        exact absurd h1 (spl_ne t)
      | cons a r =>
        have h1 := List.cons.inj (show [] :: spl t = a :: (r ++ [x]) from h)
        rw [List.cons_append, spl, if_pos hy, spl_snoc c hc t r x h1.2, h1.1]
        rfl
    · obtain ⟨a, r, e1, e2⟩ := spl_cons y t hy
      rw [e2] at h
      cases L with
      | nil =>
        have h1 := List.cons.inj (show (y :: a) :: r = [x] from h)
        have h2 := spl_snoc c hc t [] a (by rw [e1, h1.2]; rfl)
        obtain ⟨a', r', e3, e4⟩ := spl_cons y (t ++ [c]) hy
        rw [h2] at e3
        have h3 := List.cons.inj (show [a ++ [c]] = a' :: r' from e3)
        rw [List.cons_append, e4, ← h3.1, ← h3.2, ← h1.1]
        rfl
      | cons b q =>
        have h1 := List.cons.inj (show (y :: a) :: r = b :: (q ++ [x]) from h)
        have h2 := spl_snoc c hc t (a :: q) x (by rw [e1, h1.2]; rfl)
        obtain ⟨a', r', e3, e4⟩ := spl_cons y (t ++ [c]) hy
        rw [h2] at e3
        have h3 := List.cons.inj (show a :: (q ++ [x ++ [c]]) = a' :: r' from e3)
        rw [List.cons_append, e4, ← h3.1, ← h3.2, ← h1.1]
        rfl
theorem join_two (x y : List UInt8) (r : List (List UInt8)) : Lib.join (x :: y :: r) [47] = x ++ 47 :: Lib.join (y :: r) [47] := by
  rw [Lib.join_cons, Lib.join_cons]
  simp [Lib.joinTail]
theorem join_spl : ∀ s, Lib.join (spl s) [47] = s
  | [] => rfl
  | x :: t => by
    have ih := join_spl t
    by_cases h : x = 47
    · rw [spl, if_pos h]
      cases hs : spl t with
      | nil => exact absurd hs (spl_ne t)
      | cons a r => rw [join_two, ← hs, ih, h]; rfl
    · obtain ⟨a, r, e1, e2⟩ := spl_cons x t h
      rw [e2]
      rw [e1] at ih
      cases r with
      | nil => rw [Lib.join_one] at ih ⊢; rw [ih]
      | cons b q => rw [join_two] at ih ⊢; rw [List.cons_append, ih]
theorem spl_parts : ∀ s, ∀ p ∈ spl s, (47 : UInt8) ∉ p
  | [] => by simp [spl]
  | x :: t => by
    intro p hp
    have ih := spl_parts t
    by_cases h : x = 47
    · rw [spl, if_pos h] at hp
      rcases List.mem_cons.1 hp with h1 | h1
      · rw [h1]; simp
      · exact ih p h1
    · obtain ⟨a, r, e1, e2⟩ := spl_cons x t h
      rw [e2] at hp
      rcases List.mem_cons.1 hp with h1 | h1
      · rw [h1]
        intro hm
        rcases List.mem_cons.1 hm with h2 | h2
        · exact h h2.symm
        · exact ih a (by rw [e1]; exact List.mem_cons_self ..) h2
      · exact ih p (by rw [e1]; exact List.mem_cons_of_mem _ h1)
theorem spl_none : ∀ p : List UInt8, (47 : UInt8) ∉ p → spl p = [p]
  | [], _ => rfl
  | x :: t, h => by
    have hx : x ≠ 47 := fun e => h (by rw [e]; exact List.mem_cons_self ..)
    have ih := spl_none t (fun hm => h (List.mem_cons_of_mem _ hm))
    rw [spl, if_neg hx, ih]
theorem spl_front : ∀ (p q : List UInt8), (47 : UInt8) ∉ p → spl (p ++ 47 :: q) = p :: spl q
  | [], q, _ => by rw [List.nil_append, spl, if_pos rfl]
  | x :: t, q, h => by
    have hx : x ≠ 47 := fun e => h (by rw [e]; exact List.mem_cons_self ..)
    have ih := spl_front t q (fun hm => h (List.mem_cons_of_mem _ hm))
    rw [List.cons_append, spl, if_neg hx, ih]
theorem spl_join : ∀ (l : List (List UInt8)), l ≠ [] → (∀ p ∈ l, (47 : UInt8) ∉ p) → spl (Lib.join l [47]) = l
  | [], h, _ => absurd rfl h
  | [p], _, h => by rw [Lib.join_one]; exact spl_none p (h p (List.mem_cons_self ..))
  | p :: q :: r, _, h => by
    rw [join_two, spl_front p _ (h p (List.mem_cons_self ..)), spl_join (q :: r) (by simp) (fun x hx => h x (List.mem_cons_of_mem _ hx))]
def toL (a : ByteArray) : List UInt8 := a.data.toList
theorem toL_inj {a b : ByteArray} (h : toL a = toL b) : a = b := by
  have := Array.toList_inj.1 (show a.data.toList = b.data.toList from h)
  exact ByteArray.ext this
theorem toL_size (a : ByteArray) : (toL a).length = a.size := by
  rw [toL, Array.length_toList]; rfl
theorem toL_extract (a : ByteArray) (i j : Nat) : toL (a.extract i j) = ((toL a).take j).drop i := by
  unfold toL
  rw [ByteArray.data_extract, Array.toList_extract, List.extract_eq_take_drop, List.drop_take]
theorem take_snoc (a : ByteArray) (k : Nat) (h : k < a.size) : (toL a).take (k + 1) = (toL a).take k ++ [UInt8.ofNat (bt a (k : Int)).toNat] := by
  have hl : k < (toL a).length := by rw [toL_size]; exact h
  rw [List.take_succ_eq_append_getElem hl]
  congr 2
  rw [bt, dif_pos (by simpa using h)]
  simp [toL]
  rfl
theorem u47 (b : Int) (h0 : 0 ≤ b) (h1 : b ≤ 255) : UInt8.ofNat b.toNat = 47 ↔ b = 47 := by
  constructor
  · intro h
    have := congrArg UInt8.toNat h
    rw [UInt8.toNat_ofNat'] at this
    have e : (47 : UInt8).toNat = 47 := rfl
    rw [e] at this
    omega
  · intro h; rw [h]; rfl
theorem splitTo_spl (a : ByteArray) : ∀ k, k ≤ a.size → spl ((toL a).take k) = (splitTo a k).1.map toL ++ [((toL a).take k).drop (splitTo a k).2]
  | 0, _ => rfl
  | k + 1, h => by
    have ih := splitTo_spl a k (by omega)
    have hr := bt_range a (k : Int)
    have hle := splitTo_le a k
    have hlen : ((toL a).take k).length = k := by rw [List.length_take, toL_size]; omega
    rw [take_snoc a k (by omega)]
    by_cases hb : bt a (k : Int) = 47
    · rw [(u47 _ hr.1 hr.2).2 hb, spl_snoc47, ih, splitTo_hit a k hb, List.map_append, List.map_cons, List.map_nil, toL_extract]
      congr 1
      simp
      omega
    · rw [spl_snoc _ (fun e => hb ((u47 _ hr.1 hr.2).1 e)) _ _ _ ih, splitTo_miss a k hb, List.drop_append_of_le_length (by rw [hlen]; exact hle)]
theorem split_spl (a : ByteArray) (h : a.size ≠ 0) : (splitL a).map toL = spl (toL a) := by
  have := splitTo_spl a a.size (Nat.le_refl _)
  have e : (toL a).take a.size = toL a := List.take_of_length_le (by rw [toL_size]; exact Nat.le_refl _)
  rw [e] at this
  rw [splitL, if_neg h, this, List.map_append, List.map_cons, List.map_nil, toL_extract, e]
theorem size_zero {a : ByteArray} (h : a.size = 0) : a = ⟨#[]⟩ := by
  apply toL_inj
  have : (toL a).length = 0 := by rw [toL_size]; exact h
  rw [List.length_eq_zero_iff.1 this]
  rfl
theorem map_data (l : List ByteArray) : l.map (·.data.toList) = l.map toL := rfl
theorem toL_joinB (l : List ByteArray) : toL (joinB l ⟨#[47]⟩) = Lib.join (l.map toL) [47] := by
  unfold joinB toL
  rfl
theorem joinB_split (a : ByteArray) : joinB (splitL a) ⟨#[47]⟩ = a := by
  by_cases h : a.size = 0
  · rw [splitL, if_pos h, size_zero h]; rfl
  · apply toL_inj
    rw [toL_joinB, split_spl a h, join_spl]
theorem map_toL_inj {l m : List ByteArray} (h : l.map toL = m.map toL) : l = m := by
  induction l generalizing m with
  | nil => cases m with
    | nil => rfl
    | cons b t => simp at h
  | cons a s ih => cases m with
    | nil => simp at h
    | cons b t =>
      simp only [List.map_cons, List.cons.injEq] at h
      rw [toL_inj h.1, ih h.2]
theorem split_nil_iff (a : ByteArray) : splitL a = [] ↔ a.size = 0 := by
  rw [splitL]
  by_cases h : a.size = 0
  · rw [if_pos h]; simp [h]
  · rw [if_neg h]; simp [h]
theorem split_no47 (a : ByteArray) : ∀ p ∈ splitL a, (47 : UInt8) ∉ toL p := by
  by_cases h : a.size = 0
  · rw [splitL, if_pos h]; simp
  · intro p hp
    have := List.mem_map_of_mem (f := toL) hp
    rw [split_spl a h] at this
    exact spl_parts _ _ this
theorem split_joinB (l : List ByteArray) (h0 : ∀ p ∈ l, p.size ≠ 0) (h : ∀ p ∈ l, (47 : UInt8) ∉ toL p) : splitL (joinB l ⟨#[47]⟩) = l := by
  cases l with
  | nil => rfl
  | cons x t =>
    have hj := toL_joinB (x :: t)
    have hs := spl_join ((x :: t).map toL) (by simp) (fun p hp => by
      obtain ⟨q, hq, rfl⟩ := List.mem_map.1 hp
      exact h q hq)
    have hne : (joinB (x :: t) ⟨#[47]⟩).size ≠ 0 := by
      have hx := h0 x (List.mem_cons_self ..)
      rw [← toL_size, hj, List.map_cons, Lib.join_cons, List.length_append, toL_size]
      omega
    apply map_toL_inj
    rw [split_spl _ hne, hj, hs]
theorem joinB_to (a : ByteArray) (k : Nat) (hk : k ≤ a.size) (h : (splitTo a k).2 ≠ 0) : joinB (splitTo a k).1 ⟨#[47]⟩ = a.extract 0 ((splitTo a k).2 - 1) := by
  induction k with
  | zero => exact absurd rfl h
  | succ k ih =>
    by_cases hb : bt a (k : Int) = 47
    · rw [splitTo_hit a k hb]
      apply toL_inj
      have hs := splitTo_spl a k (by omega)
      have := join_spl ((toL a).take k)
      rw [hs] at this
      rw [toL_joinB, List.map_append, List.map_cons, List.map_nil, toL_extract, this, toL_extract]
      simp
    · rw [splitTo_miss a k hb] at h ⊢
      exact ih (by omega) h
end Go.Proofs.Ytdomeeaaidjmpaa.PA
/-! ### YtdomeeaaidjmpaaXSplitRef -/
namespace Go.Proofs.Ytdomeeaaidjmpaa.PA
open Go.RowKit Go.Proofs.YtdomeeaaidjmpaaW.PrintWords Go.Proofs.YtdomeeaaidjmpaaW.PrintLast Go.Proofs.YtdomeeaaidjmpaaW.PrintMore
attribute [local go_sem] max2_int min2_int max_two min_two max_three min_three max_four min_four
set_option linter.unusedVariables false
set_option linter.unusedSimpArgs false
theorem rsplit_l (s : ByteArray) (hs : s.size < 4398046511104) : ∀ k j : Nat, j ≤ s.size → s.size + 1 - j < k → remoraref13_Split.l0 k s (splitTo s j).1 ((splitTo s j).2 : Int) (j : Int) = some ((splitTo s s.size).1 ++ [s.extract (splitTo s s.size).2 s.size])
  | 0, j, _, h => by omega
  | k + 1, j, hj, h => by
    have hle := splitTo_le s j
    have hlen := splitTo_len s j
    have e2 : wrap64 ((j : Int) + 1) = ((j + 1 : Nat) : Int) := by rw [wr64 _ (by omega) (by omega)]; rfl
    unfold remoraref13_Split.l0
    rw [if_pos (show (j : Int) ≤ (s.size : Int) by omega), e2]
    by_cases hlt : j < s.size
    · rw [if_neg (show ¬ (j : Int) = (s.size : Int) by omega), if_pos (show 0 ≤ (j : Int) by omega), if_pos (show (j : Int) < (s.size : Int) by omega)]
      by_cases hb : bt s (j : Int) = 47
      · have hh := splitTo_hit s j hb
        rw [if_pos hb, if_pos (by omega), if_pos (by omega), if_pos (by omega)]
        have ih := rsplit_l s hs k (j + 1) (by omega) (by omega)
        rw [hh] at ih
        exact ih
      · have hh := splitTo_miss s j hb
        rw [if_neg hb]
        have ih := rsplit_l s hs k (j + 1) (by omega) (by omega)
        rw [hh] at ih
        exact ih
    · obtain rfl : j = s.size := by omega
      rw [if_pos rfl, if_pos (by omega), if_pos (by omega), if_pos (by omega)]
      cases k with
      | zero => omega
      | succ k =>
        unfold remoraref13_Split.l0
        rw [if_neg (by omega)]
        rfl
theorem rsplit_f (s : ByteArray) (hs : s.size < 4398046511104) (k : Nat) (hk : s.size + 1 < k) : remoraref13_Split.f k s = some (splitL s) := by
  unfold remoraref13_Split.f splitL
  by_cases h : s.toList = ([] : List UInt8)
  · have h1 := congrArg List.length h
    rw [ByteArray.toList_eq, data_length] at h1
    rw [if_pos h, if_pos (show s.size = 0 from h1)]
  · rw [if_neg h, if_neg]
    · exact rsplit_l s hs k 0 (by omega) (by omega)
    · intro h0
      refine h (List.eq_nil_of_length_eq_zero ?_)
      rw [ByteArray.toList_eq, data_length]
      exact h0
theorem index_ge (c : UInt8) : ∀ l : List UInt8, -1 ≤ Lib.indexByte l c
  | [] => Int.le_refl _
  | b :: l => by
    have := index_ge c l
    unfold Lib.indexByte
    split
    · omega
    · split
      · omega
      · omega
theorem rnought_l (s : ByteArray) (hs : s.size < 4398046511104) : ∀ k j : Nat, j ≤ s.size → s.size - j < k → remoraref13_nought.l0 k s (j : Int) = some (decide (0 ≤ Lib.indexByte (s.data.toList.drop j) 0))
  | 0, j, _, h => by omega
  | k + 1, j, hj, h => by
    unfold remoraref13_nought.l0
    by_cases hlt : j < s.size
    · have e2 : wrap64 ((j : Int) + 1) = ((j + 1 : Nat) : Int) := by rw [wr64 _ (by omega) (by omega)]; rfl
      rw [if_pos (show (j : Int) < (s.size : Int) by omega), if_pos (show 0 ≤ (j : Int) by omega), e2]
      have hl : j < s.data.toList.length := by rw [data_length]; exact hlt
      rw [List.drop_eq_getElem_cons hl]
      have eb : bt s (j : Int) = ((s.data.toList[j]'hl).toNat : Int) := by
        rw [bt, dif_pos (by simpa using hlt)]
        simp
        rfl
      rw [eb]
      generalize s.data.toList[j]'hl = b
      have ih := rnought_l s hs k (j + 1) (by omega) (by omega)
      by_cases hb : b = 0
      · subst hb
        rw [if_pos (by decide)]
        rfl
      · rw [if_neg (by intro h0; exact hb (UInt8.toNat_inj.1 (by simpa using h0))), ih]
        have hg := index_ge 0 (s.data.toList.drop (j + 1))
        have e : Lib.indexByte (b :: s.data.toList.drop (j + 1)) 0 = if Lib.indexByte (s.data.toList.drop (j + 1)) 0 == -1 then -1 else Lib.indexByte (s.data.toList.drop (j + 1)) 0 + 1 := by
          rw [Lib.indexByte, if_neg (by simpa using hb)]
        rw [e]
        generalize Lib.indexByte (s.data.toList.drop (j + 1)) 0 = x at *
        by_cases hx : x = -1
        · subst hx
          rfl
        · rw [if_neg (by simpa using hx), decide_eq_true (show 0 ≤ x by omega), decide_eq_true (show 0 ≤ x + 1 by omega)]
    · obtain rfl : j = s.size := by omega
      rw [if_neg (by omega), ← data_length, List.drop_length]
      rfl
theorem rnought_f (s : ByteArray) (hs : s.size < 4398046511104) (k : Nat) (hk : s.size < k) : remoraref13_nought.f k s = some (decide (0 ≤ Lib.indexByte s.data.toList 0)) := by
  unfold remoraref13_nought.f
  exact rnought_l s hs k 0 (by omega) (by omega)
end Go.Proofs.Ytdomeeaaidjmpaa.PA
/-! ### YtdomeeaaidjmpaaXPathSpec -/
namespace Go.Proofs.Ytdomeeaaidjmpaa.PA
open Go.RowKit Go.Proofs.YtdomeeaaidjmpaaW.PrintWords Go.Proofs.YtdomeeaaidjmpaaW.PrintLast Go.Proofs.YtdomeeaaidjmpaaW.PrintMore
attribute [local go_sem] max2_int min2_int max_two min_two max_three min_three max_four min_four
set_option linter.unusedVariables false
set_option linter.unusedSimpArgs false
theorem tl_eq (a b : ByteArray) : a.toList = b.toList ↔ a = b := by
  constructor
  · intro h
    rw [ByteArray.toList_eq, ByteArray.toList_eq] at h
    exact toL_inj h
  · intro h; rw [h]
theorem tl_beq (a b : ByteArray) : (a.toList == b.toList) = decide (a = b) := by
  by_cases h : a = b
  · rw [decide_eq_true h, h]; exact beq_self_eq_true _
  · rw [decide_eq_false h]; exact beq_eq_false_iff_ne.2 (fun e => h ((tl_eq a b).1 e))
theorem rdOf_get (l : List ByteArray) (i : Nat) (h : i < l.length) : rdOf ByteArray.empty l (i : Int) = l[i] := by
  simp [rdOf, h]
def cmpL : List ByteArray → List ByteArray → Int
  | [], [] => 0
  | [], _ :: _ => -1
  | _ :: _, [] => 1
  | a :: s, b :: t => if Op.bytesLess a.toList b.toList = true then -1 else if a = b then cmpL s t else 1
theorem cmp_f (a b : ByteArray) : cmp_Compare_string.f a b = some (if Op.bytesLess a.toList b.toList = true then -1 else if a = b then 0 else 1) := by
  rw [cmp_Compare_string.f, tl_beq]
  by_cases h : a = b
  · simp [h]
  · simp [h]
theorem compare_l (x y : List ByteArray) (hx : x.length < 4611686018427387904) : ∀ (m i k : Nat), x.length - i = m → i ≤ x.length → i ≤ y.length → m + 1 ≤ k → slices_Compare_string_string.l0 k x y x (x.length : Int) (i : Int) = some (cmpL (x.drop i) (y.drop i)) := by
  intro m
  induction m with
  | zero =>
    intro i k hm hi hy hk
    obtain ⟨k, rfl⟩ : ∃ j, k = j + 1 := ⟨k - 1, by omega⟩
    obtain rfl : i = x.length := by omega
    rw [slices_Compare_string_string.l0, if_neg (by omega), List.drop_length]
    by_cases h : x.length < y.length
    · rw [if_pos (by omega), List.drop_eq_getElem_cons h]; rfl
    · rw [if_neg (by omega), List.drop_eq_nil_of_le (by omega)]; rfl
  | succ m ih =>
    intro i k hm hi hy hk
    obtain ⟨k, rfl⟩ : ∃ j, k = j + 1 := ⟨k - 1, by omega⟩
    have hlt : i < x.length := by omega
    rw [slices_Compare_string_string.l0, if_pos (by omega), if_pos (by omega), if_pos (by omega), List.drop_eq_getElem_cons hlt]
    by_cases hy2 : i < y.length
    · rw [if_neg (by omega), if_pos (by omega), rdOf_get x i hlt, rdOf_get y i hy2, List.drop_eq_getElem_cons hy2, cmp_f, Option.bind_some, cmpL]
      by_cases h1 : Op.bytesLess (x[i]).toList (y[i]).toList = true
      · rw [if_pos h1, if_pos h1, if_neg (by decide)]
      · rw [if_neg h1, if_neg h1]
        by_cases h2 : x[i] = y[i]
        · rw [if_pos h2, if_pos h2, if_pos rfl, wr64 _ (by omega) (by omega)]
          exact ih (i + 1) k (by omega) (by omega) (by omega) (by omega)
        · rw [if_neg h2, if_neg h2, if_neg (by decide)]
    · rw [if_pos (by omega), List.drop_eq_nil_of_le (show y.length ≤ i by omega)]
      rfl
theorem compare_f (x y : List ByteArray) (k : Nat) (hx : x.length < 4611686018427387904) (hk : x.length + 1 ≤ k) : slices_Compare_string_string.f k x y = some (cmpL x y) := by
  have := compare_l x y hx x.length 0 k (by omega) (by omega) (by omega) (by omega)
  rw [List.drop_zero, List.drop_zero] at this
  exact this
theorem equal_l (x y : List ByteArray) (he : x.length = y.length) (hx : x.length < 4611686018427387904) : ∀ (m i k : Nat), x.length - i = m → i ≤ x.length → m + 1 ≤ k → slices_Equal_string_string.l0 k x y (x.length : Int) (i : Int) = some (decide (x.drop i = y.drop i)) := by
  intro m
  induction m with
  | zero =>
    intro i k hm hi hk
    obtain ⟨k, rfl⟩ : ∃ j, k = j + 1 := ⟨k - 1, by omega⟩
    rw [slices_Equal_string_string.l0, if_neg (by omega), List.drop_eq_nil_of_le (by omega), List.drop_eq_nil_of_le (by omega)]
    rfl
  | succ m ih =>
    intro i k hm hi hk
    obtain ⟨k, rfl⟩ : ∃ j, k = j + 1 := ⟨k - 1, by omega⟩
    have hlt : i < x.length := by omega
    have hlt2 : i < y.length := by omega
    rw [slices_Equal_string_string.l0, if_pos (by omega), if_pos (by omega), if_pos (by omega), if_pos (by omega), rdOf_get x i hlt, rdOf_get y i hlt2, List.drop_eq_getElem_cons hlt, List.drop_eq_getElem_cons hlt2]
    by_cases h : x[i] = y[i]
    · rw [if_pos ((tl_eq _ _).2 h), wr64 _ (by omega) (by omega), h]
      have := ih (i + 1) k (by omega) (by omega) (by omega)
      refine Eq.trans this ?_
      exact congrArg some (decide_eq_decide.2 ⟨fun e => by rw [e], fun e => (List.cons.inj e).2⟩)
    · rw [if_neg (fun e => h ((tl_eq _ _).1 e)), decide_eq_false (fun e => h (List.cons.inj e).1)]
theorem equal_f (x y : List ByteArray) (k : Nat) (hx : x.length < 4611686018427387904) (hk : x.length + 1 ≤ k) : slices_Equal_string_string.f k x y = some (decide (x = y)) := by
  unfold slices_Equal_string_string.f
  by_cases he : x.length = y.length
  · rw [if_pos (by omega)]
    exact equal_l x y he hx x.length 0 k (by omega) (by omega) (by omega)
  · rw [if_neg (by omega), decide_eq_false (fun e => he (by rw [e]))]
theorem texts_l (x y : List ByteArray) (he : x.length = y.length) (hx : x.length < 4611686018427387904) : ∀ (m i k : Nat), x.length - i = m → i ≤ x.length → m + 1 ≤ k → remoralaw13_texts.l0 k x y (i : Int) = some (decide (x.drop i = y.drop i)) := by
  intro m
  induction m with
  | zero =>
    intro i k hm hi hk
    obtain ⟨k, rfl⟩ : ∃ j, k = j + 1 := ⟨k - 1, by omega⟩
    rw [remoralaw13_texts.l0, if_neg (by omega), List.drop_eq_nil_of_le (by omega), List.drop_eq_nil_of_le (by omega)]
    rfl
  | succ m ih =>
    intro i k hm hi hk
    obtain ⟨k, rfl⟩ : ∃ j, k = j + 1 := ⟨k - 1, by omega⟩
    have hlt : i < x.length := by omega
    have hlt2 : i < y.length := by omega
    rw [remoralaw13_texts.l0, if_pos (by omega), if_pos (by omega), if_pos (by omega), rdOf_get x i hlt, rdOf_get y i hlt2, List.drop_eq_getElem_cons hlt, List.drop_eq_getElem_cons hlt2]
    by_cases h : x[i] = y[i]
    · rw [if_pos ((tl_eq _ _).2 h), wr64 _ (by omega) (by omega), h]
      have := ih (i + 1) k (by omega) (by omega) (by omega)
      refine Eq.trans this ?_
      exact congrArg some (decide_eq_decide.2 ⟨fun e => by rw [e], fun e => (List.cons.inj e).2⟩)
    · rw [if_neg (fun e => h ((tl_eq _ _).1 e)), decide_eq_false (fun e => h (List.cons.inj e).1)]
theorem texts_f (x y : List ByteArray) (k : Nat) (hx : x.length < 4611686018427387904) (hk : x.length + 1 ≤ k) : remoralaw13_texts.f k x y = some (decide (x = y)) := by
  unfold remoralaw13_texts.f
  by_cases he : x.length = y.length
  · rw [if_pos (by omega)]
    exact texts_l x y he hx x.length 0 k (by omega) (by omega) (by omega)
  · rw [if_neg (by omega), decide_eq_false (fun e => he (by rw [e]))]
def sumS : List ByteArray → Nat
  | [] => 0
  | a :: t => a.size + sumS t
theorem sumS_app (a b : List ByteArray) : sumS (a ++ b) = sumS a + sumS b := by
  induction a with
  | nil => simp [sumS]
  | cons x t ih => simp only [List.cons_append, sumS, ih]; omega
theorem sumS_take (l : List ByteArray) (n : Nat) : sumS (l.take n) ≤ sumS l := by
  have := sumS_app (l.take n) (l.drop n)
  rw [List.take_append_drop] at this
  omega
theorem sumS_drop (l : List ByteArray) (n : Nat) : sumS (l.drop n) ≤ sumS l := by
  have := sumS_app (l.take n) (l.drop n)
  rw [List.take_append_drop] at this
  omega
theorem sumS_le (l : List ByteArray) (b : Nat) (h : ∀ p ∈ l, p.size ≤ b) : sumS l ≤ b * l.length := by
  induction l with
  | nil => simp [sumS]
  | cons a t ih =>
    have h1 := h a (List.mem_cons_self ..)
    have h2 := ih (fun p hp => h p (List.mem_cons_of_mem _ hp))
    simp only [sumS, List.length_cons, Nat.mul_add]
    omega
theorem lens_sum (l : List ByteArray) : Lib.lens (l.map toL) = sumS l := by
  induction l with
  | nil => rfl
  | cons a t ih =>
    have := toL_size a
    simp only [Lib.lens, List.map_cons, List.sum_cons, sumS] at ih ⊢
    omega
theorem joinB_size (l : List ByteArray) : (joinB l ⟨#[47]⟩).size ≤ sumS l + l.length := by
  rw [← toL_size, toL_joinB]
  cases l with
  | nil => simp [Lib.join]
  | cons a t =>
    rw [List.map_cons, Lib.join_length, ← List.map_cons (f := toL), lens_sum]
    simp
    omega
theorem joinB_size' (l : List ByteArray) (h : l ≠ []) : (joinB l ⟨#[47]⟩).size + 1 = sumS l + l.length := by
  rw [← toL_size, toL_joinB]
  cases l with
  | nil => exact absurd rfl h
  | cons a t =>
    rw [List.map_cons, Lib.join_length, ← List.map_cons (f := toL), lens_sum]
    simp
    omega
theorem sumS_split (a : ByteArray) : sumS (splitL a) ≤ a.size := by
  by_cases h : splitL a = []
  · rw [h]; exact Nat.zero_le _
  · have h1 := joinB_size' _ h
    rw [joinB_split] at h1
    have : (splitL a).length ≠ 0 := fun e => h (List.length_eq_zero_iff.1 e)
    omega
def gN (l : List ByteArray) (i : Nat) : List Int := (Lib.join ((l.take i).map toL) [47]).map (fun u => (u.toNat : Int))
theorem strOf_nums (s : List UInt8) : strOfNums (s.map (fun u => (u.toNat : Int))) = ⟨s.toArray⟩ := by
  have e : ((fun n : Int => UInt8.ofNat n.toNat) ∘ fun u : UInt8 => (u.toNat : Int)) = id := by
    funext u
    simp
  rw [strOfNums, List.map_map, e, List.map_id]
theorem gN_zero (l : List ByteArray) : gN l 0 = [] := rfl
theorem gN_one (l : List ByteArray) (h : 0 < l.length) : gN l 1 = bytesOf (l[0]) := by
  cases l with
  | nil => simp at h
  | cons a t => simp [gN, Lib.join, bytesOf, toL]
theorem gN_succ (l : List ByteArray) (i : Nat) (h0 : 0 < i) (h : i < l.length) : gN l (i + 1) = gN l i ++ [47] ++ bytesOf (l[i]) := by
  cases l with
  | nil => simp at h
  | cons a t =>
    obtain ⟨j, rfl⟩ : ∃ j, i = j + 1 := ⟨i - 1, by omega⟩
    have ht : j < t.length := by simpa using h
    have hj := Lib.joinTail_take_succ [47] (t.map toL) j (toL (t[j])) (by simp [ht])
    simp only [gN, List.take_succ_cons, List.map_cons, Lib.join_cons, List.map_take] at hj ⊢
    rw [hj]
    simp [bytesOf, toL, List.map_append]
theorem gN_len (l : List ByteArray) (i : Nat) : (gN l i).length ≤ sumS l + l.length := by
  have h1 := joinB_size (l.take i)
  have h2 := sumS_take l i
  rw [← toL_size, toL_joinB] at h1
  have h3 : (l.take i).length ≤ l.length := by rw [List.length_take]; omega
  rw [gN, List.length_map]
  omega
theorem glue_l (l : List ByteArray) (hs : sumS l + l.length < 70368744177664) : ∀ (m i k : Nat), l.length - i = m → i ≤ l.length → m + 1 ≤ k → remoraref13_glue.l0 k l (gN l i) (i : Int) = some (joinB l ⟨#[47]⟩) := by
  intro m
  induction m with
  | zero =>
    intro i k hm hi hk
    obtain ⟨k, rfl⟩ : ∃ j, k = j + 1 := ⟨k - 1, by omega⟩
    obtain rfl : i = l.length := by omega
    rw [remoraref13_glue.l0, if_neg (by omega), gN, strOf_nums, List.take_length]
    rfl
  | succ m ih =>
    intro i k hm hi hk
    obtain ⟨k, rfl⟩ : ∃ j, k = j + 1 := ⟨k - 1, by omega⟩
    have hlt : i < l.length := by omega
    have hl := gN_len l i
    have hl2 := gN_len l (i + 1)
    have hrec := ih (i + 1) k (by omega) (by omega) (by omega)
    rw [remoraref13_glue.l0, if_pos (by omega), wr64 _ (by omega) (by omega), rdOf_get l i hlt]
    by_cases h0 : 0 < i
    · rw [gN_succ l i h0 hlt] at hrec hl2
      have hb := bytesOf_length (l[i])
      rw [List.length_append, hb] at hl2
      rw [if_pos (by omega), if_pos (by omega), Option.bind_some, if_pos (by omega), if_pos (by omega)]
      exact hrec
    · obtain rfl : i = 0 := by omega
      rw [gN_one l hlt] at hrec hl2
      have hb := bytesOf_length (l[0])
      rw [if_neg (by omega), if_pos (by omega), gN_zero, if_pos (by rw [List.length_nil]; omega)]
      exact hrec
theorem glue_f (l : List ByteArray) (hs : sumS l + l.length < 70368744177664) (k : Nat) (hk : l.length + 1 ≤ k) : remoraref13_glue.f k l = some (joinB l ⟨#[47]⟩) :=
  glue_l l hs l.length 0 k (by omega) (by omega) (by omega)
theorem join_f (l : List ByteArray) (hs : sumS l + l.length < 70368744177664) : strings_Join.f l ⟨#[47]⟩ = some (joinB l ⟨#[47]⟩) := by
  have := joinB_size l
  rw [strings_Join.f, if_pos ⟨by omega, by omega⟩]
def sml (a : ByteArray) : Prop := a.size ≤ 1048576
theorem psplit_f (a : ByteArray) (h : sml a) : path_Split.f a = some (splitL a) := by
  unfold sml at h
  rw [path_Split.f, if_pos (by omega)]
theorem rsp_f (a : ByteArray) (h : sml a) (k : Nat) (hk : 1048580 ≤ k) : remoraref13_Split.f k a = some (splitL a) := by
  unfold sml at h
  exact rsplit_f a (by omega) k (by omega)
theorem spl_len (a : ByteArray) (h : sml a) : (splitL a).length ≤ 1048577 := by
  unfold sml at h
  have := splitL_len a
  omega
theorem less_f (a b : ByteArray) (ha : sml a) (hb : sml b) (k : Nat) (hk : 1048580 ≤ k) : path_Less.f k a b = some (decide (cmpL (splitL a) (splitL b) < 0)) := by
  have := spl_len a ha
  rw [path_Less.f, psplit_f a ha, Option.bind_some, psplit_f b hb, Option.bind_some, compare_f _ _ k (by omega) (by omega), Option.bind_some]
def preB (y x : List ByteArray) : Bool := decide (x.take y.length = y)
theorem under_f (a b : ByteArray) (ha : sml a) (hb : sml b) (k : Nat) (hk : 1048580 ≤ k) : path_Under.f k a b = some (preB (splitL b) (splitL a)) := by
  have h1 := spl_len a ha
  rw [path_Under.f, psplit_f a ha, Option.bind_some, psplit_f b hb, Option.bind_some, preB]
  by_cases h : (splitL b).length ≤ (splitL a).length
  · rw [if_pos (by omega), if_pos (by omega), if_pos (by omega), Int.toNat_natCast, equal_f _ _ k (by rw [List.length_take]; omega) (by rw [List.length_take]; omega), Option.bind_some]
  · rw [if_neg (by omega), decide_eq_false]
    intro e
    have := congrArg List.length e
    rw [List.length_take] at this
    omega
theorem depth_f (a : ByteArray) (ha : sml a) : path_Depth.f a = some ((splitL a).length : Int) := by
  rw [path_Depth.f, psplit_f a ha, Option.bind_some]
def comN : List ByteArray → List ByteArray → Nat
  | a :: s, b :: t => if a = b then comN s t + 1 else 0
  | _, _ => 0
theorem comN_le : ∀ x y, comN x y ≤ x.length
  | [], _ => by simp [comN]
  | _ :: _, [] => by simp [comN]
  | a :: s, b :: t => by
    have := comN_le s t
    rw [comN]
    split
    · simp only [List.length_cons]; omega
    · exact Nat.zero_le _
theorem common_l (x y : List ByteArray) (hs : sumS x + x.length < 70368744177664) : ∀ (m i k : Nat), x.length - i = m → i ≤ x.length → m + 1 ≤ k → path_Common.l0 k x y (i : Int) = some (joinB (x.take (i + comN (x.drop i) (y.drop i))) ⟨#[47]⟩) := by
  intro m
  have hfin : ∀ i, i ≤ x.length → strings_Join.f (x.take ((i : Int)).toNat) ⟨#[47]⟩ = some (joinB (x.take i) ⟨#[47]⟩) := fun i hi => by
    rw [Int.toNat_natCast]
    refine join_f _ ?_
    have := sumS_take x i
    rw [List.length_take]
    omega
  induction m with
  | zero =>
    intro i k hm hi hk
    obtain ⟨k, rfl⟩ : ∃ j, k = j + 1 := ⟨k - 1, by omega⟩
    obtain rfl : i = x.length := by omega
    rw [path_Common.l0, if_neg (by omega), if_pos (by omega), if_pos (by omega), hfin _ hi, Option.bind_some, List.drop_length]
    simp [comN]
  | succ m ih =>
    intro i k hm hi hk
    obtain ⟨k, rfl⟩ : ∃ j, k = j + 1 := ⟨k - 1, by omega⟩
    have hlt : i < x.length := by omega
    rw [path_Common.l0, if_pos (by omega), List.drop_eq_getElem_cons hlt]
    by_cases hy : i < y.length
    · rw [if_pos (by omega), if_pos (by omega), rdOf_get x i hlt, rdOf_get y i hy, List.drop_eq_getElem_cons hy, comN]
      by_cases h : x[i] = y[i]
      · rw [if_pos ((tl_eq _ _).2 h), if_pos h, wr64 _ (by omega) (by omega)]
        have := ih (i + 1) k (by omega) (by omega) (by omega)
        refine Eq.trans this ?_
        congr 3
        omega
      · rw [if_neg (fun e => h ((tl_eq _ _).1 e)), if_neg h, if_pos (by omega), hfin _ hi, Option.bind_some]
        rfl
    · rw [if_neg (by omega), if_pos (by omega), if_pos (by omega), hfin _ hi, Option.bind_some, List.drop_eq_nil_of_le (show y.length ≤ i by omega)]
      rfl
theorem sumS_sml (a : ByteArray) (h : sml a) : sumS (splitL a) + (splitL a).length < 70368744177664 := by
  have h1 := sumS_split a
  have h2 := spl_len a h
  unfold sml at h
  omega
theorem common_f (a b : ByteArray) (ha : sml a) (hb : sml b) (k : Nat) (hk : 1048580 ≤ k) : path_Common.f k a b = some (joinB ((splitL a).take (comN (splitL a) (splitL b))) ⟨#[47]⟩) := by
  have h1 := spl_len a ha
  rw [path_Common.f, psplit_f a ha, Option.bind_some, psplit_f b hb, Option.bind_some]
  have := common_l (splitL a) (splitL b) (sumS_sml a ha) _ 0 k rfl (by omega) (by omega)
  rw [List.drop_zero, List.drop_zero, Nat.zero_add] at this
  exact this
theorem rcommon_l (x y : List ByteArray) (hs : sumS x + x.length < 70368744177664) : ∀ (m i k : Nat), x.length - i = m → i ≤ x.length → m + 1 + x.length + 1 ≤ k → remoraref13_Common.l0 k x y (i : Int) = some (joinB (x.take (i + comN (x.drop i) (y.drop i))) ⟨#[47]⟩) := by
  intro m
  have hfin : ∀ i k, i ≤ x.length → x.length + 1 ≤ k → remoraref13_glue.f k (x.take ((i : Int)).toNat) = some (joinB (x.take i) ⟨#[47]⟩) := fun i k hi hk => by
    rw [Int.toNat_natCast]
    have := sumS_take x i
    refine glue_f _ ?_ k ?_
    · rw [List.length_take]
      omega
    · rw [List.length_take]
      omega
  induction m with
  | zero =>
    intro i k hm hi hk
    obtain ⟨k, rfl⟩ : ∃ j, k = j + 1 := ⟨k - 1, by omega⟩
    obtain rfl : i = x.length := by omega
    rw [remoraref13_Common.l0, if_neg (by omega), if_pos (by omega), if_pos (by omega), hfin _ k hi (by omega), Option.bind_some, List.drop_length]
    simp [comN]
  | succ m ih =>
    intro i k hm hi hk
    obtain ⟨k, rfl⟩ : ∃ j, k = j + 1 := ⟨k - 1, by omega⟩
    have hlt : i < x.length := by omega
    rw [remoraref13_Common.l0, if_pos (by omega), List.drop_eq_getElem_cons hlt]
    by_cases hy : i < y.length
    · rw [if_pos (by omega), if_pos (by omega), rdOf_get x i hlt, rdOf_get y i hy, List.drop_eq_getElem_cons hy, comN]
      by_cases h : x[i] = y[i]
      · rw [if_pos ((tl_eq _ _).2 h), if_pos h, wr64 _ (by omega) (by omega)]
        have := ih (i + 1) k (by omega) (by omega) (by omega)
        refine Eq.trans this ?_
        congr 3
        omega
      · rw [if_neg (fun e => h ((tl_eq _ _).1 e)), if_neg h, if_pos (by omega), hfin _ k hi (by omega), Option.bind_some]
        rfl
    · rw [if_neg (by omega), if_pos (by omega), if_pos (by omega), hfin _ k hi (by omega), Option.bind_some, List.drop_eq_nil_of_le (show y.length ≤ i by omega)]
      rfl
theorem rcommon_f (a b : ByteArray) (ha : sml a) (hb : sml b) (k : Nat) (hk : 3000000 ≤ k) : remoraref13_Common.f k a b = some (joinB ((splitL a).take (comN (splitL a) (splitL b))) ⟨#[47]⟩) := by
  have h1 := spl_len a ha
  rw [remoraref13_Common.f, rsp_f a ha k (by omega), Option.bind_some, rsp_f b hb k (by omega), Option.bind_some]
  have := rcommon_l (splitL a) (splitL b) (sumS_sml a ha) _ 0 k rfl (by omega) (by omega)
  rw [List.drop_zero, List.drop_zero, Nat.zero_add] at this
  exact this
theorem runder_l (x y : List ByteArray) (hx : y.length < 4611686018427387904) : ∀ (m i k : Nat), y.length - i = m → i ≤ y.length → m + 1 ≤ k → x.take i = y.take i → remoraref13_Under.l0 k x y (i : Int) = some (preB y x) := by
  intro m
  induction m with
  | zero =>
    intro i k hm hi hk he
    obtain ⟨k, rfl⟩ : ∃ j, k = j + 1 := ⟨k - 1, by omega⟩
    obtain rfl : i = y.length := by omega
    rw [List.take_length] at he
    rw [remoraref13_Under.l0, if_neg (by omega), preB, decide_eq_true he]
  | succ m ih =>
    intro i k hm hi hk he
    obtain ⟨k, rfl⟩ : ∃ j, k = j + 1 := ⟨k - 1, by omega⟩
    have hlt : i < y.length := by omega
    rw [remoraref13_Under.l0, if_pos (by omega)]
    by_cases hx2 : i < x.length
    · rw [if_neg (by omega), if_pos (by omega), if_pos (by omega), rdOf_get x i hx2, rdOf_get y i hlt]
      by_cases h : x[i] = y[i]
      · rw [if_pos ((tl_eq _ _).2 h), wr64 _ (by omega) (by omega)]
        exact ih (i + 1) k (by omega) (by omega) (by omega) (by rw [List.take_succ_eq_append_getElem hx2, List.take_succ_eq_append_getElem hlt, he, h])
      · rw [if_neg (fun e => h ((tl_eq _ _).1 e)), preB, decide_eq_false]
        intro e
        apply h
        have h1 : (x.take y.length)[i]? = y[i]? := by rw [e]
        rw [List.getElem?_take_of_lt hlt, List.getElem?_eq_getElem hx2, List.getElem?_eq_getElem hlt] at h1
        exact Option.some.inj h1
    · rw [if_pos (by omega), preB, decide_eq_false]
      intro e
      have := congrArg List.length e
      rw [List.length_take] at this
      omega
theorem runder_f (a b : ByteArray) (ha : sml a) (hb : sml b) (k : Nat) (hk : 1048580 ≤ k) : remoraref13_Under.f k a b = some (preB (splitL b) (splitL a)) := by
  have h1 := spl_len b hb
  rw [remoraref13_Under.f, rsp_f a ha k (by omega), Option.bind_some, rsp_f b hb k (by omega), Option.bind_some]
  exact runder_l _ _ (by omega) _ 0 k rfl (by omega) (by omega) rfl
theorem less_tail (a b : ByteArray) (s t : List ByteArray) (h : a ≠ b) : decide (cmpL (a :: s) (b :: t) < 0) = Op.bytesLess a.toList b.toList := by
  rw [cmpL]
  by_cases h1 : Op.bytesLess a.toList b.toList = true
  · rw [if_pos h1, h1]; rfl
  · rw [if_neg h1, if_neg h, Bool.eq_false_iff.2 h1]; rfl
theorem less_same (a : ByteArray) (s t : List ByteArray) (h : Op.bytesLess a.toList a.toList = false) : cmpL (a :: s) (a :: t) = cmpL s t := by
  rw [cmpL, if_neg (by rw [h]; decide), if_pos rfl]
theorem bl_irr : ∀ l : List UInt8, Op.bytesLess l l = false
  | [] => rfl
  | a :: t => by
    rw [Op.bytesLess, bl_irr t]
    simp
theorem rless_l (x y : List ByteArray) (hx : x.length < 4611686018427387904) : ∀ (m i k : Nat), x.length - i = m → i ≤ x.length → i ≤ y.length → 2 * m + 2 ≤ k → remoraref13_Less.l0 k x y (i : Int) = some (decide (cmpL (x.drop i) (y.drop i) < 0)) := by
  intro m
  induction m with
  | zero =>
    intro i k hm hi hy hk
    obtain ⟨k, rfl⟩ : ∃ j, k = j + 2 := ⟨k - 2, by omega⟩
    obtain rfl : i = x.length := by omega
    rw [remoraref13_Less.l0, if_neg (by omega), remoraref13_Less.j1, if_neg (by decide), List.drop_length]
    by_cases h : x.length < y.length
    · rw [List.drop_eq_getElem_cons h, decide_eq_true (by omega)]; rfl
    · rw [List.drop_eq_nil_of_le (by omega), decide_eq_false (by omega)]; rfl
  | succ m ih =>
    intro i k hm hi hy hk
    obtain ⟨k, rfl⟩ : ∃ j, k = j + 2 := ⟨k - 2, by omega⟩
    have hlt : i < x.length := by omega
    rw [remoraref13_Less.l0, if_pos (by omega), remoraref13_Less.j1, List.drop_eq_getElem_cons hlt]
    by_cases hy2 : i < y.length
    · rw [if_pos (decide_eq_true (by omega)), if_pos (by omega), if_pos (by omega), if_pos (by omega), rdOf_get x i hlt, rdOf_get y i hy2, List.drop_eq_getElem_cons hy2]
      by_cases h : x[i] = y[i]
      · rw [if_pos ((tl_eq _ _).2 h), wr64 _ (by omega) (by omega), h, less_same _ _ _ (bl_irr _)]
        exact ih (i + 1) k (by omega) (by omega) (by omega) (by omega)
      · rw [if_neg (fun e => h ((tl_eq _ _).1 e)), less_tail _ _ _ _ h]
    · rw [if_neg (by rw [decide_eq_false (by omega)]; decide), List.drop_eq_nil_of_le (show y.length ≤ i by omega), decide_eq_false (by omega)]
      rfl
theorem rless_f (a b : ByteArray) (ha : sml a) (hb : sml b) (k : Nat) (hk : 3000000 ≤ k) : remoraref13_Less.f k a b = some (decide (cmpL (splitL a) (splitL b) < 0)) := by
  have h1 := spl_len a ha
  rw [remoraref13_Less.f, rsp_f a ha k (by omega), Option.bind_some, rsp_f b hb k (by omega), Option.bind_some]
  exact rless_l _ _ (by omega) _ 0 k rfl (by omega) (by omega) (by omega)
theorem rel_f (a b : ByteArray) (ha : sml a) (hb : sml b) (k : Nat) (hk : 1048580 ≤ k) : path_Rel.f k a b = some (if preB (splitL b) (splitL a) = true then (joinB ((splitL a).drop (splitL b).length) ⟨#[47]⟩, true) else (⟨#[]⟩, false)) := by
  rw [path_Rel.f, under_f a b ha hb k hk, Option.bind_some]
  by_cases h : preB (splitL b) (splitL a) = true
  · have hle : (splitL b).length ≤ (splitL a).length := by
      have := congrArg List.length (of_decide_eq_true h)
      rw [List.length_take] at this
      omega
    have hs := sumS_sml a ha
    have hd := sumS_drop (splitL a) (splitL b).length
    rw [if_pos h, if_pos h, psplit_f a ha, Option.bind_some, psplit_f b hb, Option.bind_some, if_pos (by omega), if_pos (by omega), Int.toNat_natCast, join_f _ (by rw [List.length_drop]; omega), Option.bind_some]
  · rw [if_neg h, if_neg h]
theorem rrel_f (a b : ByteArray) (ha : sml a) (hb : sml b) (k : Nat) (hk : 3000000 ≤ k) : remoraref13_Rel.f k a b = some (if preB (splitL b) (splitL a) = true then (joinB ((splitL a).drop (splitL b).length) ⟨#[47]⟩, true) else (⟨#[]⟩, false)) := by
  rw [remoraref13_Rel.f, runder_f a b ha hb k (by omega), Option.bind_some]
  by_cases h : preB (splitL b) (splitL a) = true
  · have hle : (splitL b).length ≤ (splitL a).length := by
      have := congrArg List.length (of_decide_eq_true h)
      rw [List.length_take] at this
      omega
    have hs := sumS_sml a ha
    have hl := spl_len a ha
    have hd := sumS_drop (splitL a) (splitL b).length
    rw [if_pos h, if_pos h, rsp_f a ha k (by omega), Option.bind_some, rsp_f b hb k (by omega), Option.bind_some, if_pos (by omega), if_pos (by omega), Int.toNat_natCast, glue_f _ (by rw [List.length_drop]; omega) k (by rw [List.length_drop]; omega), Option.bind_some]
  · rw [if_neg h, if_neg h]
theorem awake13_100 : remoralaw13_awake.f 100 = some true := by kernel_rfl
theorem awake13 (k : Nat) (hk : 100 ≤ k) : remoralaw13_awake.f k = some true := by
  induction k with
  | zero => omega
  | succ k ih =>
    by_cases h : k + 1 = 100
    · rw [h]; exact awake13_100
    · exact remoralaw13_awake.mono k _ (ih (by omega))
end Go.Proofs.Ytdomeeaaidjmpaa.PA
/-! ### YtdomeeaaidjmpaaXRightRef -/
namespace Go.Proofs.Ytdomeeaaidjmpaa.PA
open Go.RowKit Go.Proofs.YtdomeeaaidjmpaaW.PrintWords Go.Proofs.YtdomeeaaidjmpaaW.PrintLast Go.Proofs.YtdomeeaaidjmpaaW.PrintMore
attribute [local go_sem] max2_int min2_int max_two min_two max_three min_three max_four min_four
set_option linter.unusedVariables false
set_option linter.unusedSimpArgs false
theorem rright_l (l : List ByteArray) (hsz : ∀ s ∈ l, s.size < 4398046511104) (hl : l.length < 9223372036854775807) : ∀ k j : Nat, j ≤ l.length → l.length - j + 50 < k → remoraref13_Right.l0 k l (j : Int) = some ((l.drop j).all partB)
  | 0, j, _, h => by omega
  | k + 1, j, hj, h => by
    unfold remoraref13_Right.l0
    by_cases hlt : j < l.length
    · rw [if_pos (show (j : Int) < (l.length : Int) by omega), if_pos (show 0 ≤ (j : Int) by omega)]
      have e : rdOf ByteArray.empty l (j : Int) = l[j]'hlt := by
        simp [rdOf, hlt]
      have hs := hsz _ (List.getElem_mem hlt)
      rw [e, List.drop_eq_getElem_cons hlt, List.all_cons]
      have ih := rright_l l hsz hl k (j + 1) (by omega) (by omega)
      have e2 : wrap64 ((j : Int) + 1) = ((j + 1 : Nat) : Int) := by rw [wr64 _ (by omega) (by omega)]; rfl
      rw [e2]
      generalize l[j]'hlt = s at *
      unfold partB
      by_cases h1 : s.toList = ([] : List UInt8)
      · rw [if_pos h1, beq_iff_eq.mpr h1]
        rfl
      · rw [if_neg h1, beq_eq_false_iff_ne.mpr h1]
        by_cases h3 : s.toList = ([46] : List UInt8)
        · rw [if_pos h3, beq_iff_eq.mpr h3]
          simp
        · rw [if_neg h3, beq_eq_false_iff_ne.mpr h3]
          by_cases h4 : s.toList = ([46, 46] : List UInt8)
          · rw [if_pos h4, beq_iff_eq.mpr h4]
            simp
          · rw [if_neg h4, beq_eq_false_iff_ne.mpr h4]
            by_cases h2 : (s.size : Int) > 48
            · rw [if_pos h2, decide_eq_false (show ¬ (s.size : Int) ≤ 48 by omega)]
              rfl
            · rw [if_neg h2, decide_eq_true (show (s.size : Int) ≤ 48 by omega), rnought_f s hs k (by omega), Option.bind_some]
              by_cases hn : 0 ≤ Lib.indexByte s.data.toList 0
              · rw [decide_eq_true hn, if_pos rfl, decide_eq_false (show ¬ Lib.indexByte s.data.toList 0 < 0 by omega)]
                rfl
              · rw [decide_eq_false hn, if_neg (by decide), decide_eq_true (show Lib.indexByte s.data.toList 0 < 0 by omega), ih]
                rfl
    · obtain rfl : j = l.length := by omega
      rw [if_neg (by omega), List.drop_length]
      rfl
theorem extract_le (s : ByteArray) (a b : Nat) : (s.extract a b).size ≤ s.size := by
  rw [ByteArray.size_extract]
  omega
theorem splitTo_sizes (s : ByteArray) : ∀ k, ∀ t ∈ (splitTo s k).1, t.size ≤ s.size
  | 0 => by simp [splitTo]
  | k + 1 => by
    have ih := splitTo_sizes s k
    unfold splitTo
    split
    · intro t ht
      rcases List.mem_append.1 ht with h | h
      · exact ih t h
      · rw [List.mem_singleton.1 h]
        exact extract_le _ _ _
    · exact ih
theorem splitL_sizes (s : ByteArray) : ∀ t ∈ splitL s, t.size ≤ s.size := by
  unfold splitL
  split
  · simp
  · intro t ht
    rcases List.mem_append.1 ht with h | h
    · exact splitTo_sizes s _ t h
    · rw [List.mem_singleton.1 h]
      exact extract_le _ _ _
theorem rright_f (s : ByteArray) (hs : s.size < 4398046511104) (k : Nat) (hk : s.size + 60 < k) : remoraref13_Right.f k s = some (rightB s) := by
  unfold remoraref13_Right.f
  rw [rsplit_f s hs k (by omega), Option.bind_some]
  have hl := splitL_len s
  have hz := splitL_sizes s
  unfold rightB
  cases k with
  | zero => omega
  | succ k =>
    have hj : ∀ b, remoraref13_Right.j0 (k + 1) (splitL s) b = if b = true then some false else remoraref13_Right.l0 k (splitL s) 0 := fun _ => rfl
    have hr := rright_l (splitL s) (fun t ht => by have := hz t ht; omega) (by omega) k 0 (by omega) (by omega)
    rw [List.drop_zero] at hr
    by_cases h1 : ((splitL s).length : Int) > 12
    · rw [if_pos h1, hj, if_pos rfl, decide_eq_false (show ¬ ((splitL s).length : Int) ≤ 12 by omega)]
      simp
    · rw [if_neg h1, hj, decide_eq_true (show ((splitL s).length : Int) ≤ 12 by omega)]
      by_cases h2 : (s.size : Int) > 200
      · rw [decide_eq_true h2, if_pos rfl, decide_eq_false (show ¬ (s.size : Int) ≤ 200 by omega)]
        simp
      · rw [decide_eq_false h2, if_neg (by decide), decide_eq_true (show (s.size : Int) ≤ 200 by omega)]
        rw [show ((0 : Nat) : Int) = 0 from rfl] at hr
        rw [hr]
        simp
end Go.Proofs.Ytdomeeaaidjmpaa.PA
/-! ### YtdomeeaaidjmpaaXCleanSpec -/
namespace Go.Proofs.Ytdomeeaaidjmpaa.PA
open Go.RowKit Go.Proofs.YtdomeeaaidjmpaaW.PrintWords Go.Proofs.YtdomeeaaidjmpaaW.PrintLast Go.Proofs.YtdomeeaaidjmpaaW.PrintMore
attribute [local go_sem] max2_int min2_int max_two min_two max_three min_three max_four min_four
set_option linter.unusedVariables false
set_option linter.unusedSimpArgs false
def skipB (s : ByteArray) : Bool := if s.toList = ([] : List UInt8) then true else (s.toList == ([46] : List UInt8))
def errB (s : ByteArray) : Int := if s.toList = ([46, 46] : List UInt8) then 16 else if 0 ≤ Lib.indexByte s.data.toList 0 then 9 else if (s.size : Int) > 48 then 7 else 0
def cleanP : List ByteArray → List ByteArray → List ByteArray × Int
  | acc, [] => (acc, 0)
  | acc, s :: t => if skipB s = true then cleanP acc t else if errB s = 0 then cleanP (acc ++ [s]) t else (acc, errB s)
def finR (r : List ByteArray × Int) : ByteArray × Int :=
  if r.2 = 0 then (if (r.1.length : Int) > 12 then ((⟨#[]⟩ : ByteArray), 7) else if ((joinB r.1 ⟨#[47]⟩).size : Int) > 200 then ((⟨#[]⟩ : ByteArray), 7) else (joinB r.1 ⟨#[47]⟩, 0)) else ((⟨#[]⟩ : ByteArray), r.2)
def cleanR (l : List ByteArray) : ByteArray × Int := finR (cleanP [] l)
theorem err_zero (s : ByteArray) (h : errB s = 0) : ¬ s.toList = ([46, 46] : List UInt8) ∧ ¬ 0 ≤ Lib.indexByte s.data.toList 0 ∧ ¬ (s.size : Int) > 48 := by
  unfold errB at h
  by_cases h1 : s.toList = ([46, 46] : List UInt8)
  · rw [if_pos h1] at h; exact absurd h (by decide)
  · rw [if_neg h1] at h
    by_cases h2 : 0 ≤ Lib.indexByte s.data.toList 0
    · rw [if_pos h2] at h; exact absurd h (by decide)
    · rw [if_neg h2] at h
      by_cases h3 : (s.size : Int) > 48
      · rw [if_pos h3] at h; exact absurd h (by decide)
      · exact ⟨h1, h2, h3⟩
theorem skip_if (s : ByteArray) (β : Type) (f : Bool → β) : (if s.toList = ([] : List UInt8) then f true else f (s.toList == ([46] : List UInt8))) = f (skipB s) := by
  unfold skipB
  split <;> rfl
theorem fin_join (acc : List ByteArray) (h : sumS acc + acc.length < 70368744177664) : ((strings_Join.f acc (⟨#[47]⟩ : ByteArray)).bind fun t101 => (if (acc.length : Int) > 12 then (some ((⟨#[]⟩ : ByteArray), (7 : Int))) else (if (t101.size : Int) > 200 then (some ((⟨#[]⟩ : ByteArray), 7)) else (some (t101, 0))))) = some (finR (acc, 0)) := by
  rw [join_f acc h, Option.bind_some, finR, if_pos rfl]
  dsimp only
  split
  · rfl
  · split <;> rfl
theorem clean_l (l : List ByteArray) (hl : l.length ≤ 3000000) : ∀ (m i k : Nat) (acc : List ByteArray), l.length - i = m → i ≤ l.length → acc.length ≤ i → sumS acc ≤ 48 * i → 2 * m + 1 ≤ k → path_clean.l0 k acc l (l.length : Int) (i : Int) = some (finR (cleanP acc (l.drop i))) := by
  intro m
  induction m with
  | zero =>
    intro i k acc hm hi ha hs hk
    obtain ⟨k, rfl⟩ : ∃ j, k = j + 1 := ⟨k - 1, by omega⟩
    obtain rfl : i = l.length := by omega
    rw [path_clean.l0, if_neg (by omega), List.drop_length, cleanP]
    exact fin_join acc (by omega)
  | succ m ih =>
    intro i k acc hm hi ha hs hk
    obtain ⟨k, rfl⟩ : ∃ j, k = j + 2 := ⟨k - 2, by omega⟩
    have hlt : i < l.length := by omega
    rw [path_clean.l0, if_pos (by omega), if_pos (by omega), if_pos (by omega), rdOf_get l i hlt, List.drop_eq_getElem_cons hlt, cleanP]
    generalize l[i] = s
    refine (skip_if s _ (fun b => path_clean.j1 (k + 1) acc s l (l.length : Int) (i : Int) b)).trans ?_
    rw [path_clean.j1, wr64 _ (by omega) (by omega)]
    by_cases hsk : skipB s = true
    · rw [if_pos hsk, if_pos hsk]
      exact ih (i + 1) k acc (by omega) (by omega) (by omega) (by omega) (by omega)
    · rw [if_neg hsk, if_neg hsk]
      have hix : strings_IndexByte.f s 0 = some (Lib.indexByte s.data.toList 0) := rfl
      rw [hix, Option.bind_some]
      by_cases he : errB s = 0
      · obtain ⟨e1, e2, e3⟩ := err_zero s he
        rw [if_pos he, if_neg e1, if_neg (by omega), if_neg e3, if_pos (by omega)]
        have hsum : sumS (acc ++ [s]) = sumS acc + s.size := by rw [sumS_app]; rfl
        exact ih (i + 1) k (acc ++ [s]) (by omega) (by omega) (by simp; omega) (by omega) (by omega)
      · rw [if_neg he]
        have hf : finR (acc, errB s) = ((⟨#[]⟩ : ByteArray), errB s) := by rw [finR, if_neg he]
        rw [hf]
        unfold errB at he ⊢
        by_cases h1 : s.toList = ([46, 46] : List UInt8)
        · rw [if_pos h1, if_pos h1]
        · rw [if_neg h1] at he ⊢
          rw [if_neg h1]
          by_cases h2 : 0 ≤ Lib.indexByte s.data.toList 0
          · rw [if_pos h2, if_pos (by omega)]
          · rw [if_neg h2] at he
            rw [if_neg h2, if_neg h2]
            by_cases h3 : (s.size : Int) > 48
            · rw [if_pos h3, if_pos h3]
            · rw [if_neg h3] at he; exact absurd rfl he
theorem clean_f (l : List ByteArray) (hl : l.length ≤ 3000000) (k : Nat) (hk : 6000010 ≤ k) : path_clean.f k l = some (cleanR l) :=
  clean_l l hl l.length 0 k [] (by omega) (by omega) (by simp) (by simp [sumS]) (by omega)
theorem rfin_glue (acc : List ByteArray) (h : sumS acc + acc.length < 70368744177664) (k : Nat) (hk : acc.length + 1 ≤ k) : (if (acc.length : Int) > 12 then (some ((⟨#[]⟩ : ByteArray), (7 : Int))) else ((remoraref13_glue.f k acc).bind fun t111 => (if (t111.size : Int) > 200 then (some ((⟨#[]⟩ : ByteArray), 7)) else ((remoraref13_glue.f k acc).bind fun t112 => (some (t112, 0)))))) = some (finR (acc, 0)) := by
  rw [glue_f acc h k hk, Option.bind_some, Option.bind_some, finR, if_pos rfl]
  dsimp only
  split
  · rfl
  · split <;> rfl
theorem rclean_l (l : List ByteArray) (hl : l.length ≤ 3000000) (hz : ∀ s ∈ l, s.size ≤ 1048576) : ∀ (m i k : Nat) (acc : List ByteArray), l.length - i = m → i ≤ l.length → acc.length ≤ i → sumS acc ≤ 48 * i → 2 * m + 4100000 ≤ k → remoraref13_clean.l0 k l acc (i : Int) = some (finR (cleanP acc (l.drop i))) := by
  intro m
  induction m with
  | zero =>
    intro i k acc hm hi ha hs hk
    obtain ⟨k, rfl⟩ : ∃ j, k = j + 1 := ⟨k - 1, by omega⟩
    obtain rfl : i = l.length := by omega
    rw [remoraref13_clean.l0, if_neg (by omega), List.drop_length, cleanP]
    exact rfin_glue acc (by omega) k (by omega)
  | succ m ih =>
    intro i k acc hm hi ha hs hk
    obtain ⟨k, rfl⟩ : ∃ j, k = j + 2 := ⟨k - 2, by omega⟩
    have hlt : i < l.length := by omega
    have hsz := hz _ (List.getElem_mem hlt)
    rw [remoraref13_clean.l0, if_pos (by omega), if_pos (by omega), rdOf_get l i hlt, List.drop_eq_getElem_cons hlt, cleanP]
    refine (skip_if (l[i]) _ (fun b => remoraref13_clean.j1 (k + 1) l acc (i : Int) b)).trans ?_
    rw [remoraref13_clean.j1, wr64 _ (by omega) (by omega), rdOf_get l i hlt]
    generalize l[i] = s at hsz ⊢
    by_cases hsk : skipB s = true
    · rw [if_pos hsk, if_pos hsk]
      exact ih (i + 1) k acc (by omega) (by omega) (by omega) (by omega) (by omega)
    · rw [if_neg hsk, if_neg hsk, if_pos (by omega), if_pos (by omega), rnought_f s (by omega) k (by omega), Option.bind_some]
      by_cases he : errB s = 0
      · obtain ⟨e1, e2, e3⟩ := err_zero s he
        rw [if_pos he, if_neg e1, if_neg (by rw [decide_eq_false e2]; decide), if_neg e3, if_pos (by omega)]
        have hsum : sumS (acc ++ [s]) = sumS acc + s.size := by rw [sumS_app]; rfl
        exact ih (i + 1) k (acc ++ [s]) (by omega) (by omega) (by simp; omega) (by omega) (by omega)
      · rw [if_neg he]
        have hf : finR (acc, errB s) = ((⟨#[]⟩ : ByteArray), errB s) := by rw [finR, if_neg he]
        rw [hf]
        unfold errB at he ⊢
        by_cases h1 : s.toList = ([46, 46] : List UInt8)
        · rw [if_pos h1, if_pos h1]
        · rw [if_neg h1] at he ⊢
          rw [if_neg h1]
          by_cases h2 : 0 ≤ Lib.indexByte s.data.toList 0
          · rw [if_pos h2, if_pos (decide_eq_true h2)]
          · rw [if_neg h2] at he ⊢
            rw [if_neg (by rw [decide_eq_false h2]; decide)]
            by_cases h3 : (s.size : Int) > 48
            · rw [if_pos h3, if_pos h3]
            · rw [if_neg h3] at he; exact absurd rfl he
theorem rclean_f (l : List ByteArray) (hl : l.length ≤ 3000000) (hz : ∀ s ∈ l, s.size ≤ 1048576) (k : Nat) (hk : 10200010 ≤ k) : remoraref13_clean.f k l = some (cleanR l) :=
  rclean_l l hl hz l.length 0 k [] (by omega) (by omega) (by simp) (by simp [sumS]) (by omega)
theorem pClean_f (a : ByteArray) (ha : sml a) (k : Nat) (hk : 6000010 ≤ k) : path_Clean.f k a = some (cleanR (splitL a)) := by
  have := spl_len a ha
  rw [path_Clean.f, psplit_f a ha, Option.bind_some, clean_f _ (by omega) k hk, Option.bind_some]
theorem rClean_f (a : ByteArray) (ha : sml a) (k : Nat) (hk : 10200010 ≤ k) : remoraref13_Clean.f k a = some (cleanR (splitL a)) := by
  have := spl_len a ha
  rw [remoraref13_Clean.f, rsp_f a ha k (by omega), Option.bind_some, rclean_f _ (by omega) (fun s hs => Nat.le_trans (splitL_sizes a s hs) ha) k hk, Option.bind_some]
def splitsL : List ByteArray → List ByteArray
  | [] => []
  | a :: t => splitL a ++ splitsL t
theorem splits_app (a b : List ByteArray) : splitsL (a ++ b) = splitsL a ++ splitsL b := by
  induction a with
  | nil => rfl
  | cons x t ih => simp only [List.cons_append, splitsL, ih, List.append_assoc]
theorem splits_len (l : List ByteArray) (b : Nat) (h : ∀ a ∈ l, a.size ≤ b) : (splitsL l).length ≤ (b + 1) * l.length := by
  induction l with
  | nil => simp [splitsL]
  | cons a t ih =>
    have h1 := h a (List.mem_cons_self ..)
    have h2 := ih (fun p hp => h p (List.mem_cons_of_mem _ hp))
    have h3 := splitL_len a
    simp only [splitsL, List.length_append, List.length_cons, Nat.mul_add]
    omega
theorem splits_size (l : List ByteArray) (b : Nat) (h : ∀ a ∈ l, a.size ≤ b) : ∀ s ∈ splitsL l, s.size ≤ b := by
  induction l with
  | nil => simp [splitsL]
  | cons a t ih =>
    intro s hs
    rcases List.mem_append.1 (show s ∈ splitL a ++ splitsL t from hs) with h1 | h1
    · exact Nat.le_trans (splitL_sizes a s h1) (h a (List.mem_cons_self ..))
    · exact ih (fun p hp => h p (List.mem_cons_of_mem _ hp)) s h1
theorem splits_take (l : List ByteArray) (i : Nat) (h : i < l.length) : splitsL (l.take (i + 1)) = splitsL (l.take i) ++ splitL (l[i]) := by
  rw [List.take_succ_eq_append_getElem h, splits_app]
  simp [splitsL]
theorem pJoin_l (l : List ByteArray) (hz : ∀ a ∈ l, a.size ≤ 4000) (hl : l.length ≤ 700) : ∀ (m i k : Nat), l.length - i = m → i ≤ l.length → m + 6000020 ≤ k → path_Join.l0 k (splitsL (l.take i)) l (l.length : Int) (i : Int) = some (cleanR (splitsL l)) := by
  intro m
  have htl : ∀ i, i ≤ l.length → (splitsL (l.take i)).length ≤ 2800700 := fun i hi => by
    have h1 := splits_len (l.take i) 4000 (fun a ha => hz a (List.mem_of_mem_take ha))
    rw [List.length_take] at h1
    have : (4000 + 1) * min i l.length ≤ 4001 * 700 := Nat.mul_le_mul_left _ (by omega)
    omega
  induction m with
  | zero =>
    intro i k hm hi hk
    obtain ⟨k, rfl⟩ : ∃ j, k = j + 1 := ⟨k - 1, by omega⟩
    obtain rfl : i = l.length := by omega
    have h1 := htl l.length (by omega)
    rw [List.take_length] at h1 ⊢
    rw [path_Join.l0, if_neg (by omega), clean_f _ (by omega) k (by omega), Option.bind_some]
  | succ m ih =>
    intro i k hm hi hk
    obtain ⟨k, rfl⟩ : ∃ j, k = j + 1 := ⟨k - 1, by omega⟩
    have hlt : i < l.length := by omega
    have hsz := hz _ (List.getElem_mem hlt)
    have hsm : sml (l[i]) := by unfold sml; omega
    have h1 := htl i (by omega)
    have h2 := splitL_len (l[i])
    have hrec := ih (i + 1) k (by omega) (by omega) (by omega)
    rw [splits_take l i hlt] at hrec
    rw [path_Join.l0, if_pos (by omega), if_pos (by omega), if_pos (by omega), rdOf_get l i hlt, psplit_f _ hsm, Option.bind_some, if_pos (by omega), wr64 _ (by omega) (by omega)]
    exact hrec
theorem pJoin_f (l : List ByteArray) (hz : ∀ a ∈ l, a.size ≤ 4000) (hl : l.length ≤ 700) (k : Nat) (hk : 6000800 ≤ k) : path_Join.f k l = some (cleanR (splitsL l)) :=
  pJoin_l l hz hl l.length 0 k (by omega) (by omega) (by omega)
theorem rJoin_l (l : List ByteArray) (hz : ∀ a ∈ l, a.size ≤ 4000) (hl : l.length ≤ 700) : ∀ (m i k : Nat), l.length - i = m → i ≤ l.length → m + 10200020 ≤ k → remoraref13_Join.l0 k l (splitsL (l.take i)) (i : Int) = some (cleanR (splitsL l)) := by
  intro m
  have htl : ∀ i, i ≤ l.length → (splitsL (l.take i)).length ≤ 2800700 := fun i hi => by
    have h1 := splits_len (l.take i) 4000 (fun a ha => hz a (List.mem_of_mem_take ha))
    rw [List.length_take] at h1
    have : (4000 + 1) * min i l.length ≤ 4001 * 700 := Nat.mul_le_mul_left _ (by omega)
    omega
  induction m with
  | zero =>
    intro i k hm hi hk
    obtain ⟨k, rfl⟩ : ∃ j, k = j + 1 := ⟨k - 1, by omega⟩
    obtain rfl : i = l.length := by omega
    have h1 := htl l.length (by omega)
    rw [List.take_length] at h1 ⊢
    rw [remoraref13_Join.l0, if_neg (by omega), rclean_f _ (by omega) (fun s hs => Nat.le_trans (splits_size l 4000 hz s hs) (by omega)) k (by omega), Option.bind_some]
  | succ m ih =>
    intro i k hm hi hk
    obtain ⟨k, rfl⟩ : ∃ j, k = j + 1 := ⟨k - 1, by omega⟩
    have hlt : i < l.length := by omega
    have hsz := hz _ (List.getElem_mem hlt)
    have hsm : sml (l[i]) := by unfold sml; omega
    have h1 := htl i (by omega)
    have h2 := splitL_len (l[i])
    have hrec := ih (i + 1) k (by omega) (by omega) (by omega)
    rw [splits_take l i hlt] at hrec
    rw [remoraref13_Join.l0, if_pos (by omega), if_pos (by omega), rdOf_get l i hlt, rsp_f _ hsm k (by omega), Option.bind_some, if_pos (by omega), wr64 _ (by omega) (by omega)]
    exact hrec
theorem rJoin_f (l : List ByteArray) (hz : ∀ a ∈ l, a.size ≤ 4000) (hl : l.length ≤ 700) (k : Nat) (hk : 10200800 ≤ k) : remoraref13_Join.f k l = some (cleanR (splitsL l)) :=
  rJoin_l l hz hl l.length 0 k (by omega) (by omega) (by omega)
end Go.Proofs.Ytdomeeaaidjmpaa.PA
/-! ### YtdomeeaaidjmpaaXCleanFacts -/
namespace Go.Proofs.Ytdomeeaaidjmpaa.PA
open Go.RowKit Go.Proofs.YtdomeeaaidjmpaaW.PrintWords Go.Proofs.YtdomeeaaidjmpaaW.PrintLast Go.Proofs.YtdomeeaaidjmpaaW.PrintMore
attribute [local go_sem] max2_int min2_int max_two min_two max_three min_three max_four min_four
set_option linter.unusedVariables false
set_option linter.unusedSimpArgs false
def keepB (s : ByteArray) : Bool := !skipB s
theorem good_iff (s : ByteArray) : partB s = true ↔ skipB s = false ∧ errB s = 0 := by
  unfold partB skipB errB
  rw [Bool.and_eq_true, Bool.and_eq_true, Bool.and_eq_true, Bool.and_eq_true, decide_eq_true_iff, decide_eq_true_iff]
  by_cases h1 : s.toList = ([] : List UInt8)
  · rw [if_pos h1, h1]
    simp
  · rw [if_neg h1, beq_eq_false_iff_ne.2 h1]
    by_cases h2 : s.toList = ([46] : List UInt8)
    · rw [beq_iff_eq.2 h2]
      simp
    · rw [beq_eq_false_iff_ne.2 h2]
      by_cases h3 : s.toList = ([46, 46] : List UInt8)
      · rw [beq_iff_eq.2 h3, if_pos h3]
        simp
      · rw [beq_eq_false_iff_ne.2 h3, if_neg h3]
        by_cases h4 : 0 ≤ Lib.indexByte s.data.toList 0
        · rw [if_pos h4]
          simp
          intro _
          omega
        · rw [if_neg h4]
          by_cases h5 : (s.size : Int) > 48
          · rw [if_pos h5]
            simp
            omega
          · rw [if_neg h5]
            simp
            exact ⟨by omega, by omega⟩
theorem cleanP_good : ∀ (l acc : List ByteArray), (∀ s ∈ l, partB s = true) → cleanP acc l = (acc ++ l, 0)
  | [], acc, _ => by rw [cleanP, List.append_nil]
  | s :: t, acc, h => by
    have hs := (good_iff s).1 (h s (List.mem_cons_self ..))
    rw [cleanP, hs.1, if_neg (by decide), if_pos hs.2, cleanP_good t _ (fun x hx => h x (List.mem_cons_of_mem _ hx)), List.append_assoc]
    rfl
theorem cleanP_zero : ∀ (l acc : List ByteArray), (cleanP acc l).2 = 0 → (cleanP acc l).1 = acc ++ l.filter keepB ∧ ∀ s ∈ l.filter keepB, partB s = true
  | [], acc, _ => ⟨by simp [cleanP], by simp⟩
  | s :: t, acc, h => by
    rw [cleanP] at h ⊢
    by_cases hk : skipB s = true
    · rw [if_pos hk] at h ⊢
      have ih := cleanP_zero t acc h
      rw [List.filter_cons_of_neg (by rw [keepB, hk]; decide)]
      exact ih
    · have hk' := Bool.eq_false_iff.2 hk
      rw [if_neg hk] at h ⊢
      by_cases he : errB s = 0
      · rw [if_pos he] at h ⊢
        have ih := cleanP_zero t (acc ++ [s]) h
        rw [List.filter_cons_of_pos (by rw [keepB, hk']; decide), ih.1, List.append_assoc]
        refine ⟨rfl, fun x hx => ?_⟩
        rcases List.mem_cons.1 hx with h1 | h1
        · rw [h1]; exact (good_iff s).2 ⟨hk', he⟩
        · exact ih.2 x h1
      · rw [if_neg he] at h
        exact absurd h he
theorem partB_ne (s : ByteArray) (h : partB s = true) : s.size ≠ 0 := by
  intro e
  rw [size_zero e] at h
  have e2 : partB ⟨#[]⟩ = false := by simp [partB, ByteArray.toList_eq]
  rw [e2] at h
  exact absurd h (by decide)
theorem clean_right (a : ByteArray) (h : rightB a = true) : cleanR (splitL a) = (a, 0) := by
  unfold rightB at h
  rw [Bool.and_eq_true, Bool.and_eq_true, decide_eq_true_iff, decide_eq_true_iff, List.all_eq_true] at h
  obtain ⟨⟨h1, h2⟩, h3⟩ := h
  rw [cleanR, cleanP_good _ _ h1, List.nil_append, finR, if_pos rfl]
  dsimp only
  rw [joinB_split, if_neg (by omega), if_neg (by omega)]
theorem clean_back (l : List ByteArray) (hno : ∀ s ∈ l, (47 : UInt8) ∉ toL s) (h : (cleanR l).2 = 0) : splitL (cleanR l).1 = l.filter keepB ∧ rightB (cleanR l).1 = true ∧ (l.filter keepB).length ≤ 12 := by
  unfold cleanR at h ⊢
  have hz : (cleanP [] l).2 = 0 := by
    by_cases hz : (cleanP [] l).2 = 0
    · exact hz
    · rw [finR, if_neg hz] at h
      exact h
  obtain ⟨e1, e2⟩ := cleanP_zero l [] hz
  rw [List.nil_append] at e1
  rw [finR, if_pos hz, e1] at h ⊢
  by_cases h12 : ((l.filter keepB).length : Int) > 12
  · rw [if_pos h12] at h; exact absurd h (by decide)
  · rw [if_neg h12] at h ⊢
    by_cases h200 : ((joinB (l.filter keepB) ⟨#[47]⟩).size : Int) > 200
    · rw [if_pos h200] at h; exact absurd h (by decide)
    · rw [if_neg h200]
      have es : splitL (joinB (l.filter keepB) ⟨#[47]⟩) = l.filter keepB := split_joinB _ (fun p hp => partB_ne p (e2 p hp)) (fun p hp => hno p (List.mem_filter.1 hp).1)
      dsimp only
      refine ⟨es, ?_, by omega⟩
      unfold rightB
      rw [es, Bool.and_eq_true, Bool.and_eq_true, decide_eq_true_iff, decide_eq_true_iff, List.all_eq_true]
      exact ⟨⟨e2, by omega⟩, by omega⟩
end Go.Proofs.Ytdomeeaaidjmpaa.PA
/-! ### YtdomeeaaidjmpaaXPathCleanPure -/
namespace Go.Proofs.Ytdomeeaaidjmpaa.PA
open Go.RowKit Go.Proofs.YtdomeeaaidjmpaaW.PrintWords Go.Proofs.YtdomeeaaidjmpaaW.PrintLast Go.Proofs.YtdomeeaaidjmpaaW.PrintMore
attribute [local go_sem] max2_int min2_int max_two min_two max_three min_three max_four min_four
set_option linter.unusedVariables false
set_option linter.unusedSimpArgs false
theorem clean_loop (a p : ByteArray) (hp : (cleanR (splitL a)) = (p, 0)) (ha : a.size ≤ 4000) : ∀ (m i k : Nat), (splitL a).length - i = m → i ≤ (splitL a).length → m + 7000000 ≤ k → remoralaw13_PathClean.l0 k p p 0 (((splitL a).take i).filter keepB) (splitL a) (i : Int) = some true := by
  have hl := splitL_len a
  have hb := clean_back (splitL a) (split_no47 a) (by rw [hp])
  rw [hp] at hb
  obtain ⟨hs, hr, h12⟩ := hb
  have hps : p.size ≤ 200 := by
    unfold rightB at hr
    rw [Bool.and_eq_true, decide_eq_true_iff] at hr
    have := hr.2
    dsimp only at this
    omega
  have hsm : sml p := by unfold sml; omega
  intro m
  induction m with
  | zero =>
    intro i k hm hi hk
    obtain ⟨k, rfl⟩ : ∃ j, k = j + 1 := ⟨k - 1, by omega⟩
    obtain rfl : i = (splitL a).length := by omega
    dsimp only at hs hr
    rw [remoralaw13_PathClean.l0, if_neg (by omega), List.take_length, right_f p (by omega) k (by omega), Option.bind_some, if_pos hr, if_pos rfl, if_pos rfl, psplit_f p hsm, Option.bind_some, hs, texts_f _ _ k (by omega) (by omega), Option.bind_some, if_pos (decide_eq_true rfl), depth_f p hsm, Option.bind_some, hs, if_pos (by omega), awake13 k (by omega)]
    rfl
  | succ m ih =>
    intro i k hm hi hk
    obtain ⟨k, rfl⟩ : ∃ j, k = j + 1 := ⟨k - 1, by omega⟩
    have hlt : i < (splitL a).length := by omega
    have hrec := ih (i + 1) k (by omega) (by omega) (by omega)
    have hfl := List.length_filter_le keepB ((splitL a).take i)
    rw [List.length_take] at hfl
    rw [List.take_succ_eq_append_getElem hlt, List.filter_append] at hrec
    rw [remoralaw13_PathClean.l0, if_pos (by omega), if_pos (by omega), rdOf_get _ i hlt, wr64 _ (by omega) (by omega)]
    generalize (splitL a)[i] = s at hrec ⊢
    by_cases h1 : s.toList = ([] : List UInt8)
    · rw [if_pos h1]
      rw [List.filter_cons_of_neg (by rw [keepB, skipB, if_pos h1]; decide), List.filter_nil, List.append_nil] at hrec
      exact hrec
    · rw [if_neg h1]
      by_cases h2 : s.toList = ([46] : List UInt8)
      · rw [if_pos h2]
        rw [List.filter_cons_of_neg (by rw [keepB, skipB, if_neg h1, beq_iff_eq.2 h2]; decide), List.filter_nil, List.append_nil] at hrec
        exact hrec
      · rw [if_neg h2, if_pos (by omega)]
        rw [List.filter_cons_of_pos (by rw [keepB, skipB, if_neg h1, beq_eq_false_iff_ne.2 h2]; rfl), List.filter_nil] at hrec
        exact hrec
theorem pathClean_f (a : ByteArray) : remoralaw13_PathClean.f 8000000 a = some true := by
  generalize hk : 8000000 = k
  have hk1 : 8000000 ≤ k := by omega
  clear hk
  rw [remoralaw13_PathClean.f]
  by_cases h4 : (a.size : Int) > 4000
  · rw [if_pos h4, awake13 k (by omega)]
    rfl
  · have ha : sml a := by unfold sml; omega
    have hl := splitL_len a
    rw [if_neg h4, pClean_f a ha k (by omega), Option.bind_some, right_f a (by omega) k (by omega), Option.bind_some]
    have hj : ∀ k, 7900000 ≤ k → remoralaw13_PathClean.j0 k a (cleanR (splitL a)).1 (cleanR (splitL a)).2 false = some true := fun k hk1 => by
      obtain ⟨k, rfl⟩ : ∃ j, k = j + 1 := ⟨k - 1, by omega⟩
      rw [remoralaw13_PathClean.j0, if_neg (by decide)]
      by_cases he : (cleanR (splitL a)).2 = 0
      · have hp : cleanR (splitL a) = ((cleanR (splitL a)).1, 0) := by rw [← he]
        have hb := clean_back (splitL a) (split_no47 a) he
        have hr := hb.2.1
        have hcl := clean_right _ hr
        have hps : (cleanR (splitL a)).1.size ≤ 200 := by
          unfold rightB at hr
          rw [Bool.and_eq_true, decide_eq_true_iff] at hr
          have := hr.2
          omega
        have hsm : sml (cleanR (splitL a)).1 := by unfold sml; omega
        rw [if_pos he, pClean_f _ hsm k (by omega), Option.bind_some, psplit_f a ha, Option.bind_some, hcl]
        exact clean_loop a _ hp (by omega) (splitL a).length 0 k (by omega) (by omega) (by omega)
      · have hnr : ¬ rightB a = true := fun h => he (by rw [clean_right a h])
        have hempty : (cleanR (splitL a)).1 = ⟨#[]⟩ := by
          unfold cleanR finR at he ⊢
          by_cases hz : (cleanP [] (splitL a)).2 = 0
          · rw [if_pos hz] at he ⊢
            by_cases h12 : ((cleanP [] (splitL a)).1.length : Int) > 12
            · rw [if_pos h12]
            · rw [if_neg h12] at he ⊢
              by_cases h200 : ((joinB (cleanP [] (splitL a)).1 ⟨#[47]⟩).size : Int) > 200
              · rw [if_pos h200]
              · rw [if_neg h200] at he
                exact absurd rfl he
          · rw [if_neg hz]
        rw [if_neg he, hempty, if_pos (by simp [ByteArray.toList_eq]), right_f a (by omega) k (by omega), Option.bind_some, if_neg hnr, awake13 k (by omega)]
        rfl
    by_cases hr : rightB a = true
    · have := hj k (by omega)
      rw [clean_right a hr] at this ⊢
      rw [if_pos hr, if_pos rfl, bne_self_eq_false]
      exact this
    · rw [if_neg hr]
      exact hj k (by omega)
end Go.Proofs.Ytdomeeaaidjmpaa.PA
/-! ### YtdomeeaaidjmpaaXPathCleanLaw -/
namespace Go.Proofs.Ytdomeeaaidjmpaa.PA
open Go.RowKit Go.Proofs.YtdomeeaaidjmpaaW.PrintWords Go.Proofs.YtdomeeaaidjmpaaW.PrintLast Go.Proofs.YtdomeeaaidjmpaaW.PrintMore
attribute [local go_sem] max2_int min2_int max_two min_two max_three min_three max_four min_four
set_option linter.unusedVariables false
set_option linter.unusedSimpArgs false
theorem pathClean_law (a0 : ByteArray) (hw : ∃ n, a0.size < n ∧ a0.size ≤ maxLen) (w : World) :
    Calls Try.prog 4 #[.string a0] w fun e w' => e = .returned (.bool true) ∧ Below w.heap.size w w' :=
  remoralaw13_PathClean.calls 8000000 a0 true w (pathClean_f a0)
end Go.Proofs.Ytdomeeaaidjmpaa.PA
namespace Go.Proofs.Ytdomeeaaidjmpaa.pathCleanRow
open Go.ChangeShapes Go.WideShapes Go.ChangeAt Go.RowKit Go.Proofs.Ytdomeeaaidjmpaa.PA Go.Proofs.YtdomeeaaidjmpaaW.PrintWords Go.Proofs.YtdomeeaaidjmpaaW.PrintLast Go.Proofs.YtdomeeaaidjmpaaW.PrintMore
open Go.ChangeMaps (open_string shut_string)
theorem own : ownKnob Try.prog.godebug = none := by kernel_rfl
theorem laidOut : laidOutB Try.prog = true := by kernel_rfl
set_option maxHeartbeats 1000000 in
set_option maxRecDepth 100000 in
theorem lifted (os : Os) (started : os.Started) (H : Type) (enc : TypeId × Value → H) :
    ReturnsInHanded {} Try.checked os 4 .any (Rows.pathCleanSpec.pre6 enc Try.prog Try.f4 Rows.pathCleanRow.domain false) (Rows.pathCleanSpec.post enc Try.prog Try.f4 false true false false) := by
  refine returnsInHanded_of_change_sized (C := Try.checked) own started (by kernel_rfl) Try.func4
    (ChangeSpec.witness6 (enc := enc) (C := Try.checked) false ⟨#[], #[.string ByteArray.empty], []⟩ 8 (by kernel_rfl) (by kernel_rfl) (by kernel_rfl) (by kernel_rfl)) ?_
  intro W base args ds gs before hval0 hW hcnd hsz0 _
  have hval : ∀ (j : Nat) t v, Try.f4.params[j]? = some t → args[j]? = some v → Value.okWide Try.prog W .any base t v := hval0
  have hW' := hW
  obtain ⟨p, q, hA0, hV, rfl, hfz, hnd⟩ := hW
  have hA : DataW.TrodAll enc Try.prog W 0 (fun _ => true) true Try.f4.params.toList args.toList ds p := hA0
  rw [Try.params4] at hA hval
  obtain ⟨v0, vs0, d0, ds0, p0, q0, hargs, rfl, rfl, h0, r0⟩ := trodAll_cons hA
  obtain ⟨rfl, rfl, rfl⟩ := trodAll_nil r0
  obtain rfl : args = #[v0] := by cases args; simp_all
  obtain ⟨rfl, rfl⟩ := trodVars_none hV
  obtain ⟨y0, rfl⟩ := okWide_string Try.underlying9 (hval 0 9 v0 rfl rfl)
  have k0 := h0
  have lt0 : ∀ x ∈ p0, x.block < W.heap.size := by obtain ⟨m, hm⟩ := k0; exact DataW.trod_lt m _ _ _ hm
  obtain ⟨fu0, hf0⟩ := h0
  obtain ⟨x0, hk0, hw0⟩ := (show Opn Try.prog 9 Kd.string (fun n x => x.size < n ∧ x.size ≤ maxLen) from (opn_string Try.underlying9 (by kernel_rfl))).op enc W 0 _ true fu0 _ _ hf0
  have e0 := (List.cons.inj hk0).1
  injection e0 with e0
  have e0 := e0.symm
  subst e0
  refine (pathClean_law x0 ⟨Rows.uptoBulk d0, hw0⟩ W).mono fun e W' ⟨he, bel⟩ => ?_
  subst he
  exact ⟨_, rfl, _, _, _, [], _, [], hW', trodAll_mk1 (shut_bool Try.underlying4 _), (trodAll_cons_mk (Below.trod laidOut (by kernel_rfl) (of_decide_eq_true (by kernel_rfl)) k0 bel lt0) trodAll_mk0), rfl, bel.frame _, fun h => by cases h⟩
theorem over : Rows.pathCleanRow.holds Try.pinned (OpenSpec.ofChange Rows.pathCleanSpec) :=
  OpenClaim.holds_of_wide 4 Try.f4 rfl rfl rfl rfl rfl rfl rfl ⟨rfl, rfl, rfl, rfl, rfl⟩ rfl rfl rfl rfl rfl (by kernel_rfl) Try.func4 (by kernel_rfl)
    (of_decide_eq_true (by kernel_rfl)) (by unfold Func.isWrapper; first | (rw [if_pos (by decide +kernel)]; kernel_rfl) | (rw [if_neg (by decide +kernel)]; exact ⟨rfl, rfl⟩))
    (fun os started H enc _ => lifted os started H enc)
theorem proved : Rows.PathCleanSaid := over
#print axioms proved
end Go.Proofs.Ytdomeeaaidjmpaa.pathCleanRow
namespace Go.Proofs.Ytdomeeaaidjmpaa
/-- The row, under a short name, for the claim. -/
theorem pathClean_holds : Rows.PathCleanSaid := pathCleanRow.proved
end Go.Proofs.Ytdomeeaaidjmpaa
namespace Go.Proofs.Ytdomeeaaidjmpaa.PA
end Go.Proofs.Ytdomeeaaidjmpaa.PA
