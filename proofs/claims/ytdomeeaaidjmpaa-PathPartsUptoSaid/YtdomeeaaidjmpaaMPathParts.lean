/- PathParts: for any text of bulk at most 1048576 the law returns true and leaves its argument as it was. -/
import Derived.Test.YtdomeeaaidjmpaaPAx0
import Derived.Test.YtdomeeaaidjmpaaPAfremoraref13Split
import Derived.Test.YtdomeeaaidjmpaaPAfremoralaw13awake
import Derived.Test.YtdomeeaaidjmpaaPAfpathRight
import Derived.Test.YtdomeeaaidjmpaaPAfremoralaw13texts
import Derived.Test.YtdomeeaaidjmpaaPAfpathDepth
import Derived.Test.YtdomeeaaidjmpaaPAfremoraref13Right
import Derived.Test.YtdomeeaaidjmpaaPAfpathBase
import Derived.Test.YtdomeeaaidjmpaaPAfremoraref13Base
import Derived.Test.YtdomeeaaidjmpaaPAfpathParent
import Derived.Test.YtdomeeaaidjmpaaPAfremoraref13Parent
import Derived.Test.YtdomeeaaidjmpaaXpathSplit
import Derived.Test.YtdomeeaaidjmpaaPAfpathpart
import Derived.Test.YtdomeeaaidjmpaaXSplitSpec
import Derived.Lib.Join
import Derived.Test.YtdomeeaaidjmpaaXstringsJoin
import Derived.Lib.Bytealg
import Derived.Test.YtdomeeaaidjmpaaPAfremoraref13nought
import Derived.Test.YtdomeeaaidjmpaaPAfpathCommon
import Derived.Test.YtdomeeaaidjmpaaPAfpathLess
import Derived.Test.YtdomeeaaidjmpaaPAfpathRel
import Derived.Test.YtdomeeaaidjmpaaPAfpathUnder
import Derived.Test.YtdomeeaaidjmpaaPAfremoraref13Common
import Derived.Test.YtdomeeaaidjmpaaPAfremoraref13Less
import Derived.Test.YtdomeeaaidjmpaaPAfremoraref13Rel
import Derived.Test.YtdomeeaaidjmpaaPAfremoraref13Under
import Derived.Test.YtdomeeaaidjmpaaPAfremoraref13glue
import Derived.Test.YtdomeeaaidjmpaaPAfslicesComparestringstring
import Derived.Test.YtdomeeaaidjmpaaPAfslicesEqualstringstring
import Derived.Test.YtdomeeaaidjmpaaXcmpComparestring
import Derived.Test.YtdomeeaaidjmpaaPAfbytealgLastIndexByteString
import Derived.Test.YtdomeeaaidjmpaaPAfstringsLastIndexByte
import Derived.Below
import Derived.ChangeOld
import Derived.JoinedCond
import Derived.OpenShut
import Derived.ProofKit
import Derived.ShutString
import Derived.Test.YtdomeeaaidjmpaaRows
import Derived.WalkKit
/-! ### YtdomeeaaidjmpaaPAfremoraref13Depth -/
namespace Go.Proofs.Ytdomeeaaidjmpaa.PA
open Go.RowKit Go.Proofs.YtdomeeaaidjmpaaW.PrintWords Go.Proofs.YtdomeeaaidjmpaaW.PrintLast Go.Proofs.YtdomeeaaidjmpaaW.PrintMore
attribute [local go_sem] max2_int min2_int max_two min_two max_three min_three max_four min_four   -- for this text's walks alone
set_option linter.unusedVariables false
set_option linter.unusedSimpArgs false

/-! ### remoraref13_Depth: function 34 -/
def remoraref13_Depth.f (k : Nat) (a0 : ByteArray) : Option (Int) := (remoraref13_Split.f k a0).bind fun t101 => (some (t101.length : Int))
theorem remoraref13_Depth.mono : ∀ a0 k, LeO (remoraref13_Depth.f k a0) (remoraref13_Depth.f (k + 1) a0) := by
  intro a0 k
  unfold remoraref13_Depth.f
  repeat' first
      | (with_reducible exact remoraref13_Split.mono _ _)
      | (with_reducible exact LeO.refl _)
      | (with_reducible exact LeO.none _)
      | (with_reducible refine LeO.ite ?_ ?_)
      | (with_reducible refine LeO.bind ?_ (fun _ => ?_))
      | exact remoraref13_Split.mono _ _
      | exact LeO.none _
      | refine LeO.ite ?_ ?_
      | refine LeO.bind ?_ (fun _ => ?_)
set_option maxHeartbeats 8000000 in
set_option maxRecDepth 100000 in
theorem remoraref13_Depth.calls (k : Nat) (a0 : ByteArray) (r : Int) (w : World) (h : remoraref13_Depth.f k a0 = some r) :
    Calls Try.prog 34 #[.string a0] w fun e w' => e = .returned (.int .i64 r) ∧ Below w.heap.size w w' := by
  have HB := Aside0.mk (Below.refl w.heap.size w)
  have H : ((remoraref13_Split.f k a0).bind fun t101 => (some (t101.length : Int))) = some r := h
  clear h
  replace H := Option.bind_eq_some_iff.mp H
  obtain ⟨t101, A20, H⟩ := H
  replace H : (some (t101.length : Int)) = some r := H
  have A2 := Aside0.mk A20
  clear A20
  obtain rfl := Option.some.inj H
  go_enter Try.func34, Try.ntmps34
  go_wp2_with (first | ((with_reducible refine gate_callee (f := 29) rfl ?_); refine goesL_ (some 4) rfl rfl Try.func29 (by kernel_rfl) rfl #[.string a0] rfl (by (try simp only [List.map_toArray, List.map_cons, List.map_nil]); first | done | rfl | (simp only [List.length_drop, List.length_take]; rfl)) ?_; (with_reducible refine (remoraref13_Split.calls k a0 t101 _ A2.out).mono ?_); rintro e w3 ⟨v102, rfl, ho0, hb⟩; refine ⟨_, rfl, ?_⟩; have n0_ := Aside0.mk (Kd.R_lower ho0 (below_size (by repeat (first | (with_reducible first | exact HB.out | apply below_alloc | apply pw_below_drewN | apply below_drew1) | exact HB.out)))); have n1_ := Aside0.mk (below_step (by repeat (first | (with_reducible first | exact HB.out | apply below_alloc | apply pw_below_drewN | apply below_drew1) | exact HB.out)) hb); clear HB; have HO103 := n0_; have HB := n1_; clear n0_ n1_; (try clear hb); (try clear hb2); (try clear hk); (try clear hi); (try clear ho0); obtain ⟨Ao4, co4, eo4⟩ := Kd.R_slice HO103.out; subst eo4))
  go_ret
  exact ⟨by first | rfl | (simp [errW_none, errW_some] <;> rfl) | (simp [*, errW_none, errW_some] <;> rfl), by repeat (first | (with_reducible first | exact HB.out | apply below_alloc | apply pw_below_drewN | apply below_drew1) | exact HB.out)⟩

end Go.Proofs.Ytdomeeaaidjmpaa.PA
/-! ### YtdomeeaaidjmpaaPAfremoralaw13PathParts -/
namespace Go.Proofs.Ytdomeeaaidjmpaa.PA
open Go.RowKit Go.Proofs.YtdomeeaaidjmpaaW.PrintWords Go.Proofs.YtdomeeaaidjmpaaW.PrintLast Go.Proofs.YtdomeeaaidjmpaaW.PrintMore
attribute [local go_sem] max2_int min2_int max_two min_two max_three min_three max_four min_four   -- for this text's walks alone
set_option linter.unusedVariables false
set_option linter.unusedSimpArgs false

/-! ### remoralaw13_PathParts: function 7 -/
def remoralaw13_PathParts.f (k : Nat) (a0 : ByteArray) : Option (Bool) := (path_Right.f k a0).bind fun t101 => ((remoraref13_Right.f k a0).bind fun t102 => (if (t101 == t102) = true then ((path_Split.f a0).bind fun t103 => ((remoraref13_Split.f k a0).bind fun t106 => ((remoralaw13_texts.f k t103 t106).bind fun t109 => (if t109 = true then ((path_Base.f k a0).bind fun t110 => ((remoraref13_Base.f k a0).bind fun t111 => (if t110.toList = t111.toList then ((path_Parent.f k a0).bind fun t112 => ((remoraref13_Parent.f k a0).bind fun t113 => (if t112.toList = t113.toList then ((path_Depth.f a0).bind fun t114 => ((remoraref13_Depth.f k a0).bind fun t115 => (if t114 = t115 then ((remoralaw13_awake.f k).bind fun t116 => (some t116)) else (some false)))) else (some false)))) else (some false)))) else (some false))))) else (some false)))
theorem remoralaw13_PathParts.mono : ∀ a0 k, LeO (remoralaw13_PathParts.f k a0) (remoralaw13_PathParts.f (k + 1) a0) := by
  intro a0 k
  unfold remoralaw13_PathParts.f
  repeat' first
      | (with_reducible exact path_Base.mono _ _)
      | (with_reducible exact path_Parent.mono _ _)
      | (with_reducible exact path_Right.mono _ _)
      | (with_reducible exact remoralaw13_awake.mono _)
      | (with_reducible exact remoralaw13_texts.mono _ _ _)
      | (with_reducible exact remoraref13_Base.mono _ _)
      | (with_reducible exact remoraref13_Depth.mono _ _)
      | (with_reducible exact remoraref13_Parent.mono _ _)
      | (with_reducible exact remoraref13_Right.mono _ _)
      | (with_reducible exact remoraref13_Split.mono _ _)
      | (with_reducible exact LeO.refl _)
      | (with_reducible exact LeO.none _)
      | (with_reducible refine LeO.ite ?_ ?_)
      | (with_reducible refine LeO.bind ?_ (fun _ => ?_))
      | exact path_Base.mono _ _
      | exact path_Parent.mono _ _
      | exact path_Right.mono _ _
      | exact remoralaw13_awake.mono _
      | exact remoralaw13_texts.mono _ _ _
      | exact remoraref13_Base.mono _ _
      | exact remoraref13_Depth.mono _ _
      | exact remoraref13_Parent.mono _ _
      | exact remoraref13_Right.mono _ _
      | exact remoraref13_Split.mono _ _
      | exact LeO.none _
      | refine LeO.ite ?_ ?_
      | refine LeO.bind ?_ (fun _ => ?_)
set_option maxHeartbeats 8000000 in
set_option maxRecDepth 100000 in
theorem remoralaw13_PathParts.calls (k : Nat) (a0 : ByteArray) (r : Bool) (w : World) (h : remoralaw13_PathParts.f k a0 = some r) :
    Calls Try.prog 7 #[.string a0] w fun e w' => e = .returned (.bool r) ∧ Below w.heap.size w w' := by
  have HB := Aside0.mk (Below.refl w.heap.size w)
  have H : ((path_Right.f k a0).bind fun t101 => ((remoraref13_Right.f k a0).bind fun t102 => (if (t101 == t102) = true then ((path_Split.f a0).bind fun t103 => ((remoraref13_Split.f k a0).bind fun t106 => ((remoralaw13_texts.f k t103 t106).bind fun t109 => (if t109 = true then ((path_Base.f k a0).bind fun t110 => ((remoraref13_Base.f k a0).bind fun t111 => (if t110.toList = t111.toList then ((path_Parent.f k a0).bind fun t112 => ((remoraref13_Parent.f k a0).bind fun t113 => (if t112.toList = t113.toList then ((path_Depth.f a0).bind fun t114 => ((remoraref13_Depth.f k a0).bind fun t115 => (if t114 = t115 then ((remoralaw13_awake.f k).bind fun t116 => (some t116)) else (some false)))) else (some false)))) else (some false)))) else (some false))))) else (some false)))) = some r := h
  clear h
  replace H := Option.bind_eq_some_iff.mp H
  obtain ⟨t101, A20, H⟩ := H
  replace H : ((remoraref13_Right.f k a0).bind fun t102 => (if (t101 == t102) = true then ((path_Split.f a0).bind fun t103 => ((remoraref13_Split.f k a0).bind fun t106 => ((remoralaw13_texts.f k t103 t106).bind fun t109 => (if t109 = true then ((path_Base.f k a0).bind fun t110 => ((remoraref13_Base.f k a0).bind fun t111 => (if t110.toList = t111.toList then ((path_Parent.f k a0).bind fun t112 => ((remoraref13_Parent.f k a0).bind fun t113 => (if t112.toList = t113.toList then ((path_Depth.f a0).bind fun t114 => ((remoraref13_Depth.f k a0).bind fun t115 => (if t114 = t115 then ((remoralaw13_awake.f k).bind fun t116 => (some t116)) else (some false)))) else (some false)))) else (some false)))) else (some false))))) else (some false))) = some r := H
  have A2 := Aside0.mk A20
  clear A20
  replace H := Option.bind_eq_some_iff.mp H
  obtain ⟨t102, A30, H⟩ := H
  replace H : (if (t101 == t102) = true then ((path_Split.f a0).bind fun t103 => ((remoraref13_Split.f k a0).bind fun t106 => ((remoralaw13_texts.f k t103 t106).bind fun t109 => (if t109 = true then ((path_Base.f k a0).bind fun t110 => ((remoraref13_Base.f k a0).bind fun t111 => (if t110.toList = t111.toList then ((path_Parent.f k a0).bind fun t112 => ((remoraref13_Parent.f k a0).bind fun t113 => (if t112.toList = t113.toList then ((path_Depth.f a0).bind fun t114 => ((remoraref13_Depth.f k a0).bind fun t115 => (if t114 = t115 then ((remoralaw13_awake.f k).bind fun t116 => (some t116)) else (some false)))) else (some false)))) else (some false)))) else (some false))))) else (some false)) = some r := H
  have A3 := Aside0.mk A30
  clear A30
  by_cases c4 : (t101 == t102) = true
  · rw [if_pos c4] at H
    have c4b0 : (t101 == t102) = true := c4
    (try (have c4b1 : decide (t101 = t102) = true := by simpa using c4))
    (try (have c4b2 : (t101 == t102) = true := by simpa using c4))
    clear c4
    replace H := Option.bind_eq_some_iff.mp H
    obtain ⟨t103, A50, H⟩ := H
    replace H : ((remoraref13_Split.f k a0).bind fun t106 => ((remoralaw13_texts.f k t103 t106).bind fun t109 => (if t109 = true then ((path_Base.f k a0).bind fun t110 => ((remoraref13_Base.f k a0).bind fun t111 => (if t110.toList = t111.toList then ((path_Parent.f k a0).bind fun t112 => ((remoraref13_Parent.f k a0).bind fun t113 => (if t112.toList = t113.toList then ((path_Depth.f a0).bind fun t114 => ((remoraref13_Depth.f k a0).bind fun t115 => (if t114 = t115 then ((remoralaw13_awake.f k).bind fun t116 => (some t116)) else (some false)))) else (some false)))) else (some false)))) else (some false)))) = some r := H
    have A5 := Aside0.mk A50
    clear A50
    replace H := Option.bind_eq_some_iff.mp H
    obtain ⟨t106, A60, H⟩ := H
    replace H : ((remoralaw13_texts.f k t103 t106).bind fun t109 => (if t109 = true then ((path_Base.f k a0).bind fun t110 => ((remoraref13_Base.f k a0).bind fun t111 => (if t110.toList = t111.toList then ((path_Parent.f k a0).bind fun t112 => ((remoraref13_Parent.f k a0).bind fun t113 => (if t112.toList = t113.toList then ((path_Depth.f a0).bind fun t114 => ((remoraref13_Depth.f k a0).bind fun t115 => (if t114 = t115 then ((remoralaw13_awake.f k).bind fun t116 => (some t116)) else (some false)))) else (some false)))) else (some false)))) else (some false))) = some r := H
    have A6 := Aside0.mk A60
    clear A60
    replace H := Option.bind_eq_some_iff.mp H
    obtain ⟨t109, A70, H⟩ := H
    replace H : (if t109 = true then ((path_Base.f k a0).bind fun t110 => ((remoraref13_Base.f k a0).bind fun t111 => (if t110.toList = t111.toList then ((path_Parent.f k a0).bind fun t112 => ((remoraref13_Parent.f k a0).bind fun t113 => (if t112.toList = t113.toList then ((path_Depth.f a0).bind fun t114 => ((remoraref13_Depth.f k a0).bind fun t115 => (if t114 = t115 then ((remoralaw13_awake.f k).bind fun t116 => (some t116)) else (some false)))) else (some false)))) else (some false)))) else (some false)) = some r := H
    have A7 := Aside0.mk A70
    clear A70
    by_cases c8 : t109 = true
    · subst c8
      have H1 : ((path_Base.f k a0).bind fun t110 => ((remoraref13_Base.f k a0).bind fun t111 => (if t110.toList = t111.toList then ((path_Parent.f k a0).bind fun t112 => ((remoraref13_Parent.f k a0).bind fun t113 => (if t112.toList = t113.toList then ((path_Depth.f a0).bind fun t114 => ((remoraref13_Depth.f k a0).bind fun t115 => (if t114 = t115 then ((remoralaw13_awake.f k).bind fun t116 => (some t116)) else (some false)))) else (some false)))) else (some false)))) = some r := by rw [if_pos rfl] at H; exact H
      clear H
      have H := H1
      clear H1
      replace H := Option.bind_eq_some_iff.mp H
      obtain ⟨t110, A90, H⟩ := H
      replace H : ((remoraref13_Base.f k a0).bind fun t111 => (if t110.toList = t111.toList then ((path_Parent.f k a0).bind fun t112 => ((remoraref13_Parent.f k a0).bind fun t113 => (if t112.toList = t113.toList then ((path_Depth.f a0).bind fun t114 => ((remoraref13_Depth.f k a0).bind fun t115 => (if t114 = t115 then ((remoralaw13_awake.f k).bind fun t116 => (some t116)) else (some false)))) else (some false)))) else (some false))) = some r := H
      have A9 := Aside0.mk A90
      clear A90
      replace H := Option.bind_eq_some_iff.mp H
      obtain ⟨t111, A100, H⟩ := H
      replace H : (if t110.toList = t111.toList then ((path_Parent.f k a0).bind fun t112 => ((remoraref13_Parent.f k a0).bind fun t113 => (if t112.toList = t113.toList then ((path_Depth.f a0).bind fun t114 => ((remoraref13_Depth.f k a0).bind fun t115 => (if t114 = t115 then ((remoralaw13_awake.f k).bind fun t116 => (some t116)) else (some false)))) else (some false)))) else (some false)) = some r := H
      have A10 := Aside0.mk A100
      clear A100
      by_cases c11 : t110.toList = t111.toList
      · rw [if_pos c11] at H
        have c11b0 : (t110.toList == t111.toList) = true := beq_iff_eq.mpr c11
        have c11b1 : (t110.toList != t111.toList) = false := bne_eq_false_iff_eq.mpr c11
        clear c11
        replace H := Option.bind_eq_some_iff.mp H
        obtain ⟨t112, A120, H⟩ := H
        replace H : ((remoraref13_Parent.f k a0).bind fun t113 => (if t112.toList = t113.toList then ((path_Depth.f a0).bind fun t114 => ((remoraref13_Depth.f k a0).bind fun t115 => (if t114 = t115 then ((remoralaw13_awake.f k).bind fun t116 => (some t116)) else (some false)))) else (some false))) = some r := H
        have A12 := Aside0.mk A120
        clear A120
        replace H := Option.bind_eq_some_iff.mp H
        obtain ⟨t113, A130, H⟩ := H
        replace H : (if t112.toList = t113.toList then ((path_Depth.f a0).bind fun t114 => ((remoraref13_Depth.f k a0).bind fun t115 => (if t114 = t115 then ((remoralaw13_awake.f k).bind fun t116 => (some t116)) else (some false)))) else (some false)) = some r := H
        have A13 := Aside0.mk A130
        clear A130
        by_cases c14 : t112.toList = t113.toList
        · rw [if_pos c14] at H
          have c14b0 : (t112.toList == t113.toList) = true := beq_iff_eq.mpr c14
          have c14b1 : (t112.toList != t113.toList) = false := bne_eq_false_iff_eq.mpr c14
          clear c14
          replace H := Option.bind_eq_some_iff.mp H
          obtain ⟨t114, A150, H⟩ := H
          replace H : ((remoraref13_Depth.f k a0).bind fun t115 => (if t114 = t115 then ((remoralaw13_awake.f k).bind fun t116 => (some t116)) else (some false))) = some r := H
          have A15 := Aside0.mk A150
          clear A150
          replace H := Option.bind_eq_some_iff.mp H
          obtain ⟨t115, A160, H⟩ := H
          replace H : (if t114 = t115 then ((remoralaw13_awake.f k).bind fun t116 => (some t116)) else (some false)) = some r := H
          have A16 := Aside0.mk A160
          clear A160
          by_cases c17 : t114 = t115
          · rw [if_pos c17] at H
            have c17b0 : (t114 == t115) = true := beq_iff_eq.mpr c17
            have c17b1 : (t114 != t115) = false := bne_eq_false_iff_eq.mpr c17
            clear c17
            replace H := Option.bind_eq_some_iff.mp H
            obtain ⟨t116, A180, H⟩ := H
            replace H : (some t116) = some r := H
            have A18 := Aside0.mk A180
            clear A180
            obtain rfl := Option.some.inj H
            go_enter Try.func7, Try.ntmps7
            go_wp2_with (first | ((with_reducible refine gate_callee (f := 16) rfl ?_); refine goesL_ (some 4) rfl rfl Try.func16 (by kernel_rfl) rfl #[.string a0] rfl (by (try simp only [List.map_toArray, List.map_cons, List.map_nil]); first | done | rfl | (simp only [List.length_drop, List.length_take]; rfl)) ?_; (with_reducible refine (path_Right.calls k a0 t101 _ A2.out).mono ?_); rintro e w19 ⟨rfl, hb⟩; refine ⟨_, rfl, ?_⟩; have n0_ := Aside0.mk (below_step (by repeat (first | (with_reducible first | exact HB.out | apply below_alloc | apply pw_below_drewN | apply below_drew1) | exact HB.out)) hb); clear HB; have HB := n0_; clear n0_; (try clear hb); (try clear hb2); (try clear hk); (try clear hi)) | ((with_reducible refine gate_callee (f := 28) rfl ?_); refine goesL_ (some 6) rfl rfl Try.func28 (by kernel_rfl) rfl #[.string a0] rfl (by (try simp only [List.map_toArray, List.map_cons, List.map_nil]); first | done | rfl | (simp only [List.length_drop, List.length_take]; rfl)) ?_; (with_reducible refine (remoraref13_Right.calls k a0 t102 _ A3.out).mono ?_); rintro e w20 ⟨rfl, hb⟩; refine ⟨_, rfl, ?_⟩; have n0_ := Aside0.mk (below_step (by repeat (first | (with_reducible first | exact HB.out | apply below_alloc | apply pw_below_drewN | apply below_drew1) | exact HB.out)) hb); clear HB; have HB := n0_; clear n0_; (try clear hb); (try clear hb2); (try clear hk); (try clear hi)) | (go_at_call 17; (with_reducible refine (path_Split.calls a0 t103 _ A5.out).mono ?_); rintro e w21 ⟨v104, rfl, ho0, hb⟩; have n0_ := Aside0.mk (Kd.R_lower ho0 (below_size (by repeat (first | (with_reducible first | exact HB.out | apply below_alloc | apply pw_below_drewN | apply below_drew1) | exact HB.out)))); have n1_ := Aside0.mk (below_step (by repeat (first | (with_reducible first | exact HB.out | apply below_alloc | apply pw_below_drewN | apply below_drew1) | exact HB.out)) hb); clear HB; have HO105 := n0_; have HB := n1_; clear n0_ n1_; (try clear hb); (try clear hb2); (try clear hk); (try clear hi); (try clear ho0)) | (go_at_call 29; (with_reducible refine (remoraref13_Split.calls k a0 t106 _ A6.out).mono ?_); rintro e w22 ⟨v107, rfl, ho0, hb⟩; have n0_ := Aside0.mk (Kd.R_elder' (by (with_reducible repeat (first | apply Kd.R_alloc | apply Kd.R_drewN | apply Kd.R_drew)); exact HO105.out) (Kd.R_base ho0) hb); have n1_ := Aside0.mk (Kd.R_lower (Kd.R_new' ho0 (Kd.R_lt (by (with_reducible repeat (first | apply Kd.R_alloc | apply Kd.R_drewN | apply Kd.R_drew)); exact HO105.out))) (below_size (by repeat (first | (with_reducible first | exact HB.out | apply below_alloc | apply pw_below_drewN | apply below_drew1) | exact HB.out)))); have n2_ := Aside0.mk (below_step (by repeat (first | (with_reducible first | exact HB.out | apply below_alloc | apply pw_below_drewN | apply below_drew1) | exact HB.out)) hb); clear HO105; clear HB; have HO105 := n0_; have HO108 := n1_; have HB := n2_; clear n0_ n1_ n2_; (try clear hb); (try clear hb2); (try clear hk); (try clear hi); (try clear ho0); obtain ⟨Ao23, co23, eo23⟩ := Kd.R_slice HO105.out; subst eo23; obtain ⟨Ao24, co24, eo24⟩ := Kd.R_slice HO108.out; subst eo24) | (go_at_call 18; (with_reducible refine (remoralaw13_texts.calls k _ _ t103 _ _ t106 true _ ?side1 ?side2 ?side3 ?side4 A7.out).mono ?_); (case side1 => repeat (first | exact (Kd.R_reads' HO105.out).2.2 | (with_reducible refine Kd.C_alloc ?_ _) | (with_reducible refine Kd.C_drewN ?_ _) | (with_reducible refine Kd.C_drew ?_))); (case side2 => exact (Kd.R_reads' HO105.out).2.1); (case side3 => repeat (first | exact (Kd.R_reads' HO108.out).2.2 | (with_reducible refine Kd.C_alloc ?_ _) | (with_reducible refine Kd.C_drewN ?_ _) | (with_reducible refine Kd.C_drew ?_))); (case side4 => exact (Kd.R_reads' HO108.out).2.1); rintro e w' ⟨rfl, ⟨nd, rfl⟩⟩) | (go_at_call 30; (with_reducible refine (path_Base.calls k a0 t110 _ A9.out).mono ?_); rintro e w' ⟨rfl, ⟨nd, rfl⟩⟩) | (go_at_call 31; (with_reducible refine (remoraref13_Base.calls k a0 t111 _ A10.out).mono ?_); rintro e w25 ⟨rfl, hb⟩; have n0_ := Aside0.mk (Kd.R_below (by (with_reducible repeat (first | apply Kd.R_alloc | apply Kd.R_drewN | apply Kd.R_drew)); exact HO105.out) hb); have n1_ := Aside0.mk (Kd.R_below (by (with_reducible repeat (first | apply Kd.R_alloc | apply Kd.R_drewN | apply Kd.R_drew)); exact HO108.out) hb); have n2_ := Aside0.mk (below_step (by repeat (first | (with_reducible first | exact HB.out | apply below_alloc | apply pw_below_drewN | apply below_drew1) | exact HB.out)) hb); clear HO105; clear HO108; clear HB; have HO105 := n0_; have HO108 := n1_; have HB := n2_; clear n0_ n1_ n2_; (try clear hb); (try clear hb2); (try clear hk); (try clear hi)) | (go_at_call 32; (with_reducible refine (path_Parent.calls k a0 t112 _ A12.out).mono ?_); rintro e w26 ⟨rfl, hb⟩; have n0_ := Aside0.mk (Kd.R_below (by (with_reducible repeat (first | apply Kd.R_alloc | apply Kd.R_drewN | apply Kd.R_drew)); exact HO105.out) hb); have n1_ := Aside0.mk (Kd.R_below (by (with_reducible repeat (first | apply Kd.R_alloc | apply Kd.R_drewN | apply Kd.R_drew)); exact HO108.out) hb); have n2_ := Aside0.mk (below_step (by repeat (first | (with_reducible first | exact HB.out | apply below_alloc | apply pw_below_drewN | apply below_drew1) | exact HB.out)) hb); clear HO105; clear HO108; clear HB; have HO105 := n0_; have HO108 := n1_; have HB := n2_; clear n0_ n1_ n2_; (try clear hb); (try clear hb2); (try clear hk); (try clear hi)) | (go_at_call 33; (with_reducible refine (remoraref13_Parent.calls k a0 t113 _ A13.out).mono ?_); rintro e w27 ⟨rfl, hb⟩; have n0_ := Aside0.mk (Kd.R_below (by (with_reducible repeat (first | apply Kd.R_alloc | apply Kd.R_drewN | apply Kd.R_drew)); exact HO105.out) hb); have n1_ := Aside0.mk (Kd.R_below (by (with_reducible repeat (first | apply Kd.R_alloc | apply Kd.R_drewN | apply Kd.R_drew)); exact HO108.out) hb); have n2_ := Aside0.mk (below_step (by repeat (first | (with_reducible first | exact HB.out | apply below_alloc | apply pw_below_drewN | apply below_drew1) | exact HB.out)) hb); clear HO105; clear HO108; clear HB; have HO105 := n0_; have HO108 := n1_; have HB := n2_; clear n0_ n1_ n2_; (try clear hb); (try clear hb2); (try clear hk); (try clear hi)) | (go_at_call 19; (with_reducible refine (path_Depth.calls a0 t114 _ A15.out).mono ?_); rintro e w28 ⟨rfl, hb⟩; have n0_ := Aside0.mk (Kd.R_below (by (with_reducible repeat (first | apply Kd.R_alloc | apply Kd.R_drewN | apply Kd.R_drew)); exact HO105.out) hb); have n1_ := Aside0.mk (Kd.R_below (by (with_reducible repeat (first | apply Kd.R_alloc | apply Kd.R_drewN | apply Kd.R_drew)); exact HO108.out) hb); have n2_ := Aside0.mk (below_step (by repeat (first | (with_reducible first | exact HB.out | apply below_alloc | apply pw_below_drewN | apply below_drew1) | exact HB.out)) hb); clear HO105; clear HO108; clear HB; have HO105 := n0_; have HO108 := n1_; have HB := n2_; clear n0_ n1_ n2_; (try clear hb); (try clear hb2); (try clear hk); (try clear hi)) | (go_at_call 34; (with_reducible refine (remoraref13_Depth.calls k a0 t115 _ A16.out).mono ?_); rintro e w29 ⟨rfl, hb⟩; have n0_ := Aside0.mk (Kd.R_below (by (with_reducible repeat (first | apply Kd.R_alloc | apply Kd.R_drewN | apply Kd.R_drew)); exact HO105.out) hb); have n1_ := Aside0.mk (Kd.R_below (by (with_reducible repeat (first | apply Kd.R_alloc | apply Kd.R_drewN | apply Kd.R_drew)); exact HO108.out) hb); have n2_ := Aside0.mk (below_step (by repeat (first | (with_reducible first | exact HB.out | apply below_alloc | apply pw_below_drewN | apply below_drew1) | exact HB.out)) hb); clear HO105; clear HO108; clear HB; have HO105 := n0_; have HO108 := n1_; have HB := n2_; clear n0_ n1_ n2_; (try clear hb); (try clear hb2); (try clear hk); (try clear hi)) | (go_at_call 11; (with_reducible refine (remoralaw13_awake.calls k  t116 _ A18.out).mono ?_); rintro e w30 ⟨rfl, hb⟩; have n0_ := Aside0.mk (Kd.R_below (by (with_reducible repeat (first | apply Kd.R_alloc | apply Kd.R_drewN | apply Kd.R_drew)); exact HO105.out) hb); have n1_ := Aside0.mk (Kd.R_below (by (with_reducible repeat (first | apply Kd.R_alloc | apply Kd.R_drewN | apply Kd.R_drew)); exact HO108.out) hb); have n2_ := Aside0.mk (below_step (by repeat (first | (with_reducible first | exact HB.out | apply below_alloc | apply pw_below_drewN | apply below_drew1) | exact HB.out)) hb); clear HO105; clear HO108; clear HB; have HO105 := n0_; have HO108 := n1_; have HB := n2_; clear n0_ n1_ n2_; (try clear hb); (try clear hb2); (try clear hk); (try clear hi)))
            go_ret
            exact ⟨by first | rfl | (simp [errW_none, errW_some] <;> rfl) | (simp [*, errW_none, errW_some] <;> rfl), by repeat (first | (with_reducible first | exact HB.out | apply below_alloc | apply pw_below_drewN | apply below_drew1) | exact HB.out)⟩
          · rw [if_neg c17] at H
            have c17b0 : (t114 == t115) = false := beq_eq_false_iff_ne.mpr c17
            have c17b1 : (t114 != t115) = true := bne_iff_ne.mpr c17
            obtain rfl := Option.some.inj H
            go_enter Try.func7, Try.ntmps7
            go_wp2_with (first | ((with_reducible refine gate_callee (f := 16) rfl ?_); refine goesL_ (some 4) rfl rfl Try.func16 (by kernel_rfl) rfl #[.string a0] rfl (by (try simp only [List.map_toArray, List.map_cons, List.map_nil]); first | done | rfl | (simp only [List.length_drop, List.length_take]; rfl)) ?_; (with_reducible refine (path_Right.calls k a0 t101 _ A2.out).mono ?_); rintro e w31 ⟨rfl, hb⟩; refine ⟨_, rfl, ?_⟩; have n0_ := Aside0.mk (below_step (by repeat (first | (with_reducible first | exact HB.out | apply below_alloc | apply pw_below_drewN | apply below_drew1) | exact HB.out)) hb); clear HB; have HB := n0_; clear n0_; (try clear hb); (try clear hb2); (try clear hk); (try clear hi)) | ((with_reducible refine gate_callee (f := 28) rfl ?_); refine goesL_ (some 6) rfl rfl Try.func28 (by kernel_rfl) rfl #[.string a0] rfl (by (try simp only [List.map_toArray, List.map_cons, List.map_nil]); first | done | rfl | (simp only [List.length_drop, List.length_take]; rfl)) ?_; (with_reducible refine (remoraref13_Right.calls k a0 t102 _ A3.out).mono ?_); rintro e w32 ⟨rfl, hb⟩; refine ⟨_, rfl, ?_⟩; have n0_ := Aside0.mk (below_step (by repeat (first | (with_reducible first | exact HB.out | apply below_alloc | apply pw_below_drewN | apply below_drew1) | exact HB.out)) hb); clear HB; have HB := n0_; clear n0_; (try clear hb); (try clear hb2); (try clear hk); (try clear hi)) | (go_at_call 17; (with_reducible refine (path_Split.calls a0 t103 _ A5.out).mono ?_); rintro e w33 ⟨v104, rfl, ho0, hb⟩; have n0_ := Aside0.mk (Kd.R_lower ho0 (below_size (by repeat (first | (with_reducible first | exact HB.out | apply below_alloc | apply pw_below_drewN | apply below_drew1) | exact HB.out)))); have n1_ := Aside0.mk (below_step (by repeat (first | (with_reducible first | exact HB.out | apply below_alloc | apply pw_below_drewN | apply below_drew1) | exact HB.out)) hb); clear HB; have HO105 := n0_; have HB := n1_; clear n0_ n1_; (try clear hb); (try clear hb2); (try clear hk); (try clear hi); (try clear ho0)) | (go_at_call 29; (with_reducible refine (remoraref13_Split.calls k a0 t106 _ A6.out).mono ?_); rintro e w34 ⟨v107, rfl, ho0, hb⟩; have n0_ := Aside0.mk (Kd.R_elder' (by (with_reducible repeat (first | apply Kd.R_alloc | apply Kd.R_drewN | apply Kd.R_drew)); exact HO105.out) (Kd.R_base ho0) hb); have n1_ := Aside0.mk (Kd.R_lower (Kd.R_new' ho0 (Kd.R_lt (by (with_reducible repeat (first | apply Kd.R_alloc | apply Kd.R_drewN | apply Kd.R_drew)); exact HO105.out))) (below_size (by repeat (first | (with_reducible first | exact HB.out | apply below_alloc | apply pw_below_drewN | apply below_drew1) | exact HB.out)))); have n2_ := Aside0.mk (below_step (by repeat (first | (with_reducible first | exact HB.out | apply below_alloc | apply pw_below_drewN | apply below_drew1) | exact HB.out)) hb); clear HO105; clear HB; have HO105 := n0_; have HO108 := n1_; have HB := n2_; clear n0_ n1_ n2_; (try clear hb); (try clear hb2); (try clear hk); (try clear hi); (try clear ho0); obtain ⟨Ao35, co35, eo35⟩ := Kd.R_slice HO105.out; subst eo35; obtain ⟨Ao36, co36, eo36⟩ := Kd.R_slice HO108.out; subst eo36) | (go_at_call 18; (with_reducible refine (remoralaw13_texts.calls k _ _ t103 _ _ t106 true _ ?side1 ?side2 ?side3 ?side4 A7.out).mono ?_); (case side1 => repeat (first | exact (Kd.R_reads' HO105.out).2.2 | (with_reducible refine Kd.C_alloc ?_ _) | (with_reducible refine Kd.C_drewN ?_ _) | (with_reducible refine Kd.C_drew ?_))); (case side2 => exact (Kd.R_reads' HO105.out).2.1); (case side3 => repeat (first | exact (Kd.R_reads' HO108.out).2.2 | (with_reducible refine Kd.C_alloc ?_ _) | (with_reducible refine Kd.C_drewN ?_ _) | (with_reducible refine Kd.C_drew ?_))); (case side4 => exact (Kd.R_reads' HO108.out).2.1); rintro e w' ⟨rfl, ⟨nd, rfl⟩⟩) | (go_at_call 30; (with_reducible refine (path_Base.calls k a0 t110 _ A9.out).mono ?_); rintro e w' ⟨rfl, ⟨nd, rfl⟩⟩) | (go_at_call 31; (with_reducible refine (remoraref13_Base.calls k a0 t111 _ A10.out).mono ?_); rintro e w37 ⟨rfl, hb⟩; have n0_ := Aside0.mk (Kd.R_below (by (with_reducible repeat (first | apply Kd.R_alloc | apply Kd.R_drewN | apply Kd.R_drew)); exact HO105.out) hb); have n1_ := Aside0.mk (Kd.R_below (by (with_reducible repeat (first | apply Kd.R_alloc | apply Kd.R_drewN | apply Kd.R_drew)); exact HO108.out) hb); have n2_ := Aside0.mk (below_step (by repeat (first | (with_reducible first | exact HB.out | apply below_alloc | apply pw_below_drewN | apply below_drew1) | exact HB.out)) hb); clear HO105; clear HO108; clear HB; have HO105 := n0_; have HO108 := n1_; have HB := n2_; clear n0_ n1_ n2_; (try clear hb); (try clear hb2); (try clear hk); (try clear hi)) | (go_at_call 32; (with_reducible refine (path_Parent.calls k a0 t112 _ A12.out).mono ?_); rintro e w38 ⟨rfl, hb⟩; have n0_ := Aside0.mk (Kd.R_below (by (with_reducible repeat (first | apply Kd.R_alloc | apply Kd.R_drewN | apply Kd.R_drew)); exact HO105.out) hb); have n1_ := Aside0.mk (Kd.R_below (by (with_reducible repeat (first | apply Kd.R_alloc | apply Kd.R_drewN | apply Kd.R_drew)); exact HO108.out) hb); have n2_ := Aside0.mk (below_step (by repeat (first | (with_reducible first | exact HB.out | apply below_alloc | apply pw_below_drewN | apply below_drew1) | exact HB.out)) hb); clear HO105; clear HO108; clear HB; have HO105 := n0_; have HO108 := n1_; have HB := n2_; clear n0_ n1_ n2_; (try clear hb); (try clear hb2); (try clear hk); (try clear hi)) | (go_at_call 33; (with_reducible refine (remoraref13_Parent.calls k a0 t113 _ A13.out).mono ?_); rintro e w39 ⟨rfl, hb⟩; have n0_ := Aside0.mk (Kd.R_below (by (with_reducible repeat (first | apply Kd.R_alloc | apply Kd.R_drewN | apply Kd.R_drew)); exact HO105.out) hb); have n1_ := Aside0.mk (Kd.R_below (by (with_reducible repeat (first | apply Kd.R_alloc | apply Kd.R_drewN | apply Kd.R_drew)); exact HO108.out) hb); have n2_ := Aside0.mk (below_step (by repeat (first | (with_reducible first | exact HB.out | apply below_alloc | apply pw_below_drewN | apply below_drew1) | exact HB.out)) hb); clear HO105; clear HO108; clear HB; have HO105 := n0_; have HO108 := n1_; have HB := n2_; clear n0_ n1_ n2_; (try clear hb); (try clear hb2); (try clear hk); (try clear hi)) | (go_at_call 19; (with_reducible refine (path_Depth.calls a0 t114 _ A15.out).mono ?_); rintro e w40 ⟨rfl, hb⟩; have n0_ := Aside0.mk (Kd.R_below (by (with_reducible repeat (first | apply Kd.R_alloc | apply Kd.R_drewN | apply Kd.R_drew)); exact HO105.out) hb); have n1_ := Aside0.mk (Kd.R_below (by (with_reducible repeat (first | apply Kd.R_alloc | apply Kd.R_drewN | apply Kd.R_drew)); exact HO108.out) hb); have n2_ := Aside0.mk (below_step (by repeat (first | (with_reducible first | exact HB.out | apply below_alloc | apply pw_below_drewN | apply below_drew1) | exact HB.out)) hb); clear HO105; clear HO108; clear HB; have HO105 := n0_; have HO108 := n1_; have HB := n2_; clear n0_ n1_ n2_; (try clear hb); (try clear hb2); (try clear hk); (try clear hi)) | (go_at_call 34; (with_reducible refine (remoraref13_Depth.calls k a0 t115 _ A16.out).mono ?_); rintro e w41 ⟨rfl, hb⟩; have n0_ := Aside0.mk (Kd.R_below (by (with_reducible repeat (first | apply Kd.R_alloc | apply Kd.R_drewN | apply Kd.R_drew)); exact HO105.out) hb); have n1_ := Aside0.mk (Kd.R_below (by (with_reducible repeat (first | apply Kd.R_alloc | apply Kd.R_drewN | apply Kd.R_drew)); exact HO108.out) hb); have n2_ := Aside0.mk (below_step (by repeat (first | (with_reducible first | exact HB.out | apply below_alloc | apply pw_below_drewN | apply below_drew1) | exact HB.out)) hb); clear HO105; clear HO108; clear HB; have HO105 := n0_; have HO108 := n1_; have HB := n2_; clear n0_ n1_ n2_; (try clear hb); (try clear hb2); (try clear hk); (try clear hi)))
            go_ret
            exact ⟨by first | rfl | (simp [errW_none, errW_some] <;> rfl) | (simp [*, errW_none, errW_some] <;> rfl), by repeat (first | (with_reducible first | exact HB.out | apply below_alloc | apply pw_below_drewN | apply below_drew1) | exact HB.out)⟩
        · rw [if_neg c14] at H
          have c14b0 : (t112.toList == t113.toList) = false := beq_eq_false_iff_ne.mpr c14
          have c14b1 : (t112.toList != t113.toList) = true := bne_iff_ne.mpr c14
          obtain rfl := Option.some.inj H
          go_enter Try.func7, Try.ntmps7
          go_wp2_with (first | ((with_reducible refine gate_callee (f := 16) rfl ?_); refine goesL_ (some 4) rfl rfl Try.func16 (by kernel_rfl) rfl #[.string a0] rfl (by (try simp only [List.map_toArray, List.map_cons, List.map_nil]); first | done | rfl | (simp only [List.length_drop, List.length_take]; rfl)) ?_; (with_reducible refine (path_Right.calls k a0 t101 _ A2.out).mono ?_); rintro e w42 ⟨rfl, hb⟩; refine ⟨_, rfl, ?_⟩; have n0_ := Aside0.mk (below_step (by repeat (first | (with_reducible first | exact HB.out | apply below_alloc | apply pw_below_drewN | apply below_drew1) | exact HB.out)) hb); clear HB; have HB := n0_; clear n0_; (try clear hb); (try clear hb2); (try clear hk); (try clear hi)) | ((with_reducible refine gate_callee (f := 28) rfl ?_); refine goesL_ (some 6) rfl rfl Try.func28 (by kernel_rfl) rfl #[.string a0] rfl (by (try simp only [List.map_toArray, List.map_cons, List.map_nil]); first | done | rfl | (simp only [List.length_drop, List.length_take]; rfl)) ?_; (with_reducible refine (remoraref13_Right.calls k a0 t102 _ A3.out).mono ?_); rintro e w43 ⟨rfl, hb⟩; refine ⟨_, rfl, ?_⟩; have n0_ := Aside0.mk (below_step (by repeat (first | (with_reducible first | exact HB.out | apply below_alloc | apply pw_below_drewN | apply below_drew1) | exact HB.out)) hb); clear HB; have HB := n0_; clear n0_; (try clear hb); (try clear hb2); (try clear hk); (try clear hi)) | (go_at_call 17; (with_reducible refine (path_Split.calls a0 t103 _ A5.out).mono ?_); rintro e w44 ⟨v104, rfl, ho0, hb⟩; have n0_ := Aside0.mk (Kd.R_lower ho0 (below_size (by repeat (first | (with_reducible first | exact HB.out | apply below_alloc | apply pw_below_drewN | apply below_drew1) | exact HB.out)))); have n1_ := Aside0.mk (below_step (by repeat (first | (with_reducible first | exact HB.out | apply below_alloc | apply pw_below_drewN | apply below_drew1) | exact HB.out)) hb); clear HB; have HO105 := n0_; have HB := n1_; clear n0_ n1_; (try clear hb); (try clear hb2); (try clear hk); (try clear hi); (try clear ho0)) | (go_at_call 29; (with_reducible refine (remoraref13_Split.calls k a0 t106 _ A6.out).mono ?_); rintro e w45 ⟨v107, rfl, ho0, hb⟩; have n0_ := Aside0.mk (Kd.R_elder' (by (with_reducible repeat (first | apply Kd.R_alloc | apply Kd.R_drewN | apply Kd.R_drew)); exact HO105.out) (Kd.R_base ho0) hb); have n1_ := Aside0.mk (Kd.R_lower (Kd.R_new' ho0 (Kd.R_lt (by (with_reducible repeat (first | apply Kd.R_alloc | apply Kd.R_drewN | apply Kd.R_drew)); exact HO105.out))) (below_size (by repeat (first | (with_reducible first | exact HB.out | apply below_alloc | apply pw_below_drewN | apply below_drew1) | exact HB.out)))); have n2_ := Aside0.mk (below_step (by repeat (first | (with_reducible first | exact HB.out | apply below_alloc | apply pw_below_drewN | apply below_drew1) | exact HB.out)) hb); clear HO105; clear HB; have HO105 := n0_; have HO108 := n1_; have HB := n2_; clear n0_ n1_ n2_; (try clear hb); (try clear hb2); (try clear hk); (try clear hi); (try clear ho0); obtain ⟨Ao46, co46, eo46⟩ := Kd.R_slice HO105.out; subst eo46; obtain ⟨Ao47, co47, eo47⟩ := Kd.R_slice HO108.out; subst eo47) | (go_at_call 18; (with_reducible refine (remoralaw13_texts.calls k _ _ t103 _ _ t106 true _ ?side1 ?side2 ?side3 ?side4 A7.out).mono ?_); (case side1 => repeat (first | exact (Kd.R_reads' HO105.out).2.2 | (with_reducible refine Kd.C_alloc ?_ _) | (with_reducible refine Kd.C_drewN ?_ _) | (with_reducible refine Kd.C_drew ?_))); (case side2 => exact (Kd.R_reads' HO105.out).2.1); (case side3 => repeat (first | exact (Kd.R_reads' HO108.out).2.2 | (with_reducible refine Kd.C_alloc ?_ _) | (with_reducible refine Kd.C_drewN ?_ _) | (with_reducible refine Kd.C_drew ?_))); (case side4 => exact (Kd.R_reads' HO108.out).2.1); rintro e w' ⟨rfl, ⟨nd, rfl⟩⟩) | (go_at_call 30; (with_reducible refine (path_Base.calls k a0 t110 _ A9.out).mono ?_); rintro e w' ⟨rfl, ⟨nd, rfl⟩⟩) | (go_at_call 31; (with_reducible refine (remoraref13_Base.calls k a0 t111 _ A10.out).mono ?_); rintro e w48 ⟨rfl, hb⟩; have n0_ := Aside0.mk (Kd.R_below (by (with_reducible repeat (first | apply Kd.R_alloc | apply Kd.R_drewN | apply Kd.R_drew)); exact HO105.out) hb); have n1_ := Aside0.mk (Kd.R_below (by (with_reducible repeat (first | apply Kd.R_alloc | apply Kd.R_drewN | apply Kd.R_drew)); exact HO108.out) hb); have n2_ := Aside0.mk (below_step (by repeat (first | (with_reducible first | exact HB.out | apply below_alloc | apply pw_below_drewN | apply below_drew1) | exact HB.out)) hb); clear HO105; clear HO108; clear HB; have HO105 := n0_; have HO108 := n1_; have HB := n2_; clear n0_ n1_ n2_; (try clear hb); (try clear hb2); (try clear hk); (try clear hi)) | (go_at_call 32; (with_reducible refine (path_Parent.calls k a0 t112 _ A12.out).mono ?_); rintro e w49 ⟨rfl, hb⟩; have n0_ := Aside0.mk (Kd.R_below (by (with_reducible repeat (first | apply Kd.R_alloc | apply Kd.R_drewN | apply Kd.R_drew)); exact HO105.out) hb); have n1_ := Aside0.mk (Kd.R_below (by (with_reducible repeat (first | apply Kd.R_alloc | apply Kd.R_drewN | apply Kd.R_drew)); exact HO108.out) hb); have n2_ := Aside0.mk (below_step (by repeat (first | (with_reducible first | exact HB.out | apply below_alloc | apply pw_below_drewN | apply below_drew1) | exact HB.out)) hb); clear HO105; clear HO108; clear HB; have HO105 := n0_; have HO108 := n1_; have HB := n2_; clear n0_ n1_ n2_; (try clear hb); (try clear hb2); (try clear hk); (try clear hi)) | (go_at_call 33; (with_reducible refine (remoraref13_Parent.calls k a0 t113 _ A13.out).mono ?_); rintro e w50 ⟨rfl, hb⟩; have n0_ := Aside0.mk (Kd.R_below (by (with_reducible repeat (first | apply Kd.R_alloc | apply Kd.R_drewN | apply Kd.R_drew)); exact HO105.out) hb); have n1_ := Aside0.mk (Kd.R_below (by (with_reducible repeat (first | apply Kd.R_alloc | apply Kd.R_drewN | apply Kd.R_drew)); exact HO108.out) hb); have n2_ := Aside0.mk (below_step (by repeat (first | (with_reducible first | exact HB.out | apply below_alloc | apply pw_below_drewN | apply below_drew1) | exact HB.out)) hb); clear HO105; clear HO108; clear HB; have HO105 := n0_; have HO108 := n1_; have HB := n2_; clear n0_ n1_ n2_; (try clear hb); (try clear hb2); (try clear hk); (try clear hi)))
          go_ret
          exact ⟨by first | rfl | (simp [errW_none, errW_some] <;> rfl) | (simp [*, errW_none, errW_some] <;> rfl), by repeat (first | (with_reducible first | exact HB.out | apply below_alloc | apply pw_below_drewN | apply below_drew1) | exact HB.out)⟩
      · rw [if_neg c11] at H
        have c11b0 : (t110.toList == t111.toList) = false := beq_eq_false_iff_ne.mpr c11
        have c11b1 : (t110.toList != t111.toList) = true := bne_iff_ne.mpr c11
        obtain rfl := Option.some.inj H
        go_enter Try.func7, Try.ntmps7
        go_wp2_with (first | ((with_reducible refine gate_callee (f := 16) rfl ?_); refine goesL_ (some 4) rfl rfl Try.func16 (by kernel_rfl) rfl #[.string a0] rfl (by (try simp only [List.map_toArray, List.map_cons, List.map_nil]); first | done | rfl | (simp only [List.length_drop, List.length_take]; rfl)) ?_; (with_reducible refine (path_Right.calls k a0 t101 _ A2.out).mono ?_); rintro e w51 ⟨rfl, hb⟩; refine ⟨_, rfl, ?_⟩; have n0_ := Aside0.mk (below_step (by repeat (first | (with_reducible first | exact HB.out | apply below_alloc | apply pw_below_drewN | apply below_drew1) | exact HB.out)) hb); clear HB; have HB := n0_; clear n0_; (try clear hb); (try clear hb2); (try clear hk); (try clear hi)) | ((with_reducible refine gate_callee (f := 28) rfl ?_); refine goesL_ (some 6) rfl rfl Try.func28 (by kernel_rfl) rfl #[.string a0] rfl (by (try simp only [List.map_toArray, List.map_cons, List.map_nil]); first | done | rfl | (simp only [List.length_drop, List.length_take]; rfl)) ?_; (with_reducible refine (remoraref13_Right.calls k a0 t102 _ A3.out).mono ?_); rintro e w52 ⟨rfl, hb⟩; refine ⟨_, rfl, ?_⟩; have n0_ := Aside0.mk (below_step (by repeat (first | (with_reducible first | exact HB.out | apply below_alloc | apply pw_below_drewN | apply below_drew1) | exact HB.out)) hb); clear HB; have HB := n0_; clear n0_; (try clear hb); (try clear hb2); (try clear hk); (try clear hi)) | (go_at_call 17; (with_reducible refine (path_Split.calls a0 t103 _ A5.out).mono ?_); rintro e w53 ⟨v104, rfl, ho0, hb⟩; have n0_ := Aside0.mk (Kd.R_lower ho0 (below_size (by repeat (first | (with_reducible first | exact HB.out | apply below_alloc | apply pw_below_drewN | apply below_drew1) | exact HB.out)))); have n1_ := Aside0.mk (below_step (by repeat (first | (with_reducible first | exact HB.out | apply below_alloc | apply pw_below_drewN | apply below_drew1) | exact HB.out)) hb); clear HB; have HO105 := n0_; have HB := n1_; clear n0_ n1_; (try clear hb); (try clear hb2); (try clear hk); (try clear hi); (try clear ho0)) | (go_at_call 29; (with_reducible refine (remoraref13_Split.calls k a0 t106 _ A6.out).mono ?_); rintro e w54 ⟨v107, rfl, ho0, hb⟩; have n0_ := Aside0.mk (Kd.R_elder' (by (with_reducible repeat (first | apply Kd.R_alloc | apply Kd.R_drewN | apply Kd.R_drew)); exact HO105.out) (Kd.R_base ho0) hb); have n1_ := Aside0.mk (Kd.R_lower (Kd.R_new' ho0 (Kd.R_lt (by (with_reducible repeat (first | apply Kd.R_alloc | apply Kd.R_drewN | apply Kd.R_drew)); exact HO105.out))) (below_size (by repeat (first | (with_reducible first | exact HB.out | apply below_alloc | apply pw_below_drewN | apply below_drew1) | exact HB.out)))); have n2_ := Aside0.mk (below_step (by repeat (first | (with_reducible first | exact HB.out | apply below_alloc | apply pw_below_drewN | apply below_drew1) | exact HB.out)) hb); clear HO105; clear HB; have HO105 := n0_; have HO108 := n1_; have HB := n2_; clear n0_ n1_ n2_; (try clear hb); (try clear hb2); (try clear hk); (try clear hi); (try clear ho0); obtain ⟨Ao55, co55, eo55⟩ := Kd.R_slice HO105.out; subst eo55; obtain ⟨Ao56, co56, eo56⟩ := Kd.R_slice HO108.out; subst eo56) | (go_at_call 18; (with_reducible refine (remoralaw13_texts.calls k _ _ t103 _ _ t106 true _ ?side1 ?side2 ?side3 ?side4 A7.out).mono ?_); (case side1 => repeat (first | exact (Kd.R_reads' HO105.out).2.2 | (with_reducible refine Kd.C_alloc ?_ _) | (with_reducible refine Kd.C_drewN ?_ _) | (with_reducible refine Kd.C_drew ?_))); (case side2 => exact (Kd.R_reads' HO105.out).2.1); (case side3 => repeat (first | exact (Kd.R_reads' HO108.out).2.2 | (with_reducible refine Kd.C_alloc ?_ _) | (with_reducible refine Kd.C_drewN ?_ _) | (with_reducible refine Kd.C_drew ?_))); (case side4 => exact (Kd.R_reads' HO108.out).2.1); rintro e w' ⟨rfl, ⟨nd, rfl⟩⟩) | (go_at_call 30; (with_reducible refine (path_Base.calls k a0 t110 _ A9.out).mono ?_); rintro e w' ⟨rfl, ⟨nd, rfl⟩⟩) | (go_at_call 31; (with_reducible refine (remoraref13_Base.calls k a0 t111 _ A10.out).mono ?_); rintro e w57 ⟨rfl, hb⟩; have n0_ := Aside0.mk (Kd.R_below (by (with_reducible repeat (first | apply Kd.R_alloc | apply Kd.R_drewN | apply Kd.R_drew)); exact HO105.out) hb); have n1_ := Aside0.mk (Kd.R_below (by (with_reducible repeat (first | apply Kd.R_alloc | apply Kd.R_drewN | apply Kd.R_drew)); exact HO108.out) hb); have n2_ := Aside0.mk (below_step (by repeat (first | (with_reducible first | exact HB.out | apply below_alloc | apply pw_below_drewN | apply below_drew1) | exact HB.out)) hb); clear HO105; clear HO108; clear HB; have HO105 := n0_; have HO108 := n1_; have HB := n2_; clear n0_ n1_ n2_; (try clear hb); (try clear hb2); (try clear hk); (try clear hi)))
        go_ret
        exact ⟨by first | rfl | (simp [errW_none, errW_some] <;> rfl) | (simp [*, errW_none, errW_some] <;> rfl), by repeat (first | (with_reducible first | exact HB.out | apply below_alloc | apply pw_below_drewN | apply below_drew1) | exact HB.out)⟩
    · replace c8 := Bool.eq_false_iff.mpr c8
      subst c8
      have H1 : (some false) = some r := by rw [if_neg (show ¬ (false = true) by decide)] at H; exact H
      clear H
      have H := H1
      clear H1
      obtain rfl := Option.some.inj H
      go_enter Try.func7, Try.ntmps7
      go_wp2_with (first | ((with_reducible refine gate_callee (f := 16) rfl ?_); refine goesL_ (some 4) rfl rfl Try.func16 (by kernel_rfl) rfl #[.string a0] rfl (by (try simp only [List.map_toArray, List.map_cons, List.map_nil]); first | done | rfl | (simp only [List.length_drop, List.length_take]; rfl)) ?_; (with_reducible refine (path_Right.calls k a0 t101 _ A2.out).mono ?_); rintro e w58 ⟨rfl, hb⟩; refine ⟨_, rfl, ?_⟩; have n0_ := Aside0.mk (below_step (by repeat (first | (with_reducible first | exact HB.out | apply below_alloc | apply pw_below_drewN | apply below_drew1) | exact HB.out)) hb); clear HB; have HB := n0_; clear n0_; (try clear hb); (try clear hb2); (try clear hk); (try clear hi)) | ((with_reducible refine gate_callee (f := 28) rfl ?_); refine goesL_ (some 6) rfl rfl Try.func28 (by kernel_rfl) rfl #[.string a0] rfl (by (try simp only [List.map_toArray, List.map_cons, List.map_nil]); first | done | rfl | (simp only [List.length_drop, List.length_take]; rfl)) ?_; (with_reducible refine (remoraref13_Right.calls k a0 t102 _ A3.out).mono ?_); rintro e w59 ⟨rfl, hb⟩; refine ⟨_, rfl, ?_⟩; have n0_ := Aside0.mk (below_step (by repeat (first | (with_reducible first | exact HB.out | apply below_alloc | apply pw_below_drewN | apply below_drew1) | exact HB.out)) hb); clear HB; have HB := n0_; clear n0_; (try clear hb); (try clear hb2); (try clear hk); (try clear hi)) | (go_at_call 17; (with_reducible refine (path_Split.calls a0 t103 _ A5.out).mono ?_); rintro e w60 ⟨v104, rfl, ho0, hb⟩; have n0_ := Aside0.mk (Kd.R_lower ho0 (below_size (by repeat (first | (with_reducible first | exact HB.out | apply below_alloc | apply pw_below_drewN | apply below_drew1) | exact HB.out)))); have n1_ := Aside0.mk (below_step (by repeat (first | (with_reducible first | exact HB.out | apply below_alloc | apply pw_below_drewN | apply below_drew1) | exact HB.out)) hb); clear HB; have HO105 := n0_; have HB := n1_; clear n0_ n1_; (try clear hb); (try clear hb2); (try clear hk); (try clear hi); (try clear ho0)) | (go_at_call 29; (with_reducible refine (remoraref13_Split.calls k a0 t106 _ A6.out).mono ?_); rintro e w61 ⟨v107, rfl, ho0, hb⟩; have n0_ := Aside0.mk (Kd.R_elder' (by (with_reducible repeat (first | apply Kd.R_alloc | apply Kd.R_drewN | apply Kd.R_drew)); exact HO105.out) (Kd.R_base ho0) hb); have n1_ := Aside0.mk (Kd.R_lower (Kd.R_new' ho0 (Kd.R_lt (by (with_reducible repeat (first | apply Kd.R_alloc | apply Kd.R_drewN | apply Kd.R_drew)); exact HO105.out))) (below_size (by repeat (first | (with_reducible first | exact HB.out | apply below_alloc | apply pw_below_drewN | apply below_drew1) | exact HB.out)))); have n2_ := Aside0.mk (below_step (by repeat (first | (with_reducible first | exact HB.out | apply below_alloc | apply pw_below_drewN | apply below_drew1) | exact HB.out)) hb); clear HO105; clear HB; have HO105 := n0_; have HO108 := n1_; have HB := n2_; clear n0_ n1_ n2_; (try clear hb); (try clear hb2); (try clear hk); (try clear hi); (try clear ho0); obtain ⟨Ao62, co62, eo62⟩ := Kd.R_slice HO105.out; subst eo62; obtain ⟨Ao63, co63, eo63⟩ := Kd.R_slice HO108.out; subst eo63) | (go_at_call 18; (with_reducible refine (remoralaw13_texts.calls k _ _ t103 _ _ t106 false _ ?side1 ?side2 ?side3 ?side4 A7.out).mono ?_); (case side1 => repeat (first | exact (Kd.R_reads' HO105.out).2.2 | (with_reducible refine Kd.C_alloc ?_ _) | (with_reducible refine Kd.C_drewN ?_ _) | (with_reducible refine Kd.C_drew ?_))); (case side2 => exact (Kd.R_reads' HO105.out).2.1); (case side3 => repeat (first | exact (Kd.R_reads' HO108.out).2.2 | (with_reducible refine Kd.C_alloc ?_ _) | (with_reducible refine Kd.C_drewN ?_ _) | (with_reducible refine Kd.C_drew ?_))); (case side4 => exact (Kd.R_reads' HO108.out).2.1); rintro e w' ⟨rfl, ⟨nd, rfl⟩⟩))
      go_ret
      exact ⟨by first | rfl | (simp [errW_none, errW_some] <;> rfl) | (simp [*, errW_none, errW_some] <;> rfl), by repeat (first | (with_reducible first | exact HB.out | apply below_alloc | apply pw_below_drewN | apply below_drew1) | exact HB.out)⟩
  · rw [if_neg c4] at H
    have c4b0 : (t101 == t102) = false := by simpa using c4
    (try (have c4b1 : decide (t101 = t102) = false := by simpa using c4))
    (try (have c4b2 : (t101 == t102) = false := by simpa using c4))
    (try (have c4b3 : ¬ (t101 = t102) := by simpa using c4))
    clear c4
    obtain rfl := Option.some.inj H
    go_enter Try.func7, Try.ntmps7
    go_wp2_with (first | ((with_reducible refine gate_callee (f := 16) rfl ?_); refine goesL_ (some 4) rfl rfl Try.func16 (by kernel_rfl) rfl #[.string a0] rfl (by (try simp only [List.map_toArray, List.map_cons, List.map_nil]); first | done | rfl | (simp only [List.length_drop, List.length_take]; rfl)) ?_; (with_reducible refine (path_Right.calls k a0 t101 _ A2.out).mono ?_); rintro e w64 ⟨rfl, hb⟩; refine ⟨_, rfl, ?_⟩; have n0_ := Aside0.mk (below_step (by repeat (first | (with_reducible first | exact HB.out | apply below_alloc | apply pw_below_drewN | apply below_drew1) | exact HB.out)) hb); clear HB; have HB := n0_; clear n0_; (try clear hb); (try clear hb2); (try clear hk); (try clear hi)) | ((with_reducible refine gate_callee (f := 28) rfl ?_); refine goesL_ (some 6) rfl rfl Try.func28 (by kernel_rfl) rfl #[.string a0] rfl (by (try simp only [List.map_toArray, List.map_cons, List.map_nil]); first | done | rfl | (simp only [List.length_drop, List.length_take]; rfl)) ?_; (with_reducible refine (remoraref13_Right.calls k a0 t102 _ A3.out).mono ?_); rintro e w65 ⟨rfl, hb⟩; refine ⟨_, rfl, ?_⟩; have n0_ := Aside0.mk (below_step (by repeat (first | (with_reducible first | exact HB.out | apply below_alloc | apply pw_below_drewN | apply below_drew1) | exact HB.out)) hb); clear HB; have HB := n0_; clear n0_; (try clear hb); (try clear hb2); (try clear hk); (try clear hi)))
    go_ret
    exact ⟨by first | rfl | (simp [errW_none, errW_some] <;> rfl) | (simp [*, errW_none, errW_some] <;> rfl), by repeat (first | (with_reducible first | exact HB.out | apply below_alloc | apply pw_below_drewN | apply below_drew1) | exact HB.out)⟩

/-- THE ONE PURE STATEMENT of remoralaw13_PathParts: yours. -/
def remoralaw13_PathParts.Pure : Prop := ∀ (a0 : ByteArray), a0.size ≤ 140737488351232 → ∃ k, remoralaw13_PathParts.f k a0 = some true
theorem remoralaw13_PathParts.walk (P : remoralaw13_PathParts.Pure) (a0 : ByteArray) (w : World) (w0 : a0.size ≤ 140737488351232) :
    Calls Try.prog 7 #[.string a0] w fun e w' => e = .returned (.bool true) ∧ Below w.heap.size w w' := by
  obtain ⟨k, h⟩ := P a0 w0
  refine (remoralaw13_PathParts.calls k a0 true w h).mono ?_
  rintro e w' ⟨rfl, hd⟩
  exact ⟨rfl, hd⟩

end Go.Proofs.Ytdomeeaaidjmpaa.PA
/-! ### YtdomeeaaidjmpaaXMayPure -/
namespace Go.Proofs.Ytdomeeaaidjmpaa.PA
open Go.RowKit Go.Proofs.YtdomeeaaidjmpaaW.PrintWords Go.Proofs.YtdomeeaaidjmpaaW.PrintLast Go.Proofs.YtdomeeaaidjmpaaW.PrintMore
attribute [local go_sem] max2_int min2_int max_two min_two max_three min_three max_four min_four
set_option linter.unusedVariables false
set_option linter.unusedSimpArgs false
def partB (s : ByteArray) : Bool := !(s.toList == []) && decide ((s.size : Int) ≤ 48) && !(s.toList == [46]) && !(s.toList == [46, 46]) && decide (Lib.indexByte s.data.toList 0 < 0)
theorem part_f (s : ByteArray) : path_part.f s = some (partB s) := by
  unfold path_part.f partB
  by_cases h1 : s.toList = ([] : List UInt8)
  · rw [if_pos h1, beq_iff_eq.mpr h1]
    rfl
  · rw [if_neg h1, beq_eq_false_iff_ne.mpr h1]
    by_cases h2 : (s.size : Int) ≤ 48
    · rw [if_pos h2, decide_eq_true h2]
      by_cases h3 : s.toList = ([46] : List UInt8)
      · rw [if_pos h3, beq_iff_eq.mpr h3]
        rfl
      · rw [if_neg h3, beq_eq_false_iff_ne.mpr h3]
        by_cases h4 : s.toList = ([46, 46] : List UInt8)
        · rw [if_pos h4, beq_iff_eq.mpr h4]
          rfl
        · rw [if_neg h4, beq_eq_false_iff_ne.mpr h4]
          rfl
    · rw [if_neg h2, decide_eq_false h2]
      rfl
def rightB (p : ByteArray) : Bool := (splitL p).all partB && decide (((splitL p).length : Int) ≤ 12) && decide ((p.size : Int) ≤ 200)
theorem right_l (p : ByteArray) (l : List ByteArray) (hl : l.length < 9223372036854775807) : ∀ k j : Nat, j ≤ l.length → l.length - j < k → path_Right.l0 k p l l (l.length : Int) (j : Int) = some ((l.drop j).all partB && decide ((l.length : Int) ≤ 12) && decide ((p.size : Int) ≤ 200))
  | 0, j, _, h => by omega
  | k + 1, j, hj, h => by
    unfold path_Right.l0
    by_cases hlt : j < l.length
    · rw [if_pos (show (j : Int) < (l.length : Int) by omega), if_pos (show 0 ≤ (j : Int) by omega), if_pos (show (j : Int) < (l.length : Int) by omega), part_f]
      have e : rdOf ByteArray.empty l (j : Int) = l[j]'hlt := by
        simp [rdOf, hlt]
      rw [e, List.drop_eq_getElem_cons hlt]
      show (if partB (l[j]'hlt) = true then _ else _) = _
      cases hp : partB (l[j]'hlt) with
      | true =>
        rw [if_pos rfl, wr64 _ (by omega) (by omega)]
        have ih := right_l p l hl k (j + 1) (by omega) (by omega)
        rw [show ((j : Int) + 1) = ((j + 1 : Nat) : Int) by omega, ih, List.all_cons, hp, Bool.true_and]
      | false =>
        rw [if_neg (by decide), List.all_cons, hp]
        rfl
    · have hje : j = l.length := by omega
      rw [if_neg (show ¬ (j : Int) < (l.length : Int) by omega), hje, List.drop_length]
      by_cases h12 : (l.length : Int) ≤ 12
      · rw [if_pos h12, decide_eq_true h12]
        rfl
      · rw [if_neg h12, decide_eq_false h12]
        rfl
theorem splitL_len (s : ByteArray) : (splitL s).length ≤ s.size + 1 := by
  have := splitTo_len s s.size
  unfold splitL
  split
  · exact Nat.zero_le _
  · simp
    omega
theorem right_f (p : ByteArray) (hs : p.size < 4398046511104) (k : Nat) (hk : p.size + 1 < k) : path_Right.f k p = some (rightB p) := by
  unfold path_Right.f path_Split.f
  rw [if_pos hs]
  have h := splitL_len p
  show path_Right.l0 k p (splitL p) (splitL p) ((splitL p).length : Int) 0 = _
  exact right_l p (splitL p) (by omega) k 0 (by omega) (by omega)
end Go.Proofs.Ytdomeeaaidjmpaa.PA
/-! ### YtdomeeaaidjmpaaXSpl -/
namespace Go.Proofs.Ytdomeeaaidjmpaa.PA
open Go.RowKit Go.Proofs.YtdomeeaaidjmpaaW.PrintWords Go.Proofs.YtdomeeaaidjmpaaW.PrintLast Go.Proofs.YtdomeeaaidjmpaaW.PrintMore
attribute [local go_sem] max2_int min2_int max_two min_two max_three min_three max_four min_four
set_option linter.unusedVariables false
set_option linter.unusedSimpArgs false
def spl : List UInt8 → List (List UInt8)
  | [] => [[]]
  | x :: t => if x = 47 then [] :: spl t else match spl t with
    | [] => [[x]]
    | h :: r => (x :: h) :: r
theorem spl_ne : ∀ s, spl s ≠ []
  | [] => by simp [spl]
  | x :: t => by
    rw [spl]
    split
    · simp
    · split <;> simp
theorem spl_cons (x : UInt8) (t : List UInt8) (h : x ≠ 47) : ∃ a r, spl t = a :: r ∧ spl (x :: t) = (x :: a) :: r := by
  cases hs : spl t with
  | nil => exact absurd hs (spl_ne t)
  | cons a r =>
    refine ⟨a, r, rfl, ?_⟩
    rw [spl, if_neg h, hs]
theorem spl_snoc47 : ∀ s, spl (s ++ [47]) = spl s ++ [[]]
  | [] => rfl
  | x :: t => by
    by_cases h : x = 47
    · rw [List.cons_append, spl, if_pos h, spl, if_pos h, spl_snoc47 t, List.cons_append]
    · obtain ⟨a, r, e1, e2⟩ := spl_cons x t h
      obtain ⟨a', r', e3, e4⟩ := spl_cons x (t ++ [47]) h
      rw [spl_snoc47 t, e1, List.cons_append] at e3
      rw [List.cons_append, e4, e2]
      have e5 := List.cons.inj e3
      rw [← e5.1, ← e5.2, List.cons_append]
theorem spl_snoc (c : UInt8) (hc : c ≠ 47) : ∀ (s : List UInt8) (L : List (List UInt8)) (x : List UInt8), spl s = L ++ [x] → spl (s ++ [c]) = L ++ [x ++ [c]]
  | [], L, x, h => by
    cases L with
    | nil =>
      have hx := (List.cons.inj (show ([[]] : List (List UInt8)) = [x] from h)).1
      rw [← hx]
      simp [spl, hc]
    | cons a r =>
      have h1 := (List.cons.inj (show ([[]] : List (List UInt8)) = a :: (r ++ [x]) from h)).2
      simp at h1
  | y :: t, L, x, h => by
    by_cases hy : y = 47
    · rw [spl, if_pos hy] at h
      cases L with
      | nil =>
        have h1 := (List.cons.inj (show [] :: spl t = [x] from h)).2
        exact absurd h1 (spl_ne t)
      | cons a r =>
        have h1 := List.cons.inj (show [] :: spl t = a :: (r ++ [x]) from h)
        rw [List.cons_append, spl, if_pos hy, spl_snoc c hc t r x h1.2, h1.1]
        rfl
    · obtain ⟨a, r, e1, e2⟩ := spl_cons y t hy
      rw [e2] at h
      cases L with
      | nil =>
        have h1 := List.cons.inj (show (y :: a) :: r = [x] from h)
        have h2 := spl_snoc c hc t [] a (by rw [e1, h1.2]; rfl)
        obtain ⟨a', r', e3, e4⟩ := spl_cons y (t ++ [c]) hy
        rw [h2] at e3
        have h3 := List.cons.inj (show [a ++ [c]] = a' :: r' from e3)
        rw [List.cons_append, e4, ← h3.1, ← h3.2, ← h1.1]
        rfl
      | cons b q =>
        have h1 := List.cons.inj (show (y :: a) :: r = b :: (q ++ [x]) from h)
        have h2 := spl_snoc c hc t (a :: q) x (by rw [e1, h1.2]; rfl)
        obtain ⟨a', r', e3, e4⟩ := spl_cons y (t ++ [c]) hy
        rw [h2] at e3
        have h3 := List.cons.inj (show a :: (q ++ [x ++ [c]]) = a' :: r' from e3)
        rw [List.cons_append, e4, ← h3.1, ← h3.2, ← h1.1]
        rfl
theorem join_two (x y : List UInt8) (r : List (List UInt8)) : Lib.join (x :: y :: r) [47] = x ++ 47 :: Lib.join (y :: r) [47] := by
  rw [Lib.join_cons, Lib.join_cons]
  simp [Lib.joinTail]
theorem join_spl : ∀ s, Lib.join (spl s) [47] = s
  | [] => rfl
  | x :: t => by
    have ih := join_spl t
    by_cases h : x = 47
    · rw [spl, if_pos h]
      cases hs : spl t with
      | nil => exact absurd hs (spl_ne t)
      | cons a r => rw [join_two, ← hs, ih, h]; rfl
    · obtain ⟨a, r, e1, e2⟩ := spl_cons x t h
      rw [e2]
      rw [e1] at ih
      cases r with
      | nil => rw [Lib.join_one] at ih ⊢; rw [ih]
      | cons b q => rw [join_two] at ih ⊢; rw [List.cons_append, ih]
theorem spl_parts : ∀ s, ∀ p ∈ spl s, (47 : UInt8) ∉ p
  | [] => by simp [spl]
  | x :: t => by
    intro p hp
    have ih := spl_parts t
    by_cases h : x = 47
    · rw [spl, if_pos h] at hp
      rcases List.mem_cons.1 hp with h1 | h1
      · rw [h1]; simp
      · exact ih p h1
    · obtain ⟨a, r, e1, e2⟩ := spl_cons x t h
      rw [e2] at hp
      rcases List.mem_cons.1 hp with h1 | h1
      · rw [h1]
        intro hm
        rcases List.mem_cons.1 hm with h2 | h2
        · exact h h2.symm
        · exact ih a (by rw [e1]; exact List.mem_cons_self ..) h2
      · exact ih p (by rw [e1]; exact List.mem_cons_of_mem _ h1)
theorem spl_none : ∀ p : List UInt8, (47 : UInt8) ∉ p → spl p = [p]
  | [], _ => rfl
  | x :: t, h => by
    have hx : x ≠ 47 := fun e => h (by rw [e]; exact List.mem_cons_self ..)
    have ih := spl_none t (fun hm => h (List.mem_cons_of_mem _ hm))
    rw [spl, if_neg hx, ih]
theorem spl_front : ∀ (p q : List UInt8), (47 : UInt8) ∉ p → spl (p ++ 47 :: q) = p :: spl q
  | [], q, _ => by rw [List.nil_append, spl, if_pos rfl]
  | x :: t, q, h => by
    have hx : x ≠ 47 := fun e => h (by rw [e]; exact List.mem_cons_self ..)
    have ih := spl_front t q (fun hm => h (List.mem_cons_of_mem _ hm))
    rw [List.cons_append, spl, if_neg hx, ih]
theorem spl_join : ∀ (l : List (List UInt8)), l ≠ [] → (∀ p ∈ l, (47 : UInt8) ∉ p) → spl (Lib.join l [47]) = l
  | [], h, _ => absurd rfl h
  | [p], _, h => by rw [Lib.join_one]; exact spl_none p (h p (List.mem_cons_self ..))
  | p :: q :: r, _, h => by
    rw [join_two, spl_front p _ (h p (List.mem_cons_self ..)), spl_join (q :: r) (by simp) (fun x hx => h x (List.mem_cons_of_mem _ hx))]
def toL (a : ByteArray) : List UInt8 := a.data.toList
theorem toL_inj {a b : ByteArray} (h : toL a = toL b) : a = b := by
  have := Array.toList_inj.1 (show a.data.toList = b.data.toList from h)
  exact ByteArray.ext this
theorem toL_size (a : ByteArray) : (toL a).length = a.size := by
  rw [toL, Array.length_toList]; rfl
theorem toL_extract (a : ByteArray) (i j : Nat) : toL (a.extract i j) = ((toL a).take j).drop i := by
  unfold toL
  rw [ByteArray.data_extract, Array.toList_extract, List.extract_eq_take_drop, List.drop_take]
theorem take_snoc (a : ByteArray) (k : Nat) (h : k < a.size) : (toL a).take (k + 1) = (toL a).take k ++ [UInt8.ofNat (bt a (k : Int)).toNat] := by
  have hl : k < (toL a).length := by rw [toL_size]; exact h
  rw [List.take_succ_eq_append_getElem hl]
  congr 2
  rw [bt, dif_pos (by simpa using h)]
  simp [toL]
  rfl
theorem u47 (b : Int) (h0 : 0 ≤ b) (h1 : b ≤ 255) : UInt8.ofNat b.toNat = 47 ↔ b = 47 := by
  constructor
  · intro h
    have := congrArg UInt8.toNat h
    rw [UInt8.toNat_ofNat'] at this
    have e : (47 : UInt8).toNat = 47 := rfl
    rw [e] at this
    omega
  · intro h; rw [h]; rfl
theorem splitTo_spl (a : ByteArray) : ∀ k, k ≤ a.size → spl ((toL a).take k) = (splitTo a k).1.map toL ++ [((toL a).take k).drop (splitTo a k).2]
  | 0, _ => rfl
  | k + 1, h => by
    have ih := splitTo_spl a k (by omega)
    have hr := bt_range a (k : Int)
    have hle := splitTo_le a k
    have hlen : ((toL a).take k).length = k := by rw [List.length_take, toL_size]; omega
    rw [take_snoc a k (by omega)]
    by_cases hb : bt a (k : Int) = 47
    · rw [(u47 _ hr.1 hr.2).2 hb, spl_snoc47, ih, splitTo_hit a k hb, List.map_append, List.map_cons, List.map_nil, toL_extract]
      congr 1
      simp
      omega
    · rw [spl_snoc _ (fun e => hb ((u47 _ hr.1 hr.2).1 e)) _ _ _ ih, splitTo_miss a k hb, List.drop_append_of_le_length (by rw [hlen]; exact hle)]
theorem split_spl (a : ByteArray) (h : a.size ≠ 0) : (splitL a).map toL = spl (toL a) := by
  have := splitTo_spl a a.size (Nat.le_refl _)
  have e : (toL a).take a.size = toL a := List.take_of_length_le (by rw [toL_size]; exact Nat.le_refl _)
  rw [e] at this
  rw [splitL, if_neg h, this, List.map_append, List.map_cons, List.map_nil, toL_extract, e]
theorem size_zero {a : ByteArray} (h : a.size = 0) : a = ⟨#[]⟩ := by
  apply toL_inj
  have : (toL a).length = 0 := by rw [toL_size]; exact h
  rw [List.length_eq_zero_iff.1 this]
  rfl
theorem map_data (l : List ByteArray) : l.map (·.data.toList) = l.map toL := rfl
theorem toL_joinB (l : List ByteArray) : toL (joinB l ⟨#[47]⟩) = Lib.join (l.map toL) [47] := by
  unfold joinB toL
  rfl
theorem joinB_split (a : ByteArray) : joinB (splitL a) ⟨#[47]⟩ = a := by
  by_cases h : a.size = 0
  · rw [splitL, if_pos h, size_zero h]; rfl
  · apply toL_inj
    rw [toL_joinB, split_spl a h, join_spl]
theorem map_toL_inj {l m : List ByteArray} (h : l.map toL = m.map toL) : l = m := by
  induction l generalizing m with
  | nil => cases m with
    | nil => rfl
    | cons b t => simp at h
  | cons a s ih => cases m with
    | nil => simp at h
    | cons b t =>
      simp only [List.map_cons, List.cons.injEq] at h
      rw [toL_inj h.1, ih h.2]
theorem split_nil_iff (a : ByteArray) : splitL a = [] ↔ a.size = 0 := by
  rw [splitL]
  by_cases h : a.size = 0
  · rw [if_pos h]; simp [h]
  · rw [if_neg h]; simp [h]
theorem split_no47 (a : ByteArray) : ∀ p ∈ splitL a, (47 : UInt8) ∉ toL p := by
  by_cases h : a.size = 0
  · rw [splitL, if_pos h]; simp
  · intro p hp
    have := List.mem_map_of_mem (f := toL) hp
    rw [split_spl a h] at this
    exact spl_parts _ _ this
theorem split_joinB (l : List ByteArray) (h0 : ∀ p ∈ l, p.size ≠ 0) (h : ∀ p ∈ l, (47 : UInt8) ∉ toL p) : splitL (joinB l ⟨#[47]⟩) = l := by
  cases l with
  | nil => rfl
  | cons x t =>
    have hj := toL_joinB (x :: t)
    have hs := spl_join ((x :: t).map toL) (by simp) (fun p hp => by
      obtain ⟨q, hq, rfl⟩ := List.mem_map.1 hp
      exact h q hq)
    have hne : (joinB (x :: t) ⟨#[47]⟩).size ≠ 0 := by
      have hx := h0 x (List.mem_cons_self ..)
      rw [← toL_size, hj, List.map_cons, Lib.join_cons, List.length_append, toL_size]
      omega
    apply map_toL_inj
    rw [split_spl _ hne, hj, hs]
theorem joinB_to (a : ByteArray) (k : Nat) (hk : k ≤ a.size) (h : (splitTo a k).2 ≠ 0) : joinB (splitTo a k).1 ⟨#[47]⟩ = a.extract 0 ((splitTo a k).2 - 1) := by
  induction k with
  | zero => exact absurd rfl h
  | succ k ih =>
    by_cases hb : bt a (k : Int) = 47
    · rw [splitTo_hit a k hb]
      apply toL_inj
      have hs := splitTo_spl a k (by omega)
      have := join_spl ((toL a).take k)
      rw [hs] at this
      rw [toL_joinB, List.map_append, List.map_cons, List.map_nil, toL_extract, this, toL_extract]
      simp
    · rw [splitTo_miss a k hb] at h ⊢
      exact ih (by omega) h
end Go.Proofs.Ytdomeeaaidjmpaa.PA
/-! ### YtdomeeaaidjmpaaXSplitRef -/
namespace Go.Proofs.Ytdomeeaaidjmpaa.PA
open Go.RowKit Go.Proofs.YtdomeeaaidjmpaaW.PrintWords Go.Proofs.YtdomeeaaidjmpaaW.PrintLast Go.Proofs.YtdomeeaaidjmpaaW.PrintMore
attribute [local go_sem] max2_int min2_int max_two min_two max_three min_three max_four min_four
set_option linter.unusedVariables false
set_option linter.unusedSimpArgs false
theorem rsplit_l (s : ByteArray) (hs : s.size < 4398046511104) : ∀ k j : Nat, j ≤ s.size → s.size + 1 - j < k → remoraref13_Split.l0 k s (splitTo s j).1 ((splitTo s j).2 : Int) (j : Int) = some ((splitTo s s.size).1 ++ [s.extract (splitTo s s.size).2 s.size])
  | 0, j, _, h => by omega
  | k + 1, j, hj, h => by
    have hle := splitTo_le s j
    have hlen := splitTo_len s j
    have e2 : wrap64 ((j : Int) + 1) = ((j + 1 : Nat) : Int) := by rw [wr64 _ (by omega) (by omega)]; rfl
    unfold remoraref13_Split.l0
    rw [if_pos (show (j : Int) ≤ (s.size : Int) by omega), e2]
    by_cases hlt : j < s.size
    · rw [if_neg (show ¬ (j : Int) = (s.size : Int) by omega), if_pos (show 0 ≤ (j : Int) by omega), if_pos (show (j : Int) < (s.size : Int) by omega)]
      by_cases hb : bt s (j : Int) = 47
      · have hh := splitTo_hit s j hb
        rw [if_pos hb, if_pos (by omega), if_pos (by omega), if_pos (by omega)]
        have ih := rsplit_l s hs k (j + 1) (by omega) (by omega)
        rw [hh] at ih
        exact ih
      · have hh := splitTo_miss s j hb
        rw [if_neg hb]
        have ih := rsplit_l s hs k (j + 1) (by omega) (by omega)
        rw [hh] at ih
        exact ih
    · obtain rfl : j = s.size := by omega
      rw [if_pos rfl, if_pos (by omega), if_pos (by omega), if_pos (by omega)]
      cases k with
      | zero => omega
      | succ k =>
        unfold remoraref13_Split.l0
        rw [if_neg (by omega)]
        rfl
theorem rsplit_f (s : ByteArray) (hs : s.size < 4398046511104) (k : Nat) (hk : s.size + 1 < k) : remoraref13_Split.f k s = some (splitL s) := by
  unfold remoraref13_Split.f splitL
  by_cases h : s.toList = ([] : List UInt8)
  · have h1 := congrArg List.length h
    rw [ByteArray.toList_eq, data_length] at h1
    rw [if_pos h, if_pos (show s.size = 0 from h1)]
  · rw [if_neg h, if_neg]
    · exact rsplit_l s hs k 0 (by omega) (by omega)
    · intro h0
      refine h (List.eq_nil_of_length_eq_zero ?_)
      rw [ByteArray.toList_eq, data_length]
      exact h0
theorem index_ge (c : UInt8) : ∀ l : List UInt8, -1 ≤ Lib.indexByte l c
  | [] => Int.le_refl _
  | b :: l => by
    have := index_ge c l
    unfold Lib.indexByte
    split
    · omega
    · split
      · omega
      · omega
theorem rnought_l (s : ByteArray) (hs : s.size < 4398046511104) : ∀ k j : Nat, j ≤ s.size → s.size - j < k → remoraref13_nought.l0 k s (j : Int) = some (decide (0 ≤ Lib.indexByte (s.data.toList.drop j) 0))
  | 0, j, _, h => by omega
  | k + 1, j, hj, h => by
    unfold remoraref13_nought.l0
    by_cases hlt : j < s.size
    · have e2 : wrap64 ((j : Int) + 1) = ((j + 1 : Nat) : Int) := by rw [wr64 _ (by omega) (by omega)]; rfl
      rw [if_pos (show (j : Int) < (s.size : Int) by omega), if_pos (show 0 ≤ (j : Int) by omega), e2]
      have hl : j < s.data.toList.length := by rw [data_length]; exact hlt
      rw [List.drop_eq_getElem_cons hl]
      have eb : bt s (j : Int) = ((s.data.toList[j]'hl).toNat : Int) := by
        rw [bt, dif_pos (by simpa using hlt)]
        simp
        rfl
      rw [eb]
      generalize s.data.toList[j]'hl = b
      have ih := rnought_l s hs k (j + 1) (by omega) (by omega)
      by_cases hb : b = 0
      · subst hb
        rw [if_pos (by decide)]
        rfl
      · rw [if_neg (by intro h0; exact hb (UInt8.toNat_inj.1 (by simpa using h0))), ih]
        have hg := index_ge 0 (s.data.toList.drop (j + 1))
        have e : Lib.indexByte (b :: s.data.toList.drop (j + 1)) 0 = if Lib.indexByte (s.data.toList.drop (j + 1)) 0 == -1 then -1 else Lib.indexByte (s.data.toList.drop (j + 1)) 0 + 1 := by
          rw [Lib.indexByte, if_neg (by simpa using hb)]
        rw [e]
        generalize Lib.indexByte (s.data.toList.drop (j + 1)) 0 = x at *
        by_cases hx : x = -1
        · subst hx
          rfl
        · rw [if_neg (by simpa using hx), decide_eq_true (show 0 ≤ x by omega), decide_eq_true (show 0 ≤ x + 1 by omega)]
    · obtain rfl : j = s.size := by omega
      rw [if_neg (by omega), ← data_length, List.drop_length]
      rfl
theorem rnought_f (s : ByteArray) (hs : s.size < 4398046511104) (k : Nat) (hk : s.size < k) : remoraref13_nought.f k s = some (decide (0 ≤ Lib.indexByte s.data.toList 0)) := by
  unfold remoraref13_nought.f
  exact rnought_l s hs k 0 (by omega) (by omega)
end Go.Proofs.Ytdomeeaaidjmpaa.PA
/-! ### YtdomeeaaidjmpaaXPathSpec -/
namespace Go.Proofs.Ytdomeeaaidjmpaa.PA
open Go.RowKit Go.Proofs.YtdomeeaaidjmpaaW.PrintWords Go.Proofs.YtdomeeaaidjmpaaW.PrintLast Go.Proofs.YtdomeeaaidjmpaaW.PrintMore
attribute [local go_sem] max2_int min2_int max_two min_two max_three min_three max_four min_four
set_option linter.unusedVariables false
set_option linter.unusedSimpArgs false
theorem tl_eq (a b : ByteArray) : a.toList = b.toList ↔ a = b := by
  constructor
  · intro h
    rw [ByteArray.toList_eq, ByteArray.toList_eq] at h
    exact toL_inj h
  · intro h; rw [h]
theorem tl_beq (a b : ByteArray) : (a.toList == b.toList) = decide (a = b) := by
  by_cases h : a = b
  · rw [decide_eq_true h, h]; exact beq_self_eq_true _
  · rw [decide_eq_false h]; exact beq_eq_false_iff_ne.2 (fun e => h ((tl_eq a b).1 e))
theorem rdOf_get (l : List ByteArray) (i : Nat) (h : i < l.length) : rdOf ByteArray.empty l (i : Int) = l[i] := by
  simp [rdOf, h]
def cmpL : List ByteArray → List ByteArray → Int
  | [], [] => 0
  | [], _ :: _ => -1
  | _ :: _, [] => 1
  | a :: s, b :: t => if Op.bytesLess a.toList b.toList = true then -1 else if a = b then cmpL s t else 1
theorem cmp_f (a b : ByteArray) : cmp_Compare_string.f a b = some (if Op.bytesLess a.toList b.toList = true then -1 else if a = b then 0 else 1) := by
  rw [cmp_Compare_string.f, tl_beq]
  by_cases h : a = b
  · simp [h]
  · simp [h]
theorem compare_l (x y : List ByteArray) (hx : x.length < 4611686018427387904) : ∀ (m i k : Nat), x.length - i = m → i ≤ x.length → i ≤ y.length → m + 1 ≤ k → slices_Compare_string_string.l0 k x y x (x.length : Int) (i : Int) = some (cmpL (x.drop i) (y.drop i)) := by
  intro m
  induction m with
  | zero =>
    intro i k hm hi hy hk
    obtain ⟨k, rfl⟩ : ∃ j, k = j + 1 := ⟨k - 1, by omega⟩
    obtain rfl : i = x.length := by omega
    rw [slices_Compare_string_string.l0, if_neg (by omega), List.drop_length]
    by_cases h : x.length < y.length
    · rw [if_pos (by omega), List.drop_eq_getElem_cons h]; rfl
    · rw [if_neg (by omega), List.drop_eq_nil_of_le (by omega)]; rfl
  | succ m ih =>
    intro i k hm hi hy hk
    obtain ⟨k, rfl⟩ : ∃ j, k = j + 1 := ⟨k - 1, by omega⟩
    have hlt : i < x.length := by omega
    rw [slices_Compare_string_string.l0, if_pos (by omega), if_pos (by omega), if_pos (by omega), List.drop_eq_getElem_cons hlt]
    by_cases hy2 : i < y.length
    · rw [if_neg (by omega), if_pos (by omega), rdOf_get x i hlt, rdOf_get y i hy2, List.drop_eq_getElem_cons hy2, cmp_f, Option.bind_some, cmpL]
      by_cases h1 : Op.bytesLess (x[i]).toList (y[i]).toList = true
      · rw [if_pos h1, if_pos h1, if_neg (by decide)]
      · rw [if_neg h1, if_neg h1]
        by_cases h2 : x[i] = y[i]
        · rw [if_pos h2, if_pos h2, if_pos rfl, wr64 _ (by omega) (by omega)]
          exact ih (i + 1) k (by omega) (by omega) (by omega) (by omega)
        · rw [if_neg h2, if_neg h2, if_neg (by decide)]
    · rw [if_pos (by omega), List.drop_eq_nil_of_le (show y.length ≤ i by omega)]
      rfl
theorem compare_f (x y : List ByteArray) (k : Nat) (hx : x.length < 4611686018427387904) (hk : x.length + 1 ≤ k) : slices_Compare_string_string.f k x y = some (cmpL x y) := by
  have := compare_l x y hx x.length 0 k (by omega) (by omega) (by omega) (by omega)
  rw [List.drop_zero, List.drop_zero] at this
  exact this
theorem equal_l (x y : List ByteArray) (he : x.length = y.length) (hx : x.length < 4611686018427387904) : ∀ (m i k : Nat), x.length - i = m → i ≤ x.length → m + 1 ≤ k → slices_Equal_string_string.l0 k x y (x.length : Int) (i : Int) = some (decide (x.drop i = y.drop i)) := by
  intro m
  induction m with
  | zero =>
    intro i k hm hi hk
    obtain ⟨k, rfl⟩ : ∃ j, k = j + 1 := ⟨k - 1, by omega⟩
    rw [slices_Equal_string_string.l0, if_neg (by omega), List.drop_eq_nil_of_le (by omega), List.drop_eq_nil_of_le (by omega)]
    rfl
  | succ m ih =>
    intro i k hm hi hk
    obtain ⟨k, rfl⟩ : ∃ j, k = j + 1 := ⟨k - 1, by omega⟩
    have hlt : i < x.length := by omega
    have hlt2 : i < y.length := by omega
    rw [slices_Equal_string_string.l0, if_pos (by omega), if_pos (by omega), if_pos (by omega), if_pos (by omega), rdOf_get x i hlt, rdOf_get y i hlt2, List.drop_eq_getElem_cons hlt, List.drop_eq_getElem_cons hlt2]
    by_cases h : x[i] = y[i]
    · rw [if_pos ((tl_eq _ _).2 h), wr64 _ (by omega) (by omega), h]
      have := ih (i + 1) k (by omega) (by omega) (by omega)
      refine Eq.trans this ?_
      exact congrArg some (decide_eq_decide.2 ⟨fun e => by rw [e], fun e => (List.cons.inj e).2⟩)
    · rw [if_neg (fun e => h ((tl_eq _ _).1 e)), decide_eq_false (fun e => h (List.cons.inj e).1)]
theorem equal_f (x y : List ByteArray) (k : Nat) (hx : x.length < 4611686018427387904) (hk : x.length + 1 ≤ k) : slices_Equal_string_string.f k x y = some (decide (x = y)) := by
  unfold slices_Equal_string_string.f
  by_cases he : x.length = y.length
  · rw [if_pos (by omega)]
    exact equal_l x y he hx x.length 0 k (by omega) (by omega) (by omega)
  · rw [if_neg (by omega), decide_eq_false (fun e => he (by rw [e]))]
theorem texts_l (x y : List ByteArray) (he : x.length = y.length) (hx : x.length < 4611686018427387904) : ∀ (m i k : Nat), x.length - i = m → i ≤ x.length → m + 1 ≤ k → remoralaw13_texts.l0 k x y (i : Int) = some (decide (x.drop i = y.drop i)) := by
  intro m
  induction m with
  | zero =>
    intro i k hm hi hk
    obtain ⟨k, rfl⟩ : ∃ j, k = j + 1 := ⟨k - 1, by omega⟩
    rw [remoralaw13_texts.l0, if_neg (by omega), List.drop_eq_nil_of_le (by omega), List.drop_eq_nil_of_le (by omega)]
    rfl
  | succ m ih =>
    intro i k hm hi hk
    obtain ⟨k, rfl⟩ : ∃ j, k = j + 1 := ⟨k - 1, by omega⟩
    have hlt : i < x.length := by omega
    have hlt2 : i < y.length := by omega
    rw [remoralaw13_texts.l0, if_pos (by omega), if_pos (by omega), if_pos (by omega), rdOf_get x i hlt, rdOf_get y i hlt2, List.drop_eq_getElem_cons hlt, List.drop_eq_getElem_cons hlt2]
    by_cases h : x[i] = y[i]
    · rw [if_pos ((tl_eq _ _).2 h), wr64 _ (by omega) (by omega), h]
      have := ih (i + 1) k (by omega) (by omega) (by omega)
      refine Eq.trans this ?_
      exact congrArg some (decide_eq_decide.2 ⟨fun e => by rw [e], fun e => (List.cons.inj e).2⟩)
    · rw [if_neg (fun e => h ((tl_eq _ _).1 e)), decide_eq_false (fun e => h (List.cons.inj e).1)]
theorem texts_f (x y : List ByteArray) (k : Nat) (hx : x.length < 4611686018427387904) (hk : x.length + 1 ≤ k) : remoralaw13_texts.f k x y = some (decide (x = y)) := by
  unfold remoralaw13_texts.f
  by_cases he : x.length = y.length
  · rw [if_pos (by omega)]
    exact texts_l x y he hx x.length 0 k (by omega) (by omega) (by omega)
  · rw [if_neg (by omega), decide_eq_false (fun e => he (by rw [e]))]
def sumS : List ByteArray → Nat
  | [] => 0
  | a :: t => a.size + sumS t
theorem sumS_app (a b : List ByteArray) : sumS (a ++ b) = sumS a + sumS b := by
  induction a with
  | nil => simp [sumS]
  | cons x t ih => simp only [List.cons_append, sumS, ih]; omega
theorem sumS_take (l : List ByteArray) (n : Nat) : sumS (l.take n) ≤ sumS l := by
  have := sumS_app (l.take n) (l.drop n)
  rw [List.take_append_drop] at this
  omega
theorem sumS_drop (l : List ByteArray) (n : Nat) : sumS (l.drop n) ≤ sumS l := by
  have := sumS_app (l.take n) (l.drop n)
  rw [List.take_append_drop] at this
  omega
theorem sumS_le (l : List ByteArray) (b : Nat) (h : ∀ p ∈ l, p.size ≤ b) : sumS l ≤ b * l.length := by
  induction l with
  | nil => simp [sumS]
  | cons a t ih =>
    have h1 := h a (List.mem_cons_self ..)
    have h2 := ih (fun p hp => h p (List.mem_cons_of_mem _ hp))
    simp only [sumS, List.length_cons, Nat.mul_add]
    omega
theorem lens_sum (l : List ByteArray) : Lib.lens (l.map toL) = sumS l := by
  induction l with
  | nil => rfl
  | cons a t ih =>
    have := toL_size a
    simp only [Lib.lens, List.map_cons, List.sum_cons, sumS] at ih ⊢
    omega
theorem joinB_size (l : List ByteArray) : (joinB l ⟨#[47]⟩).size ≤ sumS l + l.length := by
  rw [← toL_size, toL_joinB]
  cases l with
  | nil => simp [Lib.join]
  | cons a t =>
    rw [List.map_cons, Lib.join_length, ← List.map_cons (f := toL), lens_sum]
    simp
    omega
theorem joinB_size' (l : List ByteArray) (h : l ≠ []) : (joinB l ⟨#[47]⟩).size + 1 = sumS l + l.length := by
  rw [← toL_size, toL_joinB]
  cases l with
  | nil => exact absurd rfl h
  | cons a t =>
    rw [List.map_cons, Lib.join_length, ← List.map_cons (f := toL), lens_sum]
    simp
    omega
theorem sumS_split (a : ByteArray) : sumS (splitL a) ≤ a.size := by
  by_cases h : splitL a = []
  · rw [h]; exact Nat.zero_le _
  · have h1 := joinB_size' _ h
    rw [joinB_split] at h1
    have : (splitL a).length ≠ 0 := fun e => h (List.length_eq_zero_iff.1 e)
    omega
def gN (l : List ByteArray) (i : Nat) : List Int := (Lib.join ((l.take i).map toL) [47]).map (fun u => (u.toNat : Int))
theorem strOf_nums (s : List UInt8) : strOfNums (s.map (fun u => (u.toNat : Int))) = ⟨s.toArray⟩ := by
  have e : ((fun n : Int => UInt8.ofNat n.toNat) ∘ fun u : UInt8 => (u.toNat : Int)) = id := by
    funext u
    simp
  rw [strOfNums, List.map_map, e, List.map_id]
theorem gN_zero (l : List ByteArray) : gN l 0 = [] := rfl
theorem gN_one (l : List ByteArray) (h : 0 < l.length) : gN l 1 = bytesOf (l[0]) := by
  cases l with
  | nil => simp at h
  | cons a t => simp [gN, Lib.join, bytesOf, toL]
theorem gN_succ (l : List ByteArray) (i : Nat) (h0 : 0 < i) (h : i < l.length) : gN l (i + 1) = gN l i ++ [47] ++ bytesOf (l[i]) := by
  cases l with
  | nil => simp at h
  | cons a t =>
    obtain ⟨j, rfl⟩ : ∃ j, i = j + 1 := ⟨i - 1, by omega⟩
    have ht : j < t.length := by simpa using h
    have hj := Lib.joinTail_take_succ [47] (t.map toL) j (toL (t[j])) (by simp [ht])
    simp only [gN, List.take_succ_cons, List.map_cons, Lib.join_cons, List.map_take] at hj ⊢
    rw [hj]
    simp [bytesOf, toL, List.map_append]
theorem gN_len (l : List ByteArray) (i : Nat) : (gN l i).length ≤ sumS l + l.length := by
  have h1 := joinB_size (l.take i)
  have h2 := sumS_take l i
  rw [← toL_size, toL_joinB] at h1
  have h3 : (l.take i).length ≤ l.length := by rw [List.length_take]; omega
  rw [gN, List.length_map]
  omega
theorem glue_l (l : List ByteArray) (hs : sumS l + l.length < 70368744177664) : ∀ (m i k : Nat), l.length - i = m → i ≤ l.length → m + 1 ≤ k → remoraref13_glue.l0 k l (gN l i) (i : Int) = some (joinB l ⟨#[47]⟩) := by
  intro m
  induction m with
  | zero =>
    intro i k hm hi hk
    obtain ⟨k, rfl⟩ : ∃ j, k = j + 1 := ⟨k - 1, by omega⟩
    obtain rfl : i = l.length := by omega
    rw [remoraref13_glue.l0, if_neg (by omega), gN, strOf_nums, List.take_length]
    rfl
  | succ m ih =>
    intro i k hm hi hk
    obtain ⟨k, rfl⟩ : ∃ j, k = j + 1 := ⟨k - 1, by omega⟩
    have hlt : i < l.length := by omega
    have hl := gN_len l i
    have hl2 := gN_len l (i + 1)
    have hrec := ih (i + 1) k (by omega) (by omega) (by omega)
    rw [remoraref13_glue.l0, if_pos (by omega), wr64 _ (by omega) (by omega), rdOf_get l i hlt]
    by_cases h0 : 0 < i
    · rw [gN_succ l i h0 hlt] at hrec hl2
      have hb := bytesOf_length (l[i])
      rw [List.length_append, hb] at hl2
      rw [if_pos (by omega), if_pos (by omega), Option.bind_some, if_pos (by omega), if_pos (by omega)]
      exact hrec
    · obtain rfl : i = 0 := by omega
      rw [gN_one l hlt] at hrec hl2
      have hb := bytesOf_length (l[0])
      rw [if_neg (by omega), if_pos (by omega), gN_zero, if_pos (by rw [List.length_nil]; omega)]
      exact hrec
theorem glue_f (l : List ByteArray) (hs : sumS l + l.length < 70368744177664) (k : Nat) (hk : l.length + 1 ≤ k) : remoraref13_glue.f k l = some (joinB l ⟨#[47]⟩) :=
  glue_l l hs l.length 0 k (by omega) (by omega) (by omega)
theorem join_f (l : List ByteArray) (hs : sumS l + l.length < 70368744177664) : strings_Join.f l ⟨#[47]⟩ = some (joinB l ⟨#[47]⟩) := by
  have := joinB_size l
  rw [strings_Join.f, if_pos ⟨by omega, by omega⟩]
def sml (a : ByteArray) : Prop := a.size ≤ 1048576
theorem psplit_f (a : ByteArray) (h : sml a) : path_Split.f a = some (splitL a) := by
  unfold sml at h
  rw [path_Split.f, if_pos (by omega)]
theorem rsp_f (a : ByteArray) (h : sml a) (k : Nat) (hk : 1048580 ≤ k) : remoraref13_Split.f k a = some (splitL a) := by
  unfold sml at h
  exact rsplit_f a (by omega) k (by omega)
theorem spl_len (a : ByteArray) (h : sml a) : (splitL a).length ≤ 1048577 := by
  unfold sml at h
  have := splitL_len a
  omega
theorem less_f (a b : ByteArray) (ha : sml a) (hb : sml b) (k : Nat) (hk : 1048580 ≤ k) : path_Less.f k a b = some (decide (cmpL (splitL a) (splitL b) < 0)) := by
  have := spl_len a ha
  rw [path_Less.f, psplit_f a ha, Option.bind_some, psplit_f b hb, Option.bind_some, compare_f _ _ k (by omega) (by omega), Option.bind_some]
def preB (y x : List ByteArray) : Bool := decide (x.take y.length = y)
theorem under_f (a b : ByteArray) (ha : sml a) (hb : sml b) (k : Nat) (hk : 1048580 ≤ k) : path_Under.f k a b = some (preB (splitL b) (splitL a)) := by
  have h1 := spl_len a ha
  rw [path_Under.f, psplit_f a ha, Option.bind_some, psplit_f b hb, Option.bind_some, preB]
  by_cases h : (splitL b).length ≤ (splitL a).length
  · rw [if_pos (by omega), if_pos (by omega), if_pos (by omega), Int.toNat_natCast, equal_f _ _ k (by rw [List.length_take]; omega) (by rw [List.length_take]; omega), Option.bind_some]
  · rw [if_neg (by omega), decide_eq_false]
    intro e
    have := congrArg List.length e
    rw [List.length_take] at this
    omega
theorem depth_f (a : ByteArray) (ha : sml a) : path_Depth.f a = some ((splitL a).length : Int) := by
  rw [path_Depth.f, psplit_f a ha, Option.bind_some]
def comN : List ByteArray → List ByteArray → Nat
  | a :: s, b :: t => if a = b then comN s t + 1 else 0
  | _, _ => 0
theorem comN_le : ∀ x y, comN x y ≤ x.length
  | [], _ => by simp [comN]
  | _ :: _, [] => by simp [comN]
  | a :: s, b :: t => by
    have := comN_le s t
    rw [comN]
    split
    · simp only [List.length_cons]; omega
    · exact Nat.zero_le _
theorem common_l (x y : List ByteArray) (hs : sumS x + x.length < 70368744177664) : ∀ (m i k : Nat), x.length - i = m → i ≤ x.length → m + 1 ≤ k → path_Common.l0 k x y (i : Int) = some (joinB (x.take (i + comN (x.drop i) (y.drop i))) ⟨#[47]⟩) := by
  intro m
  have hfin : ∀ i, i ≤ x.length → strings_Join.f (x.take ((i : Int)).toNat) ⟨#[47]⟩ = some (joinB (x.take i) ⟨#[47]⟩) := fun i hi => by
    rw [Int.toNat_natCast]
    refine join_f _ ?_
    have := sumS_take x i
    rw [List.length_take]
    omega
  induction m with
  | zero =>
    intro i k hm hi hk
    obtain ⟨k, rfl⟩ : ∃ j, k = j + 1 := ⟨k - 1, by omega⟩
    obtain rfl : i = x.length := by omega
    rw [path_Common.l0, if_neg (by omega), if_pos (by omega), if_pos (by omega), hfin _ hi, Option.bind_some, List.drop_length]
    simp [comN]
  | succ m ih =>
    intro i k hm hi hk
    obtain ⟨k, rfl⟩ : ∃ j, k = j + 1 := ⟨k - 1, by omega⟩
    have hlt : i < x.length := by omega
    rw [path_Common.l0, if_pos (by omega), List.drop_eq_getElem_cons hlt]
    by_cases hy : i < y.length
    · rw [if_pos (by omega), if_pos (by omega), rdOf_get x i hlt, rdOf_get y i hy, List.drop_eq_getElem_cons hy, comN]
      by_cases h : x[i] = y[i]
      · rw [if_pos ((tl_eq _ _).2 h), if_pos h, wr64 _ (by omega) (by omega)]
        have := ih (i + 1) k (by omega) (by omega) (by omega)
        refine Eq.trans this ?_
        congr 3
        omega
      · rw [if_neg (fun e => h ((tl_eq _ _).1 e)), if_neg h, if_pos (by omega), hfin _ hi, Option.bind_some]
        rfl
    · rw [if_neg (by omega), if_pos (by omega), if_pos (by omega), hfin _ hi, Option.bind_some, List.drop_eq_nil_of_le (show y.length ≤ i by omega)]
      rfl
theorem sumS_sml (a : ByteArray) (h : sml a) : sumS (splitL a) + (splitL a).length < 70368744177664 := by
  have h1 := sumS_split a
  have h2 := spl_len a h
  unfold sml at h
  omega
theorem common_f (a b : ByteArray) (ha : sml a) (hb : sml b) (k : Nat) (hk : 1048580 ≤ k) : path_Common.f k a b = some (joinB ((splitL a).take (comN (splitL a) (splitL b))) ⟨#[47]⟩) := by
  have h1 := spl_len a ha
  rw [path_Common.f, psplit_f a ha, Option.bind_some, psplit_f b hb, Option.bind_some]
  have := common_l (splitL a) (splitL b) (sumS_sml a ha) _ 0 k rfl (by omega) (by omega)
  rw [List.drop_zero, List.drop_zero, Nat.zero_add] at this
  exact this
theorem rcommon_l (x y : List ByteArray) (hs : sumS x + x.length < 70368744177664) : ∀ (m i k : Nat), x.length - i = m → i ≤ x.length → m + 1 + x.length + 1 ≤ k → remoraref13_Common.l0 k x y (i : Int) = some (joinB (x.take (i + comN (x.drop i) (y.drop i))) ⟨#[47]⟩) := by
  intro m
  have hfin : ∀ i k, i ≤ x.length → x.length + 1 ≤ k → remoraref13_glue.f k (x.take ((i : Int)).toNat) = some (joinB (x.take i) ⟨#[47]⟩) := fun i k hi hk => by
    rw [Int.toNat_natCast]
    have := sumS_take x i
    refine glue_f _ ?_ k ?_
    · rw [List.length_take]
      omega
    · rw [List.length_take]
      omega
  induction m with
  | zero =>
    intro i k hm hi hk
    obtain ⟨k, rfl⟩ : ∃ j, k = j + 1 := ⟨k - 1, by omega⟩
    obtain rfl : i = x.length := by omega
    rw [remoraref13_Common.l0, if_neg (by omega), if_pos (by omega), if_pos (by omega), hfin _ k hi (by omega), Option.bind_some, List.drop_length]
    simp [comN]
  | succ m ih =>
    intro i k hm hi hk
    obtain ⟨k, rfl⟩ : ∃ j, k = j + 1 := ⟨k - 1, by omega⟩
    have hlt : i < x.length := by omega
    rw [remoraref13_Common.l0, if_pos (by omega), List.drop_eq_getElem_cons hlt]
    by_cases hy : i < y.length
    · rw [if_pos (by omega), if_pos (by omega), rdOf_get x i hlt, rdOf_get y i hy, List.drop_eq_getElem_cons hy, comN]
      by_cases h : x[i] = y[i]
      · rw [if_pos ((tl_eq _ _).2 h), if_pos h, wr64 _ (by omega) (by omega)]
        have := ih (i + 1) k (by omega) (by omega) (by omega)
        refine Eq.trans this ?_
        congr 3
        omega
      · rw [if_neg (fun e => h ((tl_eq _ _).1 e)), if_neg h, if_pos (by omega), hfin _ k hi (by omega), Option.bind_some]
        rfl
    · rw [if_neg (by omega), if_pos (by omega), if_pos (by omega), hfin _ k hi (by omega), Option.bind_some, List.drop_eq_nil_of_le (show y.length ≤ i by omega)]
      rfl
theorem rcommon_f (a b : ByteArray) (ha : sml a) (hb : sml b) (k : Nat) (hk : 3000000 ≤ k) : remoraref13_Common.f k a b = some (joinB ((splitL a).take (comN (splitL a) (splitL b))) ⟨#[47]⟩) := by
  have h1 := spl_len a ha
  rw [remoraref13_Common.f, rsp_f a ha k (by omega), Option.bind_some, rsp_f b hb k (by omega), Option.bind_some]
  have := rcommon_l (splitL a) (splitL b) (sumS_sml a ha) _ 0 k rfl (by omega) (by omega)
  rw [List.drop_zero, List.drop_zero, Nat.zero_add] at this
  exact this
theorem runder_l (x y : List ByteArray) (hx : y.length < 4611686018427387904) : ∀ (m i k : Nat), y.length - i = m → i ≤ y.length → m + 1 ≤ k → x.take i = y.take i → remoraref13_Under.l0 k x y (i : Int) = some (preB y x) := by
  intro m
  induction m with
  | zero =>
    intro i k hm hi hk he
    obtain ⟨k, rfl⟩ : ∃ j, k = j + 1 := ⟨k - 1, by omega⟩
    obtain rfl : i = y.length := by omega
    rw [List.take_length] at he
    rw [remoraref13_Under.l0, if_neg (by omega), preB, decide_eq_true he]
  | succ m ih =>
    intro i k hm hi hk he
    obtain ⟨k, rfl⟩ : ∃ j, k = j + 1 := ⟨k - 1, by omega⟩
    have hlt : i < y.length := by omega
    rw [remoraref13_Under.l0, if_pos (by omega)]
    by_cases hx2 : i < x.length
    · rw [if_neg (by omega), if_pos (by omega), if_pos (by omega), rdOf_get x i hx2, rdOf_get y i hlt]
      by_cases h : x[i] = y[i]
      · rw [if_pos ((tl_eq _ _).2 h), wr64 _ (by omega) (by omega)]
        exact ih (i + 1) k (by omega) (by omega) (by omega) (by rw [List.take_succ_eq_append_getElem hx2, List.take_succ_eq_append_getElem hlt, he, h])
      · rw [if_neg (fun e => h ((tl_eq _ _).1 e)), preB, decide_eq_false]
        intro e
        apply h
        have h1 : (x.take y.length)[i]? = y[i]? := by rw [e]
        rw [List.getElem?_take_of_lt hlt, List.getElem?_eq_getElem hx2, List.getElem?_eq_getElem hlt] at h1
        exact Option.some.inj h1
    · rw [if_pos (by omega), preB, decide_eq_false]
      intro e
      have := congrArg List.length e
      rw [List.length_take] at this
      omega
theorem runder_f (a b : ByteArray) (ha : sml a) (hb : sml b) (k : Nat) (hk : 1048580 ≤ k) : remoraref13_Under.f k a b = some (preB (splitL b) (splitL a)) := by
  have h1 := spl_len b hb
  rw [remoraref13_Under.f, rsp_f a ha k (by omega), Option.bind_some, rsp_f b hb k (by omega), Option.bind_some]
  exact runder_l _ _ (by omega) _ 0 k rfl (by omega) (by omega) rfl
theorem less_tail (a b : ByteArray) (s t : List ByteArray) (h : a ≠ b) : decide (cmpL (a :: s) (b :: t) < 0) = Op.bytesLess a.toList b.toList := by
  rw [cmpL]
  by_cases h1 : Op.bytesLess a.toList b.toList = true
  · rw [if_pos h1, h1]; rfl
  · rw [if_neg h1, if_neg h, Bool.eq_false_iff.2 h1]; rfl
theorem less_same (a : ByteArray) (s t : List ByteArray) (h : Op.bytesLess a.toList a.toList = false) : cmpL (a :: s) (a :: t) = cmpL s t := by
  rw [cmpL, if_neg (by rw [h]; decide), if_pos rfl]
theorem bl_irr : ∀ l : List UInt8, Op.bytesLess l l = false
  | [] => rfl
  | a :: t => by
    rw [Op.bytesLess, bl_irr t]
    simp
theorem rless_l (x y : List ByteArray) (hx : x.length < 4611686018427387904) : ∀ (m i k : Nat), x.length - i = m → i ≤ x.length → i ≤ y.length → 2 * m + 2 ≤ k → remoraref13_Less.l0 k x y (i : Int) = some (decide (cmpL (x.drop i) (y.drop i) < 0)) := by
  intro m
  induction m with
  | zero =>
    intro i k hm hi hy hk
    obtain ⟨k, rfl⟩ : ∃ j, k = j + 2 := ⟨k - 2, by omega⟩
    obtain rfl : i = x.length := by omega
    rw [remoraref13_Less.l0, if_neg (by omega), remoraref13_Less.j1, if_neg (by decide), List.drop_length]
    by_cases h : x.length < y.length
    · rw [List.drop_eq_getElem_cons h, decide_eq_true (by omega)]; rfl
    · rw [List.drop_eq_nil_of_le (by omega), decide_eq_false (by omega)]; rfl
  | succ m ih =>
    intro i k hm hi hy hk
    obtain ⟨k, rfl⟩ : ∃ j, k = j + 2 := ⟨k - 2, by omega⟩
    have hlt : i < x.length := by omega
    rw [remoraref13_Less.l0, if_pos (by omega), remoraref13_Less.j1, List.drop_eq_getElem_cons hlt]
    by_cases hy2 : i < y.length
    · rw [if_pos (decide_eq_true (by omega)), if_pos (by omega), if_pos (by omega), if_pos (by omega), rdOf_get x i hlt, rdOf_get y i hy2, List.drop_eq_getElem_cons hy2]
      by_cases h : x[i] = y[i]
      · rw [if_pos ((tl_eq _ _).2 h), wr64 _ (by omega) (by omega), h, less_same _ _ _ (bl_irr _)]
        exact ih (i + 1) k (by omega) (by omega) (by omega) (by omega)
      · rw [if_neg (fun e => h ((tl_eq _ _).1 e)), less_tail _ _ _ _ h]
    · rw [if_neg (by rw [decide_eq_false (by omega)]; decide), List.drop_eq_nil_of_le (show y.length ≤ i by omega), decide_eq_false (by omega)]
      rfl
theorem rless_f (a b : ByteArray) (ha : sml a) (hb : sml b) (k : Nat) (hk : 3000000 ≤ k) : remoraref13_Less.f k a b = some (decide (cmpL (splitL a) (splitL b) < 0)) := by
  have h1 := spl_len a ha
  rw [remoraref13_Less.f, rsp_f a ha k (by omega), Option.bind_some, rsp_f b hb k (by omega), Option.bind_some]
  exact rless_l _ _ (by omega) _ 0 k rfl (by omega) (by omega) (by omega)
theorem rel_f (a b : ByteArray) (ha : sml a) (hb : sml b) (k : Nat) (hk : 1048580 ≤ k) : path_Rel.f k a b = some (if preB (splitL b) (splitL a) = true then (joinB ((splitL a).drop (splitL b).length) ⟨#[47]⟩, true) else (⟨#[]⟩, false)) := by
  rw [path_Rel.f, under_f a b ha hb k hk, Option.bind_some]
  by_cases h : preB (splitL b) (splitL a) = true
  · have hle : (splitL b).length ≤ (splitL a).length := by
      have := congrArg List.length (of_decide_eq_true h)
      rw [List.length_take] at this
      omega
    have hs := sumS_sml a ha
    have hd := sumS_drop (splitL a) (splitL b).length
    rw [if_pos h, if_pos h, psplit_f a ha, Option.bind_some, psplit_f b hb, Option.bind_some, if_pos (by omega), if_pos (by omega), Int.toNat_natCast, join_f _ (by rw [List.length_drop]; omega), Option.bind_some]
  · rw [if_neg h, if_neg h]
theorem rrel_f (a b : ByteArray) (ha : sml a) (hb : sml b) (k : Nat) (hk : 3000000 ≤ k) : remoraref13_Rel.f k a b = some (if preB (splitL b) (splitL a) = true then (joinB ((splitL a).drop (splitL b).length) ⟨#[47]⟩, true) else (⟨#[]⟩, false)) := by
  rw [remoraref13_Rel.f, runder_f a b ha hb k (by omega), Option.bind_some]
  by_cases h : preB (splitL b) (splitL a) = true
  · have hle : (splitL b).length ≤ (splitL a).length := by
      have := congrArg List.length (of_decide_eq_true h)
      rw [List.length_take] at this
      omega
    have hs := sumS_sml a ha
    have hl := spl_len a ha
    have hd := sumS_drop (splitL a) (splitL b).length
    rw [if_pos h, if_pos h, rsp_f a ha k (by omega), Option.bind_some, rsp_f b hb k (by omega), Option.bind_some, if_pos (by omega), if_pos (by omega), Int.toNat_natCast, glue_f _ (by rw [List.length_drop]; omega) k (by rw [List.length_drop]; omega), Option.bind_some]
  · rw [if_neg h, if_neg h]
theorem awake13_100 : remoralaw13_awake.f 100 = some true := by kernel_rfl
theorem awake13 (k : Nat) (hk : 100 ≤ k) : remoralaw13_awake.f k = some true := by
  induction k with
  | zero => omega
  | succ k ih =>
    by_cases h : k + 1 = 100
    · rw [h]; exact awake13_100
    · exact remoralaw13_awake.mono k _ (ih (by omega))
end Go.Proofs.Ytdomeeaaidjmpaa.PA
/-! ### YtdomeeaaidjmpaaXBaseSpec -/
namespace Go.Proofs.Ytdomeeaaidjmpaa.PA
open Go.RowKit Go.Proofs.YtdomeeaaidjmpaaW.PrintWords Go.Proofs.YtdomeeaaidjmpaaW.PrintLast Go.Proofs.YtdomeeaaidjmpaaW.PrintMore
attribute [local go_sem] max2_int min2_int max_two min_two max_three min_three max_four min_four
set_option linter.unusedVariables false
set_option linter.unusedSimpArgs false
theorem last_l (a : ByteArray) (hs : a.size < 4611686018427387904) : ∀ j k, j ≤ a.size → j + 1 ≤ k → bytealg_LastIndexByteString.l0 k a 47 ((j : Int) - 1) = some (((splitTo a j).2 : Int) - 1)
  | 0, k, _, hk => by
    obtain ⟨k, rfl⟩ : ∃ j, k = j + 1 := ⟨k - 1, by omega⟩
    rw [bytealg_LastIndexByteString.l0, if_neg (by omega)]
    rfl
  | j + 1, k, hj, hk => by
    obtain ⟨k, rfl⟩ : ∃ j, k = j + 1 := ⟨k - 1, by omega⟩
    have e : (((j + 1 : Nat) : Int) - 1) = (j : Int) := by omega
    rw [e, bytealg_LastIndexByteString.l0, if_pos (by omega), if_pos (by omega), if_pos (by omega)]
    by_cases hb : bt a (j : Int) = 47
    · rw [if_pos hb, splitTo_hit a j hb]
      show some (j : Int) = some (((j + 1 : Nat) : Int) - 1)
      rw [e]
    · rw [if_neg hb, splitTo_miss a j hb, wr64 _ (by omega) (by omega)]
      exact last_l a hs j k (by omega) (by omega)
theorem last_f (a : ByteArray) (ha : sml a) (k : Nat) (hk : 1048580 ≤ k) : strings_LastIndexByte.f k a 47 = some (((splitTo a a.size).2 : Int) - 1) := by
  unfold sml at ha
  rw [strings_LastIndexByte.f, bytealg_LastIndexByteString.f, wr64 _ (by omega) (by omega), last_l a (by omega) a.size k (by omega) (by omega), Option.bind_some]
def baseB (a : ByteArray) : ByteArray := a.extract (splitTo a a.size).2 a.size
def parB (a : ByteArray) : ByteArray := a.extract 0 ((splitTo a a.size).2 - 1)
theorem base_f (a : ByteArray) (ha : sml a) (k : Nat) (hk : 1048580 ≤ k) : path_Base.f k a = some (baseB a) := by
  have h1 := splitTo_le a a.size
  have ha' := ha
  unfold sml at ha'
  rw [path_Base.f, last_f a ha k hk, Option.bind_some]
  have e : wrap64 ((((splitTo a a.size).2 : Int) - 1) + 1) = ((splitTo a a.size).2 : Int) := by rw [wr64 _ (by omega) (by omega)]; omega
  rw [e, if_pos (by omega), if_pos (by omega), Int.toNat_natCast]
  rfl
theorem parent_f (a : ByteArray) (ha : sml a) (k : Nat) (hk : 1048580 ≤ k) : path_Parent.f k a = some (parB a) := by
  have h1 := splitTo_le a a.size
  rw [path_Parent.f, last_f a ha k hk, Option.bind_some]
  have e : mx (((splitTo a a.size).2 : Int) - 1) 0 = (((splitTo a a.size).2 - 1 : Nat) : Int) := by
    unfold mx
    split <;> omega
  rw [e, if_pos (by omega), if_pos (by omega), Int.toNat_natCast]
  rfl
theorem from_zero (a : ByteArray) : ∀ k, (splitTo a k).1.length = 0 ↔ (splitTo a k).2 = 0
  | 0 => ⟨fun _ => rfl, fun _ => rfl⟩
  | k + 1 => by
    by_cases hb : bt a (k : Int) = 47
    · rw [splitTo_hit a k hb]; simp
    · rw [splitTo_miss a k hb]; exact from_zero a k
theorem rbase_f (a : ByteArray) (ha : sml a) (k : Nat) (hk : 1048580 ≤ k) : remoraref13_Base.f k a = some (baseB a) := by
  have hl := spl_len a ha
  rw [remoraref13_Base.f, rsp_f a ha k hk, Option.bind_some]
  by_cases h : a.size = 0
  · have e := (split_nil_iff a).2 h
    rw [e, if_pos (by decide), size_zero h]
    rfl
  · have e : splitL a = (splitTo a a.size).1 ++ [a.extract (splitTo a a.size).2 a.size] := by rw [splitL, if_neg h]
    have el : (splitL a).length = (splitTo a a.size).1.length + 1 := by rw [e]; simp
    have ew : wrap64 (((splitL a).length : Int) - 1) = ((splitTo a a.size).1.length : Int) := by rw [wr64 _ (by omega) (by omega)]; omega
    rw [if_neg (by omega), ew, if_pos (by omega), if_pos (by omega), rdOf_get _ _ (by omega)]
    congr 1
    rw [List.getElem_of_eq e (by omega)]
    simp [baseB]
theorem rparent_f (a : ByteArray) (ha : sml a) (k : Nat) (hk : 1048580 ≤ k) : remoraref13_Parent.f k a = some (parB a) := by
  have hl := spl_len a ha
  rw [remoraref13_Parent.f, rsp_f a ha k hk, Option.bind_some]
  by_cases h : a.size = 0
  · have e := (split_nil_iff a).2 h
    rw [e, if_pos (by decide), size_zero h]
    rfl
  · have e : splitL a = (splitTo a a.size).1 ++ [a.extract (splitTo a a.size).2 a.size] := by rw [splitL, if_neg h]
    have el : (splitL a).length = (splitTo a a.size).1.length + 1 := by rw [e]; simp
    have hz := from_zero a a.size
    by_cases h2 : (splitTo a a.size).1.length = 0
    · rw [if_pos (by omega), parB, hz.1 h2]
      congr 1
      apply toL_inj
      rw [toL_extract]
      rfl
    · have ew : wrap64 (((splitL a).length : Int) - 1) = ((splitTo a a.size).1.length : Int) := by rw [wr64 _ (by omega) (by omega)]; omega
      have et : (splitL a).take (splitTo a a.size).1.length = (splitTo a a.size).1 := by rw [e]; simp
      have hs := sumS_sml a ha
      have ht := sumS_take (splitL a) (splitTo a a.size).1.length
      rw [et] at ht
      rw [if_neg (by omega), ew, if_pos (by omega), if_pos (by omega), Int.toNat_natCast, et, glue_f _ (by omega) k (by omega), Option.bind_some, joinB_to a a.size (Nat.le_refl _) (fun e => h2 (hz.2 e))]
      rfl
theorem rdepth_f (a : ByteArray) (ha : sml a) (k : Nat) (hk : 1048580 ≤ k) : remoraref13_Depth.f k a = some ((splitL a).length : Int) := by
  rw [remoraref13_Depth.f, rsp_f a ha k hk, Option.bind_some]
end Go.Proofs.Ytdomeeaaidjmpaa.PA
/-! ### YtdomeeaaidjmpaaXRightRef -/
namespace Go.Proofs.Ytdomeeaaidjmpaa.PA
open Go.RowKit Go.Proofs.YtdomeeaaidjmpaaW.PrintWords Go.Proofs.YtdomeeaaidjmpaaW.PrintLast Go.Proofs.YtdomeeaaidjmpaaW.PrintMore
attribute [local go_sem] max2_int min2_int max_two min_two max_three min_three max_four min_four
set_option linter.unusedVariables false
set_option linter.unusedSimpArgs false
theorem rright_l (l : List ByteArray) (hsz : ∀ s ∈ l, s.size < 4398046511104) (hl : l.length < 9223372036854775807) : ∀ k j : Nat, j ≤ l.length → l.length - j + 50 < k → remoraref13_Right.l0 k l (j : Int) = some ((l.drop j).all partB)
  | 0, j, _, h => by omega
  | k + 1, j, hj, h => by
    unfold remoraref13_Right.l0
    by_cases hlt : j < l.length
    · rw [if_pos (show (j : Int) < (l.length : Int) by omega), if_pos (show 0 ≤ (j : Int) by omega)]
      have e : rdOf ByteArray.empty l (j : Int) = l[j]'hlt := by
        simp [rdOf, hlt]
      have hs := hsz _ (List.getElem_mem hlt)
      rw [e, List.drop_eq_getElem_cons hlt, List.all_cons]
      have ih := rright_l l hsz hl k (j + 1) (by omega) (by omega)
      have e2 : wrap64 ((j : Int) + 1) = ((j + 1 : Nat) : Int) := by rw [wr64 _ (by omega) (by omega)]; rfl
      rw [e2]
      generalize l[j]'hlt = s at *
      unfold partB
      by_cases h1 : s.toList = ([] : List UInt8)
      · rw [if_pos h1, beq_iff_eq.mpr h1]
        rfl
      · rw [if_neg h1, beq_eq_false_iff_ne.mpr h1]
        by_cases h3 : s.toList = ([46] : List UInt8)
        · rw [if_pos h3, beq_iff_eq.mpr h3]
          simp
        · rw [if_neg h3, beq_eq_false_iff_ne.mpr h3]
          by_cases h4 : s.toList = ([46, 46] : List UInt8)
          · rw [if_pos h4, beq_iff_eq.mpr h4]
            simp
          · rw [if_neg h4, beq_eq_false_iff_ne.mpr h4]
            by_cases h2 : (s.size : Int) > 48
            · rw [if_pos h2, decide_eq_false (show ¬ (s.size : Int) ≤ 48 by omega)]
              rfl
            · rw [if_neg h2, decide_eq_true (show (s.size : Int) ≤ 48 by omega), rnought_f s hs k (by omega), Option.bind_some]
              by_cases hn : 0 ≤ Lib.indexByte s.data.toList 0
              · rw [decide_eq_true hn, if_pos rfl, decide_eq_false (show ¬ Lib.indexByte s.data.toList 0 < 0 by omega)]
                rfl
              · rw [decide_eq_false hn, if_neg (by decide), decide_eq_true (show Lib.indexByte s.data.toList 0 < 0 by omega), ih]
                rfl
    · obtain rfl : j = l.length := by omega
      rw [if_neg (by omega), List.drop_length]
      rfl
theorem extract_le (s : ByteArray) (a b : Nat) : (s.extract a b).size ≤ s.size := by
  rw [ByteArray.size_extract]
  omega
theorem splitTo_sizes (s : ByteArray) : ∀ k, ∀ t ∈ (splitTo s k).1, t.size ≤ s.size
  | 0 => by simp [splitTo]
  | k + 1 => by
    have ih := splitTo_sizes s k
    unfold splitTo
    split
    · intro t ht
      rcases List.mem_append.1 ht with h | h
      · exact ih t h
      · rw [List.mem_singleton.1 h]
        exact extract_le _ _ _
    · exact ih
theorem splitL_sizes (s : ByteArray) : ∀ t ∈ splitL s, t.size ≤ s.size := by
  unfold splitL
  split
  · simp
  · intro t ht
    rcases List.mem_append.1 ht with h | h
    · exact splitTo_sizes s _ t h
    · rw [List.mem_singleton.1 h]
      exact extract_le _ _ _
theorem rright_f (s : ByteArray) (hs : s.size < 4398046511104) (k : Nat) (hk : s.size + 60 < k) : remoraref13_Right.f k s = some (rightB s) := by
  unfold remoraref13_Right.f
  rw [rsplit_f s hs k (by omega), Option.bind_some]
  have hl := splitL_len s
  have hz := splitL_sizes s
  unfold rightB
  cases k with
  | zero => omega
  | succ k =>
    have hj : ∀ b, remoraref13_Right.j0 (k + 1) (splitL s) b = if b = true then some false else remoraref13_Right.l0 k (splitL s) 0 := fun _ => rfl
    have hr := rright_l (splitL s) (fun t ht => by have := hz t ht; omega) (by omega) k 0 (by omega) (by omega)
    rw [List.drop_zero] at hr
    by_cases h1 : ((splitL s).length : Int) > 12
    · rw [if_pos h1, hj, if_pos rfl, decide_eq_false (show ¬ ((splitL s).length : Int) ≤ 12 by omega)]
      simp
    · rw [if_neg h1, hj, decide_eq_true (show ((splitL s).length : Int) ≤ 12 by omega)]
      by_cases h2 : (s.size : Int) > 200
      · rw [decide_eq_true h2, if_pos rfl, decide_eq_false (show ¬ (s.size : Int) ≤ 200 by omega)]
        simp
      · rw [decide_eq_false h2, if_neg (by decide), decide_eq_true (show (s.size : Int) ≤ 200 by omega)]
        rw [show ((0 : Nat) : Int) = 0 from rfl] at hr
        rw [hr]
        simp
end Go.Proofs.Ytdomeeaaidjmpaa.PA
/-! ### YtdomeeaaidjmpaaXPathPartsLaw -/
namespace Go.Proofs.Ytdomeeaaidjmpaa.PA
open Go.RowKit Go.Proofs.YtdomeeaaidjmpaaW.PrintWords Go.Proofs.YtdomeeaaidjmpaaW.PrintLast Go.Proofs.YtdomeeaaidjmpaaW.PrintMore
attribute [local go_sem] max2_int min2_int max_two min_two max_three min_three max_four min_four
set_option linter.unusedVariables false
set_option linter.unusedSimpArgs false
theorem pathParts_f (a : ByteArray) (ha : sml a) : remoralaw13_PathParts.f 3000000 a = some true := by
  generalize hk : 3000000 = k
  have hk1 : 3000000 ≤ k := by omega
  have hk2 : 1048580 ≤ k := by omega
  clear hk
  have ha' := ha
  unfold sml at ha'
  have hl := spl_len a ha
  rw [remoralaw13_PathParts.f, right_f a (by omega) k (by omega), Option.bind_some, rright_f a (by omega) k (by omega), Option.bind_some, if_pos (beq_self_eq_true _), psplit_f a ha, Option.bind_some, rsp_f a ha k hk2, Option.bind_some, texts_f _ _ k (by omega) (by omega), Option.bind_some, if_pos (decide_eq_true rfl), base_f a ha k hk2, Option.bind_some, rbase_f a ha k hk2, Option.bind_some, if_pos rfl, parent_f a ha k hk2, Option.bind_some, rparent_f a ha k hk2, Option.bind_some, if_pos rfl, depth_f a ha, Option.bind_some, rdepth_f a ha k hk2, Option.bind_some, if_pos rfl, awake13 k (by omega), Option.bind_some]
theorem pathParts_law (a0 : ByteArray) (h0 : a0.size ≤ 1048576) (w : World) :
    Calls Try.prog 7 #[.string a0] w fun e w' => e = .returned (.bool true) ∧ Below w.heap.size w w' :=
  remoralaw13_PathParts.calls 3000000 a0 true w (pathParts_f a0 h0)
end Go.Proofs.Ytdomeeaaidjmpaa.PA
namespace Go.Proofs.Ytdomeeaaidjmpaa.pathPartsUptoRow
open Go.ChangeShapes Go.WideShapes Go.ChangeAt Go.RowKit Go.Proofs.Ytdomeeaaidjmpaa.PA
open Go.ChangeMaps (open_string shut_string)
theorem own : ownKnob Try.prog.godebug = none := by kernel_rfl
set_option maxHeartbeats 1000000 in
set_option maxRecDepth 100000 in
theorem lifted (os : Os) (started : os.Started) (H : Type) (enc : TypeId × Value → H) (F : Stop.Interp) :
    ReturnsInHanded {} Try.checked os 7 .any ((Rows.OpenSpec.upto Rows.pathPartsSpec).pre6 enc Try.prog Try.f7 Rows.pathPartsUptoRow.domain false) (((Rows.OpenSpec.upto Rows.pathPartsSpec).at F).post enc Try.prog Try.f7 false true false false) := by
  refine returnsInHanded_of_cond (C := Try.checked) (s := (Rows.OpenSpec.upto Rows.pathPartsSpec)) (k := Rows.uptoSmall) rfl own started (by kernel_rfl) Try.func7
    (OpenSpec.witness (enc := enc) (C := Try.checked) (s := (Rows.OpenSpec.upto Rows.pathPartsSpec)) (k := Rows.uptoSmall) rfl false ⟨#[], #[.string .empty], []⟩ 8 (by kernel_rfl) (by kernel_rfl) (by kernel_rfl)
      (x := ([.lit (.string [])], [], [])) (by kernel_rfl) rfl (by kernel_rfl)) ?_
  intro W base args ds gs before hval0 hW _ hk _
  have hval : ∀ (j : Nat) t v, Try.f7.params[j]? = some t → args[j]? = some v → Value.okWide Try.prog W .any base t v := hval0
  have hW' := hW
  obtain ⟨p, q, hA0, hV, rfl, hfz, hnd⟩ := hW
  have hA : DataW.TrodAll enc Try.prog W 0 (fun _ => true) true Try.f7.params.toList args.toList ds p := hA0
  rw [Try.params7] at hA hval
  obtain ⟨v0, vs0, d0, ds0, p0, q0, hargs, rfl, rfl, h0, r0⟩ := trodAll_cons hA
  obtain ⟨rfl, rfl, rfl⟩ := trodAll_nil r0
  obtain rfl : args = #[v0] := by cases args; simp_all
  obtain ⟨rfl, rfl⟩ := trodVars_none hV
  obtain ⟨a0, rfl, rfl, rfl, y0⟩ := open_string Try.underlying9 (hval 0 9 v0 rfl rfl) h0
  clear hA0 hval0
  simp only [List.append_nil] at hW' hk
  have hb : Rows.uptoBulkAll [DataW.lit (H := H) (.string a0.data.toList)] ≤ 1048576 := of_decide_eq_true hk
  simp only [Rows.uptoBulkAll, Rows.uptoBulk] at hb
  have e0 : a0.data.toList.length = a0.size := by rw [Array.length_toList]; rfl
  refine (pathParts_law a0 (by omega) W).mono fun e W' ⟨he, bel⟩ => ?_
  subst he
  exact ⟨_, rfl, _, _, _, [], _, [], hW', trodAll_mk1 (shut_bool Try.underlying4 _), (trodAll_cons_mk (shut_string Try.underlying9 y0) trodAll_mk0), rfl, bel.frame _, fun h => by cases h⟩
theorem proved : Rows.PathPartsUptoSaid :=
  OpenClaim.holds_of_cond 7 Try.f7 rfl rfl rfl rfl rfl rfl rfl ⟨rfl, rfl, rfl, rfl, rfl⟩ rfl rfl rfl rfl rfl (by kernel_rfl) Try.func7 (by kernel_rfl)
    (of_decide_eq_true (by kernel_rfl)) (by unfold Func.isWrapper; first | (rw [if_pos (by decide +kernel)]; kernel_rfl) | (rw [if_neg (by decide +kernel)]; exact ⟨rfl, rfl⟩))
    (fun os started H enc _ F => lifted os started H enc F)
#print axioms proved
end Go.Proofs.Ytdomeeaaidjmpaa.pathPartsUptoRow
namespace Go.Proofs.Ytdomeeaaidjmpaa
/-- The row, under a short name, for the claim. -/
theorem pathParts_holds : Rows.PathPartsUptoSaid := pathPartsUptoRow.proved
end Go.Proofs.Ytdomeeaaidjmpaa
namespace Go.Proofs.Ytdomeeaaidjmpaa.PA
end Go.Proofs.Ytdomeeaaidjmpaa.PA
