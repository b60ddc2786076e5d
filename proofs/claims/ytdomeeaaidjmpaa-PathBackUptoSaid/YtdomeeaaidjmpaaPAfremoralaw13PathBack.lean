-- Written by a program of this session (the kit's print with this repo's externals: px.py).
import Derived.Test.YtdomeeaaidjmpaaPAx0
import Derived.Test.YtdomeeaaidjmpaaPAfpathCommon
import Derived.Test.YtdomeeaaidjmpaaPAfremoralaw13awake
import Derived.Test.YtdomeeaaidjmpaaPAfpathJoin
import Derived.Test.YtdomeeaaidjmpaaPAfpathRight
import Derived.Test.YtdomeeaaidjmpaaPAfpathDepth
import Derived.Test.YtdomeeaaidjmpaaPAfpathUnder
import Derived.Test.YtdomeeaaidjmpaaPAfpathRel
import Derived.Test.YtdomeeaaidjmpaaPAfpathBase
import Derived.Test.YtdomeeaaidjmpaaPAfpathParent
namespace Go.Proofs.Ytdomeeaaidjmpaa.PA
open Go.RowKit Go.Proofs.YtdomeeaaidjmpaaW.PrintWords Go.Proofs.YtdomeeaaidjmpaaW.PrintLast Go.Proofs.YtdomeeaaidjmpaaW.PrintMore
attribute [local go_sem] max2_int min2_int max_two min_two max_three min_three max_four min_four   -- for this text's walks alone
set_option linter.unusedVariables false
set_option linter.unusedSimpArgs false

/-! ### remoralaw13_PathBack: function 8 -/
mutual
def remoralaw13_PathBack.j0 : Nat → ByteArray → ByteArray → Bool → Option (Bool)
  | 0, _, _, _ => none
  | k + 1, x0, x1, x20 => if x20 = true then ((remoralaw13_awake.f k).bind fun t103 => (some t103)) else ((path_Common.f k x0 x1).bind fun t104 => ((path_Rel.f k x0 t104).bind fun bt105 => ((path_Join.f k (([t104, bt105.1] : List ByteArray))).bind fun bt110 => ((path_Parent.f k x0).bind fun t112 => ((path_Base.f k x0).bind fun t113 => ((path_Join.f k (([t112, t113] : List ByteArray))).bind fun bt117 => (if bt105.2 = true then (if bt110.2 = 0 then (if bt110.1.toList = x0.toList then (if bt117.2 = 0 then (if bt117.1.toList = x0.toList then ((path_Right.f k t104).bind fun t119 => (if t119 = true then ((path_Under.f k x1 t104).bind fun t120 => (if t120 = true then ((path_Common.f k x1 x0).bind fun t121 => (remoralaw13_PathBack.j1 k x0 x1 t104 (t121.toList != t104.toList))) else (remoralaw13_PathBack.j1 k x0 x1 t104 true))) else (remoralaw13_PathBack.j1 k x0 x1 t104 true))) else (remoralaw13_PathBack.j1 k x0 x1 t104 true)) else (remoralaw13_PathBack.j1 k x0 x1 t104 true)) else (remoralaw13_PathBack.j1 k x0 x1 t104 true)) else (remoralaw13_PathBack.j1 k x0 x1 t104 true)) else (remoralaw13_PathBack.j1 k x0 x1 t104 true))))))))
def remoralaw13_PathBack.j1 : Nat → ByteArray → ByteArray → ByteArray → Bool → Option (Bool)
  | 0, _, _, _, _ => none
  | k + 1, x0, x1, x5, x84 => if x84 = true then (some false) else ((path_Parent.f k x0).bind fun t122 => ((path_Under.f k x5 t122).bind fun t123 => ((path_Under.f k x1 t122).bind fun t124 => (if (t123 == t124) = true then ((path_Depth.f t122).bind fun t125 => ((path_Depth.f x0).bind fun t126 => (if t125 = (mx 0 (wrap64 (t126 - 1))) then ((remoralaw13_awake.f k).bind fun t127 => (some t127)) else (some false)))) else (some false)))))
end
def remoralaw13_PathBack.f (k : Nat) (a0 : ByteArray) (a1 : ByteArray) : Option (Bool) := (path_Right.f k a0).bind fun t101 => (if t101 = true then ((path_Right.f k a1).bind fun t102 => (remoralaw13_PathBack.j0 k a0 a1 (!t102))) else (remoralaw13_PathBack.j0 k a0 a1 true))
theorem remoralaw13_PathBack.mono_l : ∀ k, (∀ y0 y1 y2, LeO (remoralaw13_PathBack.j0 k y0 y1 y2) (remoralaw13_PathBack.j0 (k + 1) y0 y1 y2)) ∧ (∀ y0 y1 y2 y3, LeO (remoralaw13_PathBack.j1 k y0 y1 y2 y3) (remoralaw13_PathBack.j1 (k + 1) y0 y1 y2 y3))
  | 0 => ⟨fun _ _ _ r h => by simp [remoralaw13_PathBack.j0] at h, fun _ _ _ _ r h => by simp [remoralaw13_PathBack.j1] at h⟩
  | k + 1 => by
    obtain ⟨ih0, ih1⟩ := remoralaw13_PathBack.mono_l k
    refine ⟨?_, ?_⟩
    · intro y0 y1 y2
      unfold remoralaw13_PathBack.j0
      repeat' first
      | (with_reducible exact ih0 _ _ _)
      | (with_reducible exact ih1 _ _ _ _)
      | (with_reducible exact path_Base.mono _ _)
      | (with_reducible exact path_Common.mono _ _ _)
      | (with_reducible exact path_Join.mono _ _)
      | (with_reducible exact path_Parent.mono _ _)
      | (with_reducible exact path_Rel.mono _ _ _)
      | (with_reducible exact path_Right.mono _ _)
      | (with_reducible exact path_Under.mono _ _ _)
      | (with_reducible exact remoralaw13_awake.mono _)
      | (with_reducible exact LeO.refl _)
      | (with_reducible exact LeO.none _)
      | (with_reducible refine LeO.ite ?_ ?_)
      | (with_reducible refine LeO.bind ?_ (fun _ => ?_))
      | exact ih0 _ _ _
      | exact ih1 _ _ _ _
      | exact path_Base.mono _ _
      | exact path_Common.mono _ _ _
      | exact path_Join.mono _ _
      | exact path_Parent.mono _ _
      | exact path_Rel.mono _ _ _
      | exact path_Right.mono _ _
      | exact path_Under.mono _ _ _
      | exact remoralaw13_awake.mono _
      | exact LeO.none _
      | refine LeO.ite ?_ ?_
      | refine LeO.bind ?_ (fun _ => ?_)
    · intro y0 y1 y2 y3
      unfold remoralaw13_PathBack.j1
      repeat' first
      | (with_reducible exact ih0 _ _ _)
      | (with_reducible exact ih1 _ _ _ _)
      | (with_reducible exact path_Base.mono _ _)
      | (with_reducible exact path_Common.mono _ _ _)
      | (with_reducible exact path_Join.mono _ _)
      | (with_reducible exact path_Parent.mono _ _)
      | (with_reducible exact path_Rel.mono _ _ _)
      | (with_reducible exact path_Right.mono _ _)
      | (with_reducible exact path_Under.mono _ _ _)
      | (with_reducible exact remoralaw13_awake.mono _)
      | (with_reducible exact LeO.refl _)
      | (with_reducible exact LeO.none _)
      | (with_reducible refine LeO.ite ?_ ?_)
      | (with_reducible refine LeO.bind ?_ (fun _ => ?_))
      | exact ih0 _ _ _
      | exact ih1 _ _ _ _
      | exact path_Base.mono _ _
      | exact path_Common.mono _ _ _
      | exact path_Join.mono _ _
      | exact path_Parent.mono _ _
      | exact path_Rel.mono _ _ _
      | exact path_Right.mono _ _
      | exact path_Under.mono _ _ _
      | exact remoralaw13_awake.mono _
      | exact LeO.none _
      | refine LeO.ite ?_ ?_
      | refine LeO.bind ?_ (fun _ => ?_)
theorem remoralaw13_PathBack.mono : ∀ a0 a1 k, LeO (remoralaw13_PathBack.f k a0 a1) (remoralaw13_PathBack.f (k + 1) a0 a1) := by
  intro a0 a1 k
  obtain ⟨ih0, ih1⟩ := remoralaw13_PathBack.mono_l k
  unfold remoralaw13_PathBack.f
  repeat' first
      | (with_reducible exact ih0 _ _ _)
      | (with_reducible exact ih1 _ _ _ _)
      | (with_reducible exact path_Base.mono _ _)
      | (with_reducible exact path_Common.mono _ _ _)
      | (with_reducible exact path_Join.mono _ _)
      | (with_reducible exact path_Parent.mono _ _)
      | (with_reducible exact path_Rel.mono _ _ _)
      | (with_reducible exact path_Right.mono _ _)
      | (with_reducible exact path_Under.mono _ _ _)
      | (with_reducible exact remoralaw13_awake.mono _)
      | (with_reducible exact LeO.refl _)
      | (with_reducible exact LeO.none _)
      | (with_reducible refine LeO.ite ?_ ?_)
      | (with_reducible refine LeO.bind ?_ (fun _ => ?_))
      | exact ih0 _ _ _
      | exact ih1 _ _ _ _
      | exact path_Base.mono _ _
      | exact path_Common.mono _ _ _
      | exact path_Join.mono _ _
      | exact path_Parent.mono _ _
      | exact path_Rel.mono _ _ _
      | exact path_Right.mono _ _
      | exact path_Under.mono _ _ _
      | exact remoralaw13_awake.mono _
      | exact LeO.none _
      | refine LeO.ite ?_ ?_
      | refine LeO.bind ?_ (fun _ => ?_)
set_option maxHeartbeats 8000000 in
set_option maxRecDepth 100000 in
theorem remoralaw13_PathBack.calls (k : Nat) (a0 : ByteArray) (a1 : ByteArray) (r : Bool) (w : World) (h : remoralaw13_PathBack.f k a0 a1 = some r) :
    Calls Try.prog 8 #[.string a0, .string a1] w fun e w' => e = .returned (.bool r) ∧ Below w.heap.size w w' := by
  have HB := Aside0.mk (Below.refl w.heap.size w)
  have H : ((path_Right.f k a0).bind fun t101 => (if t101 = true then ((path_Right.f k a1).bind fun t102 => (remoralaw13_PathBack.j0 k a0 a1 (!t102))) else (remoralaw13_PathBack.j0 k a0 a1 true))) = some r := h
  clear h
  have HC3 := Aside0.mk H
  clear H
  go_enter Try.func8, Try.ntmps8
  go_upto_region 1 with (fail)
  go_cut [20] (fun v20 wc => ∃ (kq : Nat) (x20_2 : Bool), v20 = .bool x20_2 ∧ Aside0 (remoralaw13_PathBack.j0 kq a0 a1 x20_2 = some r) ∧ Aside0 (kq ≤ k) ∧ Aside0 (Below w.heap.size w wc))
  case first =>
    have H := HC3.out
    clear HC3
    replace H := Option.bind_eq_some_iff.mp H
    obtain ⟨t101, A40, H⟩ := H
    replace H : (if t101 = true then ((path_Right.f k a1).bind fun t102 => (remoralaw13_PathBack.j0 k a0 a1 (!t102))) else (remoralaw13_PathBack.j0 k a0 a1 true)) = some r := H
    have A4 := Aside0.mk A40
    clear A40
    by_cases c5 : t101 = true
    · subst c5
      have H1 : ((path_Right.f k a1).bind fun t102 => (remoralaw13_PathBack.j0 k a0 a1 (!t102))) = some r := by rw [if_pos rfl] at H; exact H
      clear H
      have H := H1
      clear H1
      replace H := Option.bind_eq_some_iff.mp H
      obtain ⟨t102, A60, H⟩ := H
      replace H : (remoralaw13_PathBack.j0 k a0 a1 (!t102)) = some r := H
      have A6 := Aside0.mk A60
      clear A60
      have H' := Aside0.mk H
      clear H
      go_wp2_with (first | ((with_reducible refine gate_callee (f := 16) rfl ?_); refine goesL_ (some 14) rfl rfl Try.func16 (by kernel_rfl) rfl #[.string a0] rfl (by (try simp only [List.map_toArray, List.map_cons, List.map_nil]); first | done | rfl | (simp only [List.length_drop, List.length_take]; rfl)) ?_; (with_reducible refine (path_Right.calls k a0 true _ A4.out).mono ?_); rintro e w7 ⟨rfl, hb⟩; refine ⟨_, rfl, ?_⟩; have n0_ := Aside0.mk (below_step (by repeat (first | (with_reducible first | exact HB.out | apply below_alloc | apply pw_below_drewN | apply below_drew1) | exact HB.out)) hb); clear HB; have HB := n0_; clear n0_; (try clear hb); (try clear hb2); (try clear hk); (try clear hi)) | (go_at_call 16; (with_reducible refine (path_Right.calls k a1 t102 _ A6.out).mono ?_); rintro e w8 ⟨rfl, hb⟩; have n0_ := Aside0.mk (below_step (by repeat (first | (with_reducible first | exact HB.out | apply below_alloc | apply pw_below_drewN | apply below_drew1) | exact HB.out)) hb); clear HB; have HB := n0_; clear n0_; (try clear hb); (try clear hb2); (try clear hk); (try clear hi)))
      go_meet
      case rel => exact ⟨_, (!t102), (by first | rfl | (simp; done) | (simp [*]; done)), H', ⟨by first | omega | exact Nat.le_refl _⟩, ⟨by repeat (first | (with_reducible first | exact HB.out | apply below_alloc | apply pw_below_drewN | apply below_drew1) | exact HB.out)⟩⟩
    · replace c5 := Bool.eq_false_iff.mpr c5
      subst c5
      have H1 : (remoralaw13_PathBack.j0 k a0 a1 true) = some r := by rw [if_neg (show ¬ (false = true) by decide)] at H; exact H
      clear H
      have H := H1
      clear H1
      have H' := Aside0.mk H
      clear H
      go_wp2_with (first | ((with_reducible refine gate_callee (f := 16) rfl ?_); refine goesL_ (some 14) rfl rfl Try.func16 (by kernel_rfl) rfl #[.string a0] rfl (by (try simp only [List.map_toArray, List.map_cons, List.map_nil]); first | done | rfl | (simp only [List.length_drop, List.length_take]; rfl)) ?_; (with_reducible refine (path_Right.calls k a0 false _ A4.out).mono ?_); rintro e w9 ⟨rfl, hb⟩; refine ⟨_, rfl, ?_⟩; have n0_ := Aside0.mk (below_step (by repeat (first | (with_reducible first | exact HB.out | apply below_alloc | apply pw_below_drewN | apply below_drew1) | exact HB.out)) hb); clear HB; have HB := n0_; clear n0_; (try clear hb); (try clear hb2); (try clear hk); (try clear hi)))
      go_meet
      case rel => exact ⟨_, (true), (by first | rfl | (simp; done) | (simp [*]; done)), H', ⟨by first | omega | exact Nat.le_refl _⟩, ⟨by repeat (first | (with_reducible first | exact HB.out | apply below_alloc | apply pw_below_drewN | apply below_drew1) | exact HB.out)⟩⟩
  case rest =>
    clear HC3
    try clear c1
    try clear p2
    try clear c5
    try clear c8
    obtain ⟨kq, x20_2, rfl, HA, HJ2, HB⟩ := hcut
    cases kq with
    | zero => exact absurd HA.out (by simp [remoralaw13_PathBack.j0])
    | succ kj2 =>
      have H := HA.out
      clear HA
      simp only [remoralaw13_PathBack.j0] at H
      by_cases c10 : x20_2 = true
      · subst c10
        have H1 : ((remoralaw13_awake.f kj2).bind fun t103 => (some t103)) = some r := by rw [if_pos rfl] at H; exact H
        clear H
        have H := H1
        clear H1
        replace H := Option.bind_eq_some_iff.mp H
        obtain ⟨t103, A110, H⟩ := H
        replace H : (some t103) = some r := H
        have A11 := Aside0.mk A110
        clear A110
        obtain rfl := Option.some.inj H
        go_wp2_with (first | ((with_reducible refine gate_callee (f := 11) rfl ?_); refine goesL_ (some 21) rfl rfl Try.func11 (by kernel_rfl) rfl #[] rfl (by (try simp only [List.map_toArray, List.map_cons, List.map_nil]); first | done | rfl | (simp only [List.length_drop, List.length_take]; rfl)) ?_; (with_reducible refine (remoralaw13_awake.calls kj2  t103 _ A11.out).mono ?_); rintro e w12 ⟨rfl, hb⟩; refine ⟨_, rfl, ?_⟩; have n0_ := Aside0.mk (below_step (by repeat (first | (with_reducible first | exact HB.out | apply below_alloc | apply pw_below_drewN | apply below_drew1) | exact HB.out)) hb); clear HB; have HB := n0_; clear n0_; (try clear hb); (try clear hb2); (try clear hk); (try clear hi)))
        go_ret
        exact ⟨by first | rfl | (simp [errW_none, errW_some] <;> rfl) | (simp [*, errW_none, errW_some] <;> rfl), by repeat (first | (with_reducible first | exact HB.out | apply below_alloc | apply pw_below_drewN | apply below_drew1) | exact HB.out)⟩
      · replace c10 := Bool.eq_false_iff.mpr c10
        subst c10
        have H1 : ((path_Common.f kj2 a0 a1).bind fun t104 => ((path_Rel.f kj2 a0 t104).bind fun bt105 => ((path_Join.f kj2 (([t104, bt105.1] : List ByteArray))).bind fun bt110 => ((path_Parent.f kj2 a0).bind fun t112 => ((path_Base.f kj2 a0).bind fun t113 => ((path_Join.f kj2 (([t112, t113] : List ByteArray))).bind fun bt117 => (if bt105.2 = true then (if bt110.2 = 0 then (if bt110.1.toList = a0.toList then (if bt117.2 = 0 then (if bt117.1.toList = a0.toList then ((path_Right.f kj2 t104).bind fun t119 => (if t119 = true then ((path_Under.f kj2 a1 t104).bind fun t120 => (if t120 = true then ((path_Common.f kj2 a1 a0).bind fun t121 => (remoralaw13_PathBack.j1 kj2 a0 a1 t104 (t121.toList != t104.toList))) else (remoralaw13_PathBack.j1 kj2 a0 a1 t104 true))) else (remoralaw13_PathBack.j1 kj2 a0 a1 t104 true))) else (remoralaw13_PathBack.j1 kj2 a0 a1 t104 true)) else (remoralaw13_PathBack.j1 kj2 a0 a1 t104 true)) else (remoralaw13_PathBack.j1 kj2 a0 a1 t104 true)) else (remoralaw13_PathBack.j1 kj2 a0 a1 t104 true)) else (remoralaw13_PathBack.j1 kj2 a0 a1 t104 true)))))))) = some r := by rw [if_neg (show ¬ (false = true) by decide)] at H; exact H
        clear H
        have H := H1
        clear H1
        replace H := Option.bind_eq_some_iff.mp H
        obtain ⟨t104, A130, H⟩ := H
        replace H : ((path_Rel.f kj2 a0 t104).bind fun bt105 => ((path_Join.f kj2 (([t104, bt105.1] : List ByteArray))).bind fun bt110 => ((path_Parent.f kj2 a0).bind fun t112 => ((path_Base.f kj2 a0).bind fun t113 => ((path_Join.f kj2 (([t112, t113] : List ByteArray))).bind fun bt117 => (if bt105.2 = true then (if bt110.2 = 0 then (if bt110.1.toList = a0.toList then (if bt117.2 = 0 then (if bt117.1.toList = a0.toList then ((path_Right.f kj2 t104).bind fun t119 => (if t119 = true then ((path_Under.f kj2 a1 t104).bind fun t120 => (if t120 = true then ((path_Common.f kj2 a1 a0).bind fun t121 => (remoralaw13_PathBack.j1 kj2 a0 a1 t104 (t121.toList != t104.toList))) else (remoralaw13_PathBack.j1 kj2 a0 a1 t104 true))) else (remoralaw13_PathBack.j1 kj2 a0 a1 t104 true))) else (remoralaw13_PathBack.j1 kj2 a0 a1 t104 true)) else (remoralaw13_PathBack.j1 kj2 a0 a1 t104 true)) else (remoralaw13_PathBack.j1 kj2 a0 a1 t104 true)) else (remoralaw13_PathBack.j1 kj2 a0 a1 t104 true)) else (remoralaw13_PathBack.j1 kj2 a0 a1 t104 true))))))) = some r := H
        have A13 := Aside0.mk A130
        clear A130
        replace H := Option.bind_eq_some_iff.mp H
        obtain ⟨⟨t105, t106⟩, A140, H⟩ := H
        replace H : ((path_Join.f kj2 (([t104, t105] : List ByteArray))).bind fun bt110 => ((path_Parent.f kj2 a0).bind fun t112 => ((path_Base.f kj2 a0).bind fun t113 => ((path_Join.f kj2 (([t112, t113] : List ByteArray))).bind fun bt117 => (if t106 = true then (if bt110.2 = 0 then (if bt110.1.toList = a0.toList then (if bt117.2 = 0 then (if bt117.1.toList = a0.toList then ((path_Right.f kj2 t104).bind fun t119 => (if t119 = true then ((path_Under.f kj2 a1 t104).bind fun t120 => (if t120 = true then ((path_Common.f kj2 a1 a0).bind fun t121 => (remoralaw13_PathBack.j1 kj2 a0 a1 t104 (t121.toList != t104.toList))) else (remoralaw13_PathBack.j1 kj2 a0 a1 t104 true))) else (remoralaw13_PathBack.j1 kj2 a0 a1 t104 true))) else (remoralaw13_PathBack.j1 kj2 a0 a1 t104 true)) else (remoralaw13_PathBack.j1 kj2 a0 a1 t104 true)) else (remoralaw13_PathBack.j1 kj2 a0 a1 t104 true)) else (remoralaw13_PathBack.j1 kj2 a0 a1 t104 true)) else (remoralaw13_PathBack.j1 kj2 a0 a1 t104 true)))))) = some r := H
        have A14 := Aside0.mk A140
        clear A140
        obtain ⟨y107, hy107⟩ : ∃ y_ : List ByteArray, y_ = (([t104, t105] : List ByteArray)) := ⟨_, rfl⟩
        replace H : ((path_Join.f kj2 y107).bind fun bt110 => ((path_Parent.f kj2 a0).bind fun t112 => ((path_Base.f kj2 a0).bind fun t113 => ((path_Join.f kj2 (([t112, t113] : List ByteArray))).bind fun bt117 => (if t106 = true then (if bt110.2 = 0 then (if bt110.1.toList = a0.toList then (if bt117.2 = 0 then (if bt117.1.toList = a0.toList then ((path_Right.f kj2 t104).bind fun t119 => (if t119 = true then ((path_Under.f kj2 a1 t104).bind fun t120 => (if t120 = true then ((path_Common.f kj2 a1 a0).bind fun t121 => (remoralaw13_PathBack.j1 kj2 a0 a1 t104 (t121.toList != t104.toList))) else (remoralaw13_PathBack.j1 kj2 a0 a1 t104 true))) else (remoralaw13_PathBack.j1 kj2 a0 a1 t104 true))) else (remoralaw13_PathBack.j1 kj2 a0 a1 t104 true)) else (remoralaw13_PathBack.j1 kj2 a0 a1 t104 true)) else (remoralaw13_PathBack.j1 kj2 a0 a1 t104 true)) else (remoralaw13_PathBack.j1 kj2 a0 a1 t104 true)) else (remoralaw13_PathBack.j1 kj2 a0 a1 t104 true)))))) = some r := by first | (rw [hy107]; with_reducible exact H) | (have H2_ := (Option.bind_some _ _).symm.trans H; rw [hy107]; with_reducible exact H2_) | (have H2_ := (Option.bind_some _ _).symm.trans H; with_reducible exact H2_) | with_reducible exact H | (rw [hy107]; exact H) | exact H
        have Ny107 := Aside0.mk hy107
        clear hy107
        replace H := Option.bind_eq_some_iff.mp H
        obtain ⟨⟨t110, t111⟩, A150, H⟩ := H
        replace H : ((path_Parent.f kj2 a0).bind fun t112 => ((path_Base.f kj2 a0).bind fun t113 => ((path_Join.f kj2 (([t112, t113] : List ByteArray))).bind fun bt117 => (if t106 = true then (if t111 = 0 then (if t110.toList = a0.toList then (if bt117.2 = 0 then (if bt117.1.toList = a0.toList then ((path_Right.f kj2 t104).bind fun t119 => (if t119 = true then ((path_Under.f kj2 a1 t104).bind fun t120 => (if t120 = true then ((path_Common.f kj2 a1 a0).bind fun t121 => (remoralaw13_PathBack.j1 kj2 a0 a1 t104 (t121.toList != t104.toList))) else (remoralaw13_PathBack.j1 kj2 a0 a1 t104 true))) else (remoralaw13_PathBack.j1 kj2 a0 a1 t104 true))) else (remoralaw13_PathBack.j1 kj2 a0 a1 t104 true)) else (remoralaw13_PathBack.j1 kj2 a0 a1 t104 true)) else (remoralaw13_PathBack.j1 kj2 a0 a1 t104 true)) else (remoralaw13_PathBack.j1 kj2 a0 a1 t104 true)) else (remoralaw13_PathBack.j1 kj2 a0 a1 t104 true))))) = some r := H
        have A15 := Aside0.mk A150
        clear A150
        replace H := Option.bind_eq_some_iff.mp H
        obtain ⟨t112, A160, H⟩ := H
        replace H : ((path_Base.f kj2 a0).bind fun t113 => ((path_Join.f kj2 (([t112, t113] : List ByteArray))).bind fun bt117 => (if t106 = true then (if t111 = 0 then (if t110.toList = a0.toList then (if bt117.2 = 0 then (if bt117.1.toList = a0.toList then ((path_Right.f kj2 t104).bind fun t119 => (if t119 = true then ((path_Under.f kj2 a1 t104).bind fun t120 => (if t120 = true then ((path_Common.f kj2 a1 a0).bind fun t121 => (remoralaw13_PathBack.j1 kj2 a0 a1 t104 (t121.toList != t104.toList))) else (remoralaw13_PathBack.j1 kj2 a0 a1 t104 true))) else (remoralaw13_PathBack.j1 kj2 a0 a1 t104 true))) else (remoralaw13_PathBack.j1 kj2 a0 a1 t104 true)) else (remoralaw13_PathBack.j1 kj2 a0 a1 t104 true)) else (remoralaw13_PathBack.j1 kj2 a0 a1 t104 true)) else (remoralaw13_PathBack.j1 kj2 a0 a1 t104 true)) else (remoralaw13_PathBack.j1 kj2 a0 a1 t104 true)))) = some r := H
        have A16 := Aside0.mk A160
        clear A160
        replace H := Option.bind_eq_some_iff.mp H
        obtain ⟨t113, A170, H⟩ := H
        replace H : ((path_Join.f kj2 (([t112, t113] : List ByteArray))).bind fun bt117 => (if t106 = true then (if t111 = 0 then (if t110.toList = a0.toList then (if bt117.2 = 0 then (if bt117.1.toList = a0.toList then ((path_Right.f kj2 t104).bind fun t119 => (if t119 = true then ((path_Under.f kj2 a1 t104).bind fun t120 => (if t120 = true then ((path_Common.f kj2 a1 a0).bind fun t121 => (remoralaw13_PathBack.j1 kj2 a0 a1 t104 (t121.toList != t104.toList))) else (remoralaw13_PathBack.j1 kj2 a0 a1 t104 true))) else (remoralaw13_PathBack.j1 kj2 a0 a1 t104 true))) else (remoralaw13_PathBack.j1 kj2 a0 a1 t104 true)) else (remoralaw13_PathBack.j1 kj2 a0 a1 t104 true)) else (remoralaw13_PathBack.j1 kj2 a0 a1 t104 true)) else (remoralaw13_PathBack.j1 kj2 a0 a1 t104 true)) else (remoralaw13_PathBack.j1 kj2 a0 a1 t104 true))) = some r := H
        have A17 := Aside0.mk A170
        clear A170
        obtain ⟨y114, hy114⟩ : ∃ y_ : List ByteArray, y_ = (([t112, t113] : List ByteArray)) := ⟨_, rfl⟩
        replace H : ((path_Join.f kj2 y114).bind fun bt117 => (if t106 = true then (if t111 = 0 then (if t110.toList = a0.toList then (if bt117.2 = 0 then (if bt117.1.toList = a0.toList then ((path_Right.f kj2 t104).bind fun t119 => (if t119 = true then ((path_Under.f kj2 a1 t104).bind fun t120 => (if t120 = true then ((path_Common.f kj2 a1 a0).bind fun t121 => (remoralaw13_PathBack.j1 kj2 a0 a1 t104 (t121.toList != t104.toList))) else (remoralaw13_PathBack.j1 kj2 a0 a1 t104 true))) else (remoralaw13_PathBack.j1 kj2 a0 a1 t104 true))) else (remoralaw13_PathBack.j1 kj2 a0 a1 t104 true)) else (remoralaw13_PathBack.j1 kj2 a0 a1 t104 true)) else (remoralaw13_PathBack.j1 kj2 a0 a1 t104 true)) else (remoralaw13_PathBack.j1 kj2 a0 a1 t104 true)) else (remoralaw13_PathBack.j1 kj2 a0 a1 t104 true))) = some r := by first | (rw [hy114]; with_reducible exact H) | (have H2_ := (Option.bind_some _ _).symm.trans H; rw [hy114]; with_reducible exact H2_) | (have H2_ := (Option.bind_some _ _).symm.trans H; with_reducible exact H2_) | with_reducible exact H | (rw [hy114]; exact H) | exact H
        have Ny114 := Aside0.mk hy114
        clear hy114
        replace H := Option.bind_eq_some_iff.mp H
        obtain ⟨⟨t117, t118⟩, A180, H⟩ := H
        replace H : (if t106 = true then (if t111 = 0 then (if t110.toList = a0.toList then (if t118 = 0 then (if t117.toList = a0.toList then ((path_Right.f kj2 t104).bind fun t119 => (if t119 = true then ((path_Under.f kj2 a1 t104).bind fun t120 => (if t120 = true then ((path_Common.f kj2 a1 a0).bind fun t121 => (remoralaw13_PathBack.j1 kj2 a0 a1 t104 (t121.toList != t104.toList))) else (remoralaw13_PathBack.j1 kj2 a0 a1 t104 true))) else (remoralaw13_PathBack.j1 kj2 a0 a1 t104 true))) else (remoralaw13_PathBack.j1 kj2 a0 a1 t104 true)) else (remoralaw13_PathBack.j1 kj2 a0 a1 t104 true)) else (remoralaw13_PathBack.j1 kj2 a0 a1 t104 true)) else (remoralaw13_PathBack.j1 kj2 a0 a1 t104 true)) else (remoralaw13_PathBack.j1 kj2 a0 a1 t104 true)) = some r := H
        have A18 := Aside0.mk A180
        clear A180
        have HC19 := Aside0.mk H
        clear H
        go_upto_region 7 with (first | ((with_reducible refine gate_callee (f := 26) rfl ?_); refine goesL_ (some 24) rfl rfl Try.func26 (by kernel_rfl) rfl #[.string a0, .string a1] rfl (by (try simp only [List.map_toArray, List.map_cons, List.map_nil]); first | done | rfl | (simp only [List.length_drop, List.length_take]; rfl)) ?_; (with_reducible refine (path_Common.calls kj2 a0 a1 t104 _ A13.out).mono ?_); rintro e w20 ⟨rfl, hb⟩; refine ⟨_, rfl, ?_⟩; have n0_ := Aside0.mk (below_step (by repeat (first | (with_reducible first | exact HB.out | apply below_alloc | apply pw_below_drewN | apply below_drew1) | exact HB.out)) hb); clear HB; have HB := n0_; clear n0_; (try clear hb); (try clear hb2); (try clear hk); (try clear hi)) | ((with_reducible refine gate_callee (f := 22) rfl ?_); refine goesL_ (some 28) rfl rfl Try.func22 (by kernel_rfl) rfl #[.string a0, .string t104] rfl (by (try simp only [List.map_toArray, List.map_cons, List.map_nil]); first | done | rfl | (simp only [List.length_drop, List.length_take]; rfl)) ?_; (with_reducible refine (path_Rel.calls kj2 a0 t104 t105 t106 _ A14.out).mono ?_); rintro e w21 ⟨rfl, hb⟩; refine ⟨_, rfl, ?_⟩; have n0_ := Aside0.mk (below_step (by repeat (first | (with_reducible first | exact HB.out | apply below_alloc | apply pw_below_drewN | apply below_drew1) | exact HB.out)) hb); clear HB; have HB := n0_; clear n0_; (try clear hb); (try clear hb2); (try clear hk); (try clear hi)) | ((with_reducible refine gate_dst (N := 34) rfl ?_); (try (refine gate_guard (by rfl) ?_; dsimp only)); refine Kd.R_lit Kd.string _ 9 ?hg (N := 34) ?hd (xs := ([t104, t105] : List ByteArray)) (inner := [.string t104, .string t105]) (ok := fun _ => True) (okp := fun _ => True) ?hr ?hp (fun _ hk => hk) trivial (Below.refl _ _) (Nat.le_refl _) (by simp) ?_; (case hd => rfl); (case hg => rfl); (case hr => first | (go_simp; done) | (go_simp; rfl)); (case hp => exact (Reps.one (show Kd.M Kd.string _ _ _ t104 [.string t104] from rfl) (Reps.one (show Kd.M Kd.string _ _ _ t105 [.string t105] from rfl) (Reps.none _ _)))); intro v108 w22 ho23 hb hg_ hnew_; clear hg_ hnew_; (first | rw [← Ny107.out] at ho23 | (simp only [Int.reduceToNat] at ho23; rw [← Ny107.out] at ho23)); have n0_ := Aside0.mk (Kd.R_lower ho23 (below_size (by repeat (first | (with_reducible first | exact HB.out | apply below_alloc | apply pw_below_drewN | apply below_drew1) | exact HB.out)))); have n1_ := Aside0.mk (below_step (by repeat (first | (with_reducible first | exact HB.out | apply below_alloc | apply pw_below_drewN | apply below_drew1) | exact HB.out)) hb); clear HB; have HO109 := n0_; have HB := n1_; clear n0_ n1_; clear hb ho23; obtain ⟨Ao24, co24, eo24⟩ := Kd.R_slice HO109.out; subst eo24) | ((with_reducible refine gate_callee (f := 12) rfl ?_); refine goesL_ (some 35) rfl rfl Try.func12 (by kernel_rfl) rfl #[.slice Ao24 y107.length co24] rfl (by (try simp only [List.map_toArray, List.map_cons, List.map_nil]); first | done | rfl | (simp only [List.length_drop, List.length_take]; rfl)) ?_; (with_reducible refine (path_Join.calls kj2 _ _ y107 t110 t111 _ ?side1 ?side2 A15.out).mono ?_); (case side1 => repeat (first | exact (Kd.R_reads' HO109.out).2.2 | (with_reducible refine Kd.C_alloc ?_ _) | (with_reducible refine Kd.C_drewN ?_ _) | (with_reducible refine Kd.C_drew ?_))); (case side2 => exact (Kd.R_reads' HO109.out).2.1); rintro e w25 ⟨rfl, hb⟩; refine ⟨_, rfl, ?_⟩; have n0_ := Aside0.mk (Kd.R_below (by (with_reducible repeat (first | apply Kd.R_alloc | apply Kd.R_drewN | apply Kd.R_drew)); exact HO109.out) hb); have n1_ := Aside0.mk (below_step (by repeat (first | (with_reducible first | exact HB.out | apply below_alloc | apply pw_below_drewN | apply below_drew1) | exact HB.out)) hb); clear HO109; clear HB; have HO109 := n0_; have HB := n1_; clear n0_ n1_; (try clear hb); (try clear hb2); (try clear hk); (try clear hi)) | ((with_reducible refine gate_callee (f := 32) rfl ?_); refine goesL_ (some 40) rfl rfl Try.func32 (by kernel_rfl) rfl #[.string a0] rfl (by (try simp only [List.map_toArray, List.map_cons, List.map_nil]); first | done | rfl | (simp only [List.length_drop, List.length_take]; rfl)) ?_; (with_reducible refine (path_Parent.calls kj2 a0 t112 _ A16.out).mono ?_); rintro e w26 ⟨rfl, hb⟩; refine ⟨_, rfl, ?_⟩; have n0_ := Aside0.mk (Kd.R_below (by (with_reducible repeat (first | apply Kd.R_alloc | apply Kd.R_drewN | apply Kd.R_drew)); exact HO109.out) hb); have n1_ := Aside0.mk (below_step (by repeat (first | (with_reducible first | exact HB.out | apply below_alloc | apply pw_below_drewN | apply below_drew1) | exact HB.out)) hb); clear HO109; clear HB; have HO109 := n0_; have HB := n1_; clear n0_ n1_; (try clear hb); (try clear hb2); (try clear hk); (try clear hi)) | ((with_reducible refine gate_callee (f := 30) rfl ?_); refine goesL_ (some 42) rfl rfl Try.func30 (by kernel_rfl) rfl #[.string a0] rfl (by (try simp only [List.map_toArray, List.map_cons, List.map_nil]); first | done | rfl | (simp only [List.length_drop, List.length_take]; rfl)) ?_; (with_reducible refine (path_Base.calls kj2 a0 t113 _ A17.out).mono ?_); rintro e w' ⟨rfl, ⟨nd, rfl⟩⟩; refine ⟨_, rfl, ?_⟩) | ((with_reducible refine gate_dst (N := 43) rfl ?_); (try (refine gate_guard (by rfl) ?_; dsimp only)); refine Kd.R_lit Kd.string _ 9 ?hg (N := 43) ?hd (xs := ([t112, t113] : List ByteArray)) (inner := [.string t112, .string t113]) (ok := fun _ => True) (okp := fun _ => True) ?hr ?hp (fun _ hk => hk) trivial (Below.refl _ _) (Nat.le_refl _) (by simp) ?_; (case hd => rfl); (case hg => rfl); (case hr => first | (go_simp; done) | (go_simp; rfl)); (case hp => exact (Reps.one (show Kd.M Kd.string _ _ _ t112 [.string t112] from rfl) (Reps.one (show Kd.M Kd.string _ _ _ t113 [.string t113] from rfl) (Reps.none _ _)))); intro v115 w27 ho28 hb hg_ hnew_; clear hg_ hnew_; (first | rw [← Ny114.out] at ho28 | (simp only [Int.reduceToNat] at ho28; rw [← Ny114.out] at ho28)); have n0_ := Aside0.mk (Kd.R_elder' (by (with_reducible repeat (first | apply Kd.R_alloc | apply Kd.R_drewN | apply Kd.R_drew)); exact HO109.out) (Kd.R_base ho28) hb); have n1_ := Aside0.mk (Kd.R_lower (Kd.R_new' ho28 (Kd.R_lt (by (with_reducible repeat (first | apply Kd.R_alloc | apply Kd.R_drewN | apply Kd.R_drew)); exact HO109.out))) (below_size (by repeat (first | (with_reducible first | exact HB.out | apply below_alloc | apply pw_below_drewN | apply below_drew1) | exact HB.out)))); have n2_ := Aside0.mk (below_step (by repeat (first | (with_reducible first | exact HB.out | apply below_alloc | apply pw_below_drewN | apply below_drew1) | exact HB.out)) hb); clear HO109; clear HB; have HO109 := n0_; have HO116 := n1_; have HB := n2_; clear n0_ n1_ n2_; clear hb ho28; obtain ⟨Ao29, co29, eo29⟩ := Kd.R_slice HO116.out; subst eo29) | ((with_reducible refine gate_callee (f := 12) rfl ?_); refine goesL_ (some 44) rfl rfl Try.func12 (by kernel_rfl) rfl #[.slice Ao29 y114.length co29] rfl (by (try simp only [List.map_toArray, List.map_cons, List.map_nil]); first | done | rfl | (simp only [List.length_drop, List.length_take]; rfl)) ?_; (with_reducible refine (path_Join.calls kj2 _ _ y114 t117 t118 _ ?side1 ?side2 A18.out).mono ?_); (case side1 => repeat (first | exact (Kd.R_reads' HO116.out).2.2 | (with_reducible refine Kd.C_alloc ?_ _) | (with_reducible refine Kd.C_drewN ?_ _) | (with_reducible refine Kd.C_drew ?_))); (case side2 => exact (Kd.R_reads' HO116.out).2.1); rintro e w30 ⟨rfl, hb⟩; refine ⟨_, rfl, ?_⟩; have n0_ := Aside0.mk (Kd.R_below (by (with_reducible repeat (first | apply Kd.R_alloc | apply Kd.R_drewN | apply Kd.R_drew)); exact HO109.out) hb); have n1_ := Aside0.mk (Kd.R_below (by (with_reducible repeat (first | apply Kd.R_alloc | apply Kd.R_drewN | apply Kd.R_drew)); exact HO116.out) hb); have n2_ := Aside0.mk (below_step (by repeat (first | (with_reducible first | exact HB.out | apply below_alloc | apply pw_below_drewN | apply below_drew1) | exact HB.out)) hb); clear HO109; clear HO116; clear HB; have HO109 := n0_; have HO116 := n1_; have HB := n2_; clear n0_ n1_ n2_; (try clear hb); (try clear hb2); (try clear hk); (try clear hi)))
        (try simp only [Act.put, List.setIfInBounds_toArray, List.set_cons_zero, List.set_cons_succ])
        go_cut [84] (fun v84 wc => ∃ (kq : Nat) (x84_18 : Bool), v84 = .bool x84_18 ∧ Aside0 (remoralaw13_PathBack.j1 kq a0 a1 t104 x84_18 = some r) ∧ Aside0 (kq ≤ kj2) ∧ Aside0 (Below w.heap.size w wc))
        case first =>
          have H := HC19.out
          clear HC19
          by_cases c31 : t106 = true
          · subst c31
            have H1 : (if t111 = 0 then (if t110.toList = a0.toList then (if t118 = 0 then (if t117.toList = a0.toList then ((path_Right.f kj2 t104).bind fun t119 => (if t119 = true then ((path_Under.f kj2 a1 t104).bind fun t120 => (if t120 = true then ((path_Common.f kj2 a1 a0).bind fun t121 => (remoralaw13_PathBack.j1 kj2 a0 a1 t104 (t121.toList != t104.toList))) else (remoralaw13_PathBack.j1 kj2 a0 a1 t104 true))) else (remoralaw13_PathBack.j1 kj2 a0 a1 t104 true))) else (remoralaw13_PathBack.j1 kj2 a0 a1 t104 true)) else (remoralaw13_PathBack.j1 kj2 a0 a1 t104 true)) else (remoralaw13_PathBack.j1 kj2 a0 a1 t104 true)) else (remoralaw13_PathBack.j1 kj2 a0 a1 t104 true)) = some r := by rw [if_pos rfl] at H; exact H
            clear H
            have H := H1
            clear H1
            by_cases c32 : t111 = 0
            · rw [if_pos c32] at H
              have c32b0 : (t111 == 0) = true := beq_iff_eq.mpr c32
              have c32b1 : (t111 != 0) = false := bne_eq_false_iff_eq.mpr c32
              clear c32
              (first | rw [c32b0] | (simp only [i64_w, i32_w]; rw [c32b0]) | skip)
              by_cases c33 : t110.toList = a0.toList
              · rw [if_pos c33] at H
                have c33b0 : (t110.toList == a0.toList) = true := beq_iff_eq.mpr c33
                have c33b1 : (t110.toList != a0.toList) = false := bne_eq_false_iff_eq.mpr c33
                clear c33
                by_cases c34 : t118 = 0
                · rw [if_pos c34] at H
                  have c34b0 : (t118 == 0) = true := beq_iff_eq.mpr c34
                  have c34b1 : (t118 != 0) = false := bne_eq_false_iff_eq.mpr c34
                  clear c34
                  by_cases c35 : t117.toList = a0.toList
                  · rw [if_pos c35] at H
                    have c35b0 : (t117.toList == a0.toList) = true := beq_iff_eq.mpr c35
                    have c35b1 : (t117.toList != a0.toList) = false := bne_eq_false_iff_eq.mpr c35
                    clear c35
                    replace H := Option.bind_eq_some_iff.mp H
                    obtain ⟨t119, A360, H⟩ := H
                    replace H : (if t119 = true then ((path_Under.f kj2 a1 t104).bind fun t120 => (if t120 = true then ((path_Common.f kj2 a1 a0).bind fun t121 => (remoralaw13_PathBack.j1 kj2 a0 a1 t104 (t121.toList != t104.toList))) else (remoralaw13_PathBack.j1 kj2 a0 a1 t104 true))) else (remoralaw13_PathBack.j1 kj2 a0 a1 t104 true)) = some r := H
                    have A36 := Aside0.mk A360
                    clear A360
                    by_cases c37 : t119 = true
                    · subst c37
                      have H1 : ((path_Under.f kj2 a1 t104).bind fun t120 => (if t120 = true then ((path_Common.f kj2 a1 a0).bind fun t121 => (remoralaw13_PathBack.j1 kj2 a0 a1 t104 (t121.toList != t104.toList))) else (remoralaw13_PathBack.j1 kj2 a0 a1 t104 true))) = some r := by rw [if_pos rfl] at H; exact H
                      clear H
                      have H := H1
                      clear H1
                      replace H := Option.bind_eq_some_iff.mp H
                      obtain ⟨t120, A380, H⟩ := H
                      replace H : (if t120 = true then ((path_Common.f kj2 a1 a0).bind fun t121 => (remoralaw13_PathBack.j1 kj2 a0 a1 t104 (t121.toList != t104.toList))) else (remoralaw13_PathBack.j1 kj2 a0 a1 t104 true)) = some r := H
                      have A38 := Aside0.mk A380
                      clear A380
                      by_cases c39 : t120 = true
                      · subst c39
                        have H1 : ((path_Common.f kj2 a1 a0).bind fun t121 => (remoralaw13_PathBack.j1 kj2 a0 a1 t104 (t121.toList != t104.toList))) = some r := by rw [if_pos rfl] at H; exact H
                        clear H
                        have H := H1
                        clear H1
                        replace H := Option.bind_eq_some_iff.mp H
                        obtain ⟨t121, A400, H⟩ := H
                        replace H : (remoralaw13_PathBack.j1 kj2 a0 a1 t104 (t121.toList != t104.toList)) = some r := H
                        have A40 := Aside0.mk A400
                        clear A400
                        have H' := Aside0.mk H
                        clear H
                        go_wp2_with (first | (go_at_call 16; (with_reducible refine (path_Right.calls kj2 t104 true _ A36.out).mono ?_); rintro e w41 ⟨rfl, hb⟩; have n0_ := Aside0.mk (Kd.R_below (by (with_reducible repeat (first | apply Kd.R_alloc | apply Kd.R_drewN | apply Kd.R_drew)); exact HO109.out) hb); have n1_ := Aside0.mk (Kd.R_below (by (with_reducible repeat (first | apply Kd.R_alloc | apply Kd.R_drewN | apply Kd.R_drew)); exact HO116.out) hb); have n2_ := Aside0.mk (below_step (by repeat (first | (with_reducible first | exact HB.out | apply below_alloc | apply pw_below_drewN | apply below_drew1) | exact HB.out)) hb); clear HO109; clear HO116; clear HB; have HO109 := n0_; have HO116 := n1_; have HB := n2_; clear n0_ n1_ n2_; (try clear hb); (try clear hb2); (try clear hk); (try clear hi)) | (go_at_call 21; (with_reducible refine (path_Under.calls kj2 a1 t104 true _ A38.out).mono ?_); rintro e w42 ⟨rfl, hb⟩; have n0_ := Aside0.mk (Kd.R_below (by (with_reducible repeat (first | apply Kd.R_alloc | apply Kd.R_drewN | apply Kd.R_drew)); exact HO109.out) hb); have n1_ := Aside0.mk (Kd.R_below (by (with_reducible repeat (first | apply Kd.R_alloc | apply Kd.R_drewN | apply Kd.R_drew)); exact HO116.out) hb); have n2_ := Aside0.mk (below_step (by repeat (first | (with_reducible first | exact HB.out | apply below_alloc | apply pw_below_drewN | apply below_drew1) | exact HB.out)) hb); clear HO109; clear HO116; clear HB; have HO109 := n0_; have HO116 := n1_; have HB := n2_; clear n0_ n1_ n2_; (try clear hb); (try clear hb2); (try clear hk); (try clear hi)) | (go_at_call 26; (with_reducible refine (path_Common.calls kj2 a1 a0 t121 _ A40.out).mono ?_); rintro e w43 ⟨rfl, hb⟩; have n0_ := Aside0.mk (Kd.R_below (by (with_reducible repeat (first | apply Kd.R_alloc | apply Kd.R_drewN | apply Kd.R_drew)); exact HO109.out) hb); have n1_ := Aside0.mk (Kd.R_below (by (with_reducible repeat (first | apply Kd.R_alloc | apply Kd.R_drewN | apply Kd.R_drew)); exact HO116.out) hb); have n2_ := Aside0.mk (below_step (by repeat (first | (with_reducible first | exact HB.out | apply below_alloc | apply pw_below_drewN | apply below_drew1) | exact HB.out)) hb); clear HO109; clear HO116; clear HB; have HO109 := n0_; have HO116 := n1_; have HB := n2_; clear n0_ n1_ n2_; (try clear hb); (try clear hb2); (try clear hk); (try clear hi)))
                        go_meet
                        case rel => exact ⟨_, ((t121.toList != t104.toList)), (by first | rfl | (simp; done) | (simp [*]; done)), H', ⟨by have := HJ2.out; first | omega | exact Nat.le_refl _⟩, ⟨by repeat (first | (with_reducible first | exact HB.out | apply below_alloc | apply pw_below_drewN | apply below_drew1) | exact HB.out)⟩⟩
                      · replace c39 := Bool.eq_false_iff.mpr c39
                        subst c39
                        have H1 : (remoralaw13_PathBack.j1 kj2 a0 a1 t104 true) = some r := by rw [if_neg (show ¬ (false = true) by decide)] at H; exact H
                        clear H
                        have H := H1
                        clear H1
                        have H' := Aside0.mk H
                        clear H
                        go_wp2_with (first | (go_at_call 16; (with_reducible refine (path_Right.calls kj2 t104 true _ A36.out).mono ?_); rintro e w44 ⟨rfl, hb⟩; have n0_ := Aside0.mk (Kd.R_below (by (with_reducible repeat (first | apply Kd.R_alloc | apply Kd.R_drewN | apply Kd.R_drew)); exact HO109.out) hb); have n1_ := Aside0.mk (Kd.R_below (by (with_reducible repeat (first | apply Kd.R_alloc | apply Kd.R_drewN | apply Kd.R_drew)); exact HO116.out) hb); have n2_ := Aside0.mk (below_step (by repeat (first | (with_reducible first | exact HB.out | apply below_alloc | apply pw_below_drewN | apply below_drew1) | exact HB.out)) hb); clear HO109; clear HO116; clear HB; have HO109 := n0_; have HO116 := n1_; have HB := n2_; clear n0_ n1_ n2_; (try clear hb); (try clear hb2); (try clear hk); (try clear hi)) | (go_at_call 21; (with_reducible refine (path_Under.calls kj2 a1 t104 false _ A38.out).mono ?_); rintro e w45 ⟨rfl, hb⟩; have n0_ := Aside0.mk (Kd.R_below (by (with_reducible repeat (first | apply Kd.R_alloc | apply Kd.R_drewN | apply Kd.R_drew)); exact HO109.out) hb); have n1_ := Aside0.mk (Kd.R_below (by (with_reducible repeat (first | apply Kd.R_alloc | apply Kd.R_drewN | apply Kd.R_drew)); exact HO116.out) hb); have n2_ := Aside0.mk (below_step (by repeat (first | (with_reducible first | exact HB.out | apply below_alloc | apply pw_below_drewN | apply below_drew1) | exact HB.out)) hb); clear HO109; clear HO116; clear HB; have HO109 := n0_; have HO116 := n1_; have HB := n2_; clear n0_ n1_ n2_; (try clear hb); (try clear hb2); (try clear hk); (try clear hi)))
                        go_meet
                        case rel => exact ⟨_, (true), (by first | rfl | (simp; done) | (simp [*]; done)), H', ⟨by have := HJ2.out; first | omega | exact Nat.le_refl _⟩, ⟨by repeat (first | (with_reducible first | exact HB.out | apply below_alloc | apply pw_below_drewN | apply below_drew1) | exact HB.out)⟩⟩
                    · replace c37 := Bool.eq_false_iff.mpr c37
                      subst c37
                      have H1 : (remoralaw13_PathBack.j1 kj2 a0 a1 t104 true) = some r := by rw [if_neg (show ¬ (false = true) by decide)] at H; exact H
                      clear H
                      have H := H1
                      clear H1
                      have H' := Aside0.mk H
                      clear H
                      go_wp2_with (first | (go_at_call 16; (with_reducible refine (path_Right.calls kj2 t104 false _ A36.out).mono ?_); rintro e w46 ⟨rfl, hb⟩; have n0_ := Aside0.mk (Kd.R_below (by (with_reducible repeat (first | apply Kd.R_alloc | apply Kd.R_drewN | apply Kd.R_drew)); exact HO109.out) hb); have n1_ := Aside0.mk (Kd.R_below (by (with_reducible repeat (first | apply Kd.R_alloc | apply Kd.R_drewN | apply Kd.R_drew)); exact HO116.out) hb); have n2_ := Aside0.mk (below_step (by repeat (first | (with_reducible first | exact HB.out | apply below_alloc | apply pw_below_drewN | apply below_drew1) | exact HB.out)) hb); clear HO109; clear HO116; clear HB; have HO109 := n0_; have HO116 := n1_; have HB := n2_; clear n0_ n1_ n2_; (try clear hb); (try clear hb2); (try clear hk); (try clear hi)))
                      go_meet
                      case rel => exact ⟨_, (true), (by first | rfl | (simp; done) | (simp [*]; done)), H', ⟨by have := HJ2.out; first | omega | exact Nat.le_refl _⟩, ⟨by repeat (first | (with_reducible first | exact HB.out | apply below_alloc | apply pw_below_drewN | apply below_drew1) | exact HB.out)⟩⟩
                  · rw [if_neg c35] at H
                    have c35b0 : (t117.toList == a0.toList) = false := beq_eq_false_iff_ne.mpr c35
                    have c35b1 : (t117.toList != a0.toList) = true := bne_iff_ne.mpr c35
                    have H' := Aside0.mk H
                    clear H
                    go_wp2
                    go_meet
                    case rel => exact ⟨_, (true), (by first | rfl | (simp; done) | (simp [*]; done)), H', ⟨by have := HJ2.out; first | omega | exact Nat.le_refl _⟩, ⟨by repeat (first | (with_reducible first | exact HB.out | apply below_alloc | apply pw_below_drewN | apply below_drew1) | exact HB.out)⟩⟩
                · rw [if_neg c34] at H
                  have c34b0 : (t118 == 0) = false := beq_eq_false_iff_ne.mpr c34
                  have c34b1 : (t118 != 0) = true := bne_iff_ne.mpr c34
                  have H' := Aside0.mk H
                  clear H
                  go_wp2
                  go_meet
                  case rel => exact ⟨_, (true), (by first | rfl | (simp; done) | (simp [*]; done)), H', ⟨by have := HJ2.out; first | omega | exact Nat.le_refl _⟩, ⟨by repeat (first | (with_reducible first | exact HB.out | apply below_alloc | apply pw_below_drewN | apply below_drew1) | exact HB.out)⟩⟩
              · rw [if_neg c33] at H
                have c33b0 : (t110.toList == a0.toList) = false := beq_eq_false_iff_ne.mpr c33
                have c33b1 : (t110.toList != a0.toList) = true := bne_iff_ne.mpr c33
                have H' := Aside0.mk H
                clear H
                go_wp2
                go_meet
                case rel => exact ⟨_, (true), (by first | rfl | (simp; done) | (simp [*]; done)), H', ⟨by have := HJ2.out; first | omega | exact Nat.le_refl _⟩, ⟨by repeat (first | (with_reducible first | exact HB.out | apply below_alloc | apply pw_below_drewN | apply below_drew1) | exact HB.out)⟩⟩
            · rw [if_neg c32] at H
              have c32b0 : (t111 == 0) = false := beq_eq_false_iff_ne.mpr c32
              have c32b1 : (t111 != 0) = true := bne_iff_ne.mpr c32
              (first | rw [c32b0] | (simp only [i64_w, i32_w]; rw [c32b0]) | skip)
              have H' := Aside0.mk H
              clear H
              go_wp2
              go_meet
              case rel => exact ⟨_, (true), (by first | rfl | (simp; done) | (simp [*]; done)), H', ⟨by have := HJ2.out; first | omega | exact Nat.le_refl _⟩, ⟨by repeat (first | (with_reducible first | exact HB.out | apply below_alloc | apply pw_below_drewN | apply below_drew1) | exact HB.out)⟩⟩
          · replace c31 := Bool.eq_false_iff.mpr c31
            subst c31
            have H1 : (remoralaw13_PathBack.j1 kj2 a0 a1 t104 true) = some r := by rw [if_neg (show ¬ (false = true) by decide)] at H; exact H
            clear H
            have H := H1
            clear H1
            have H' := Aside0.mk H
            clear H
            go_wp2
            go_meet
            case rel => exact ⟨_, (true), (by first | rfl | (simp; done) | (simp [*]; done)), H', ⟨by have := HJ2.out; first | omega | exact Nat.le_refl _⟩, ⟨by repeat (first | (with_reducible first | exact HB.out | apply below_alloc | apply pw_below_drewN | apply below_drew1) | exact HB.out)⟩⟩
        case rest =>
          clear HC19
          try clear c1
          try clear c2
          try clear p2
          try clear c3
          try clear c5
          try clear c8
          try clear c10
          try clear c11
          try clear c12
          try clear c16
          try clear c22
          try clear c26
          try clear c30
          try clear c31
          try clear c32
          try clear c32b0
          try clear c32b1
          try clear c33
          try clear c33b0
          try clear c33b1
          try clear c34
          try clear c34b0
          try clear c34b1
          try clear c35
          try clear c35b0
          try clear c35b1
          try clear c37
          try clear c39
          try clear p2
          obtain ⟨kq, x84_18, rfl, HA, HJ18, HB⟩ := hcut
          cases kq with
          | zero => exact absurd HA.out (by simp [remoralaw13_PathBack.j1])
          | succ kj18 =>
            have H := HA.out
            clear HA
            simp only [remoralaw13_PathBack.j1] at H
            by_cases c47 : x84_18 = true
            · subst c47
              have H1 : (some false) = some r := by rw [if_pos rfl] at H; exact H
              clear H
              have H := H1
              clear H1
              obtain rfl := Option.some.inj H
              go_wp2
              go_ret
              exact ⟨by first | rfl | (simp [errW_none, errW_some] <;> rfl) | (simp [*, errW_none, errW_some] <;> rfl), by repeat (first | (with_reducible first | exact HB.out | apply below_alloc | apply pw_below_drewN | apply below_drew1) | exact HB.out)⟩
            · replace c47 := Bool.eq_false_iff.mpr c47
              subst c47
              have H1 : ((path_Parent.f kj18 a0).bind fun t122 => ((path_Under.f kj18 t104 t122).bind fun t123 => ((path_Under.f kj18 a1 t122).bind fun t124 => (if (t123 == t124) = true then ((path_Depth.f t122).bind fun t125 => ((path_Depth.f a0).bind fun t126 => (if t125 = (mx 0 (wrap64 (t126 - 1))) then ((remoralaw13_awake.f kj18).bind fun t127 => (some t127)) else (some false)))) else (some false))))) = some r := by rw [if_neg (show ¬ (false = true) by decide)] at H; exact H
              clear H
              have H := H1
              clear H1
              replace H := Option.bind_eq_some_iff.mp H
              obtain ⟨t122, A480, H⟩ := H
              replace H : ((path_Under.f kj18 t104 t122).bind fun t123 => ((path_Under.f kj18 a1 t122).bind fun t124 => (if (t123 == t124) = true then ((path_Depth.f t122).bind fun t125 => ((path_Depth.f a0).bind fun t126 => (if t125 = (mx 0 (wrap64 (t126 - 1))) then ((remoralaw13_awake.f kj18).bind fun t127 => (some t127)) else (some false)))) else (some false)))) = some r := H
              have A48 := Aside0.mk A480
              clear A480
              replace H := Option.bind_eq_some_iff.mp H
              obtain ⟨t123, A490, H⟩ := H
              replace H : ((path_Under.f kj18 a1 t122).bind fun t124 => (if (t123 == t124) = true then ((path_Depth.f t122).bind fun t125 => ((path_Depth.f a0).bind fun t126 => (if t125 = (mx 0 (wrap64 (t126 - 1))) then ((remoralaw13_awake.f kj18).bind fun t127 => (some t127)) else (some false)))) else (some false))) = some r := H
              have A49 := Aside0.mk A490
              clear A490
              replace H := Option.bind_eq_some_iff.mp H
              obtain ⟨t124, A500, H⟩ := H
              replace H : (if (t123 == t124) = true then ((path_Depth.f t122).bind fun t125 => ((path_Depth.f a0).bind fun t126 => (if t125 = (mx 0 (wrap64 (t126 - 1))) then ((remoralaw13_awake.f kj18).bind fun t127 => (some t127)) else (some false)))) else (some false)) = some r := H
              have A50 := Aside0.mk A500
              clear A500
              by_cases c51 : (t123 == t124) = true
              · rw [if_pos c51] at H
                have c51b0 : (t123 == t124) = true := c51
                (try (have c51b1 : decide (t123 = t124) = true := by simpa using c51))
                (try (have c51b2 : (t123 == t124) = true := by simpa using c51))
                clear c51
                replace H := Option.bind_eq_some_iff.mp H
                obtain ⟨t125, A520, H⟩ := H
                replace H : ((path_Depth.f a0).bind fun t126 => (if t125 = (mx 0 (wrap64 (t126 - 1))) then ((remoralaw13_awake.f kj18).bind fun t127 => (some t127)) else (some false))) = some r := H
                have A52 := Aside0.mk A520
                clear A520
                replace H := Option.bind_eq_some_iff.mp H
                obtain ⟨t126, A530, H⟩ := H
                replace H : (if t125 = (mx 0 (wrap64 (t126 - 1))) then ((remoralaw13_awake.f kj18).bind fun t127 => (some t127)) else (some false)) = some r := H
                have A53 := Aside0.mk A530
                clear A530
                obtain ⟨ji54, hji54⟩ : ∃ j_ : Int, (mx 0 (wrap64 (t126 - 1))) = j_ := ⟨_, rfl⟩
                replace H : (if t125 = (ji54) then ((remoralaw13_awake.f kj18).bind fun t127 => (some t127)) else (some false)) = some r := by first | (rw [hji54] at H; exact H) | (simp only [hji54] at H ⊢; exact H)
                (try rw [hji54] at A48)
                (try rw [hji54] at A49)
                (try rw [hji54] at A50)
                (try rw [hji54] at A52)
                (try rw [hji54] at A53)
                (try (have hji54l : 0 ≤ ji54 := by (rw [← hji54]; unfold mx; (repeat' split) <;> omega)))
                (try (have hji54m : 0 ≤ ji54 := by omega))
                have hji54_ : (if 0 < (wrap64 (t126 - 1)) then (wrap64 (t126 - 1)) else 0) = ji54 := hji54
                by_cases c55 : t125 = (ji54)
                · rw [if_pos c55] at H
                  have c55b0 : (t125 == (ji54)) = true := beq_iff_eq.mpr c55
                  have c55b1 : (t125 != (ji54)) = false := bne_eq_false_iff_eq.mpr c55
                  clear c55
                  replace H := Option.bind_eq_some_iff.mp H
                  obtain ⟨t127, A560, H⟩ := H
                  replace H : (some t127) = some r := H
                  have A56 := Aside0.mk A560
                  clear A560
                  obtain rfl := Option.some.inj H
                  go_wp2_with (first | ((with_reducible refine gate_callee (f := 32) rfl ?_); refine goesL_ (some 86) rfl rfl Try.func32 (by kernel_rfl) rfl #[.string a0] rfl (by (try simp only [List.map_toArray, List.map_cons, List.map_nil]); first | done | rfl | (simp only [List.length_drop, List.length_take]; rfl)) ?_; (with_reducible refine (path_Parent.calls kj18 a0 t122 _ A48.out).mono ?_); rintro e w57 ⟨rfl, hb⟩; refine ⟨_, rfl, ?_⟩; have n0_ := Aside0.mk (below_step (by repeat (first | (with_reducible first | exact HB.out | apply below_alloc | apply pw_below_drewN | apply below_drew1) | exact HB.out)) hb); clear HB; have HB := n0_; clear n0_; (try clear hb); (try clear hb2); (try clear hk); (try clear hi)) | ((with_reducible refine gate_callee (f := 21) rfl ?_); refine goesL_ (some 89) rfl rfl Try.func21 (by kernel_rfl) rfl #[.string t104, .string t122] rfl (by (try simp only [List.map_toArray, List.map_cons, List.map_nil]); first | done | rfl | (simp only [List.length_drop, List.length_take]; rfl)) ?_; (with_reducible refine (path_Under.calls kj18 t104 t122 t123 _ A49.out).mono ?_); rintro e w58 ⟨rfl, hb⟩; refine ⟨_, rfl, ?_⟩; have n0_ := Aside0.mk (below_step (by repeat (first | (with_reducible first | exact HB.out | apply below_alloc | apply pw_below_drewN | apply below_drew1) | exact HB.out)) hb); clear HB; have HB := n0_; clear n0_; (try clear hb); (try clear hb2); (try clear hk); (try clear hi)) | ((with_reducible refine gate_callee (f := 21) rfl ?_); refine goesL_ (some 92) rfl rfl Try.func21 (by kernel_rfl) rfl #[.string a1, .string t122] rfl (by (try simp only [List.map_toArray, List.map_cons, List.map_nil]); first | done | rfl | (simp only [List.length_drop, List.length_take]; rfl)) ?_; (with_reducible refine (path_Under.calls kj18 a1 t122 t124 _ A50.out).mono ?_); rintro e w59 ⟨rfl, hb⟩; refine ⟨_, rfl, ?_⟩; have n0_ := Aside0.mk (below_step (by repeat (first | (with_reducible first | exact HB.out | apply below_alloc | apply pw_below_drewN | apply below_drew1) | exact HB.out)) hb); clear HB; have HB := n0_; clear n0_; (try clear hb); (try clear hb2); (try clear hk); (try clear hi)) | (go_at_call 19; (with_reducible refine (path_Depth.calls t122 t125 _ A52.out).mono ?_); rintro e w60 ⟨rfl, hb⟩; have n0_ := Aside0.mk (below_step (by repeat (first | (with_reducible first | exact HB.out | apply below_alloc | apply pw_below_drewN | apply below_drew1) | exact HB.out)) hb); clear HB; have HB := n0_; clear n0_; (try clear hb); (try clear hb2); (try clear hk); (try clear hi)) | (go_at_call 19; (with_reducible refine (path_Depth.calls a0 t126 _ A53.out).mono ?_); rintro e w61 ⟨rfl, hb⟩; have n0_ := Aside0.mk (below_step (by repeat (first | (with_reducible first | exact HB.out | apply below_alloc | apply pw_below_drewN | apply below_drew1) | exact HB.out)) hb); clear HB; have HB := n0_; clear n0_; (try clear hb); (try clear hb2); (try clear hk); (try clear hi)) | (go_at_call 11; (with_reducible refine (remoralaw13_awake.calls kj18  t127 _ A56.out).mono ?_); rintro e w62 ⟨rfl, hb⟩; have n0_ := Aside0.mk (below_step (by repeat (first | (with_reducible first | exact HB.out | apply below_alloc | apply pw_below_drewN | apply below_drew1) | exact HB.out)) hb); clear HB; have HB := n0_; clear n0_; (try clear hb); (try clear hb2); (try clear hk); (try clear hi)))
                  go_ret
                  exact ⟨by first | rfl | (simp [errW_none, errW_some] <;> rfl) | (simp only [← hji54]; first | rfl | (simp [errW_none, errW_some] <;> rfl)) | (simp [*, errW_none, errW_some] <;> rfl), by repeat (first | (with_reducible first | exact HB.out | apply below_alloc | apply pw_below_drewN | apply below_drew1) | exact HB.out)⟩
                · rw [if_neg c55] at H
                  have c55b0 : (t125 == (ji54)) = false := beq_eq_false_iff_ne.mpr c55
                  have c55b1 : (t125 != (ji54)) = true := bne_iff_ne.mpr c55
                  obtain rfl := Option.some.inj H
                  go_wp2_with (first | ((with_reducible refine gate_callee (f := 32) rfl ?_); refine goesL_ (some 86) rfl rfl Try.func32 (by kernel_rfl) rfl #[.string a0] rfl (by (try simp only [List.map_toArray, List.map_cons, List.map_nil]); first | done | rfl | (simp only [List.length_drop, List.length_take]; rfl)) ?_; (with_reducible refine (path_Parent.calls kj18 a0 t122 _ A48.out).mono ?_); rintro e w63 ⟨rfl, hb⟩; refine ⟨_, rfl, ?_⟩; have n0_ := Aside0.mk (below_step (by repeat (first | (with_reducible first | exact HB.out | apply below_alloc | apply pw_below_drewN | apply below_drew1) | exact HB.out)) hb); clear HB; have HB := n0_; clear n0_; (try clear hb); (try clear hb2); (try clear hk); (try clear hi)) | ((with_reducible refine gate_callee (f := 21) rfl ?_); refine goesL_ (some 89) rfl rfl Try.func21 (by kernel_rfl) rfl #[.string t104, .string t122] rfl (by (try simp only [List.map_toArray, List.map_cons, List.map_nil]); first | done | rfl | (simp only [List.length_drop, List.length_take]; rfl)) ?_; (with_reducible refine (path_Under.calls kj18 t104 t122 t123 _ A49.out).mono ?_); rintro e w64 ⟨rfl, hb⟩; refine ⟨_, rfl, ?_⟩; have n0_ := Aside0.mk (below_step (by repeat (first | (with_reducible first | exact HB.out | apply below_alloc | apply pw_below_drewN | apply below_drew1) | exact HB.out)) hb); clear HB; have HB := n0_; clear n0_; (try clear hb); (try clear hb2); (try clear hk); (try clear hi)) | ((with_reducible refine gate_callee (f := 21) rfl ?_); refine goesL_ (some 92) rfl rfl Try.func21 (by kernel_rfl) rfl #[.string a1, .string t122] rfl (by (try simp only [List.map_toArray, List.map_cons, List.map_nil]); first | done | rfl | (simp only [List.length_drop, List.length_take]; rfl)) ?_; (with_reducible refine (path_Under.calls kj18 a1 t122 t124 _ A50.out).mono ?_); rintro e w65 ⟨rfl, hb⟩; refine ⟨_, rfl, ?_⟩; have n0_ := Aside0.mk (below_step (by repeat (first | (with_reducible first | exact HB.out | apply below_alloc | apply pw_below_drewN | apply below_drew1) | exact HB.out)) hb); clear HB; have HB := n0_; clear n0_; (try clear hb); (try clear hb2); (try clear hk); (try clear hi)) | (go_at_call 19; (with_reducible refine (path_Depth.calls t122 t125 _ A52.out).mono ?_); rintro e w66 ⟨rfl, hb⟩; have n0_ := Aside0.mk (below_step (by repeat (first | (with_reducible first | exact HB.out | apply below_alloc | apply pw_below_drewN | apply below_drew1) | exact HB.out)) hb); clear HB; have HB := n0_; clear n0_; (try clear hb); (try clear hb2); (try clear hk); (try clear hi)) | (go_at_call 19; (with_reducible refine (path_Depth.calls a0 t126 _ A53.out).mono ?_); rintro e w67 ⟨rfl, hb⟩; have n0_ := Aside0.mk (below_step (by repeat (first | (with_reducible first | exact HB.out | apply below_alloc | apply pw_below_drewN | apply below_drew1) | exact HB.out)) hb); clear HB; have HB := n0_; clear n0_; (try clear hb); (try clear hb2); (try clear hk); (try clear hi)))
                  go_ret
                  exact ⟨by first | rfl | (simp [errW_none, errW_some] <;> rfl) | (simp only [← hji54]; first | rfl | (simp [errW_none, errW_some] <;> rfl)) | (simp [*, errW_none, errW_some] <;> rfl), by repeat (first | (with_reducible first | exact HB.out | apply below_alloc | apply pw_below_drewN | apply below_drew1) | exact HB.out)⟩
              · rw [if_neg c51] at H
                have c51b0 : (t123 == t124) = false := by simpa using c51
                (try (have c51b1 : decide (t123 = t124) = false := by simpa using c51))
                (try (have c51b2 : (t123 == t124) = false := by simpa using c51))
                (try (have c51b3 : ¬ (t123 = t124) := by simpa using c51))
                clear c51
                obtain rfl := Option.some.inj H
                go_wp2_with (first | ((with_reducible refine gate_callee (f := 32) rfl ?_); refine goesL_ (some 86) rfl rfl Try.func32 (by kernel_rfl) rfl #[.string a0] rfl (by (try simp only [List.map_toArray, List.map_cons, List.map_nil]); first | done | rfl | (simp only [List.length_drop, List.length_take]; rfl)) ?_; (with_reducible refine (path_Parent.calls kj18 a0 t122 _ A48.out).mono ?_); rintro e w68 ⟨rfl, hb⟩; refine ⟨_, rfl, ?_⟩; have n0_ := Aside0.mk (below_step (by repeat (first | (with_reducible first | exact HB.out | apply below_alloc | apply pw_below_drewN | apply below_drew1) | exact HB.out)) hb); clear HB; have HB := n0_; clear n0_; (try clear hb); (try clear hb2); (try clear hk); (try clear hi)) | ((with_reducible refine gate_callee (f := 21) rfl ?_); refine goesL_ (some 89) rfl rfl Try.func21 (by kernel_rfl) rfl #[.string t104, .string t122] rfl (by (try simp only [List.map_toArray, List.map_cons, List.map_nil]); first | done | rfl | (simp only [List.length_drop, List.length_take]; rfl)) ?_; (with_reducible refine (path_Under.calls kj18 t104 t122 t123 _ A49.out).mono ?_); rintro e w69 ⟨rfl, hb⟩; refine ⟨_, rfl, ?_⟩; have n0_ := Aside0.mk (below_step (by repeat (first | (with_reducible first | exact HB.out | apply below_alloc | apply pw_below_drewN | apply below_drew1) | exact HB.out)) hb); clear HB; have HB := n0_; clear n0_; (try clear hb); (try clear hb2); (try clear hk); (try clear hi)) | ((with_reducible refine gate_callee (f := 21) rfl ?_); refine goesL_ (some 92) rfl rfl Try.func21 (by kernel_rfl) rfl #[.string a1, .string t122] rfl (by (try simp only [List.map_toArray, List.map_cons, List.map_nil]); first | done | rfl | (simp only [List.length_drop, List.length_take]; rfl)) ?_; (with_reducible refine (path_Under.calls kj18 a1 t122 t124 _ A50.out).mono ?_); rintro e w70 ⟨rfl, hb⟩; refine ⟨_, rfl, ?_⟩; have n0_ := Aside0.mk (below_step (by repeat (first | (with_reducible first | exact HB.out | apply below_alloc | apply pw_below_drewN | apply below_drew1) | exact HB.out)) hb); clear HB; have HB := n0_; clear n0_; (try clear hb); (try clear hb2); (try clear hk); (try clear hi)))
                go_ret
                exact ⟨by first | rfl | (simp [errW_none, errW_some] <;> rfl) | (simp [*, errW_none, errW_some] <;> rfl), by repeat (first | (with_reducible first | exact HB.out | apply below_alloc | apply pw_below_drewN | apply below_drew1) | exact HB.out)⟩

/-- THE ONE PURE STATEMENT of remoralaw13_PathBack: yours. -/
def remoralaw13_PathBack.Pure : Prop := ∀ (a0 : ByteArray) (a1 : ByteArray), a0.size ≤ 140737488351232 → a1.size ≤ 140737488351232 → ∃ k, remoralaw13_PathBack.f k a0 a1 = some true
theorem remoralaw13_PathBack.walk (P : remoralaw13_PathBack.Pure) (a0 : ByteArray) (a1 : ByteArray) (w : World) (w0 : a0.size ≤ 140737488351232) (w1 : a1.size ≤ 140737488351232) :
    Calls Try.prog 8 #[.string a0, .string a1] w fun e w' => e = .returned (.bool true) ∧ Below w.heap.size w w' := by
  obtain ⟨k, h⟩ := P a0 a1 w0 w1
  refine (remoralaw13_PathBack.calls k a0 a1 true w h).mono ?_
  rintro e w' ⟨rfl, hd⟩
  exact ⟨rfl, hd⟩

end Go.Proofs.Ytdomeeaaidjmpaa.PA
