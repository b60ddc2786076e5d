-- Written by a program of this session (the kit's print with this repo's externals: px.py).
import Derived.Test.YtdomeeaaidjmpaaPAx0
import Derived.Test.YtdomeeaaidjmpaaPAfpathLess
import Derived.Test.YtdomeeaaidjmpaaPAfremoralaw13awake
import Derived.Test.YtdomeeaaidjmpaaPAfremoralaw13texts
import Derived.Test.YtdomeeaaidjmpaaPAfpathDepth
import Derived.Test.YtdomeeaaidjmpaaPAfpathUnder
import Derived.Test.YtdomeeaaidjmpaaXpathSplit
namespace Go.Proofs.Ytdomeeaaidjmpaa.PA
open Go.RowKit Go.Proofs.YtdomeeaaidjmpaaW.PrintWords Go.Proofs.YtdomeeaaidjmpaaW.PrintLast Go.Proofs.YtdomeeaaidjmpaaW.PrintMore
attribute [local go_sem] max2_int min2_int max_two min_two max_three min_three max_four min_four   -- for this text's walks alone
set_option linter.unusedVariables false
set_option linter.unusedSimpArgs false

/-! ### remoralaw13_PathOrder: function 5 -/
mutual
def remoralaw13_PathOrder.j0 : Nat → ByteArray → ByteArray → ByteArray → Bool → Bool → Bool → Option (Bool)
  | 0, _, _, _, _, _, _ => none
  | k + 1, x0, x1, x2, x7, x8, x39 => if x39 = true then (some false) else (if x7 = true then (remoralaw13_PathOrder.j1 k x0 x1 x2 x7 x8 false) else ((path_Less.f k x1 x0).bind fun t109 => (if t109 = true then (remoralaw13_PathOrder.j1 k x0 x1 x2 x7 x8 false) else ((path_Split.f x0).bind fun t110 => ((path_Split.f x1).bind fun t113 => ((remoralaw13_texts.f k t110 t113).bind fun t116 => (remoralaw13_PathOrder.j1 k x0 x1 x2 x7 x8 (!t116))))))))
def remoralaw13_PathOrder.j1 : Nat → ByteArray → ByteArray → ByteArray → Bool → Bool → Bool → Option (Bool)
  | 0, _, _, _, _, _, _ => none
  | k + 1, x0, x1, x2, x7, x8, x55 => if x55 = true then (some false) else ((path_Under.f k x1 x0).bind fun t117 => (if t117 = true then ((path_Depth.f x1).bind fun t118 => ((path_Depth.f x0).bind fun t119 => (if t118 > t119 then (remoralaw13_PathOrder.j2 k x0 x1 x2 x7 x8 (!x7)) else (remoralaw13_PathOrder.j2 k x0 x1 x2 x7 x8 false)))) else (remoralaw13_PathOrder.j2 k x0 x1 x2 x7 x8 false)))
def remoralaw13_PathOrder.j2 : Nat → ByteArray → ByteArray → ByteArray → Bool → Bool → Bool → Option (Bool)
  | 0, _, _, _, _, _, _ => none
  | k + 1, x0, x1, x2, x7, x8, x69 => if x69 = true then (some false) else ((path_Under.f k x2 x0).bind fun t120 => (if t120 = true then (if x7 = true then (if x8 = true then ((path_Under.f k x1 x0).bind fun t121 => (if t121 = true then ((remoralaw13_awake.f k).bind fun t122 => (some t122)) else (some false))) else ((remoralaw13_awake.f k).bind fun t123 => (some t123))) else ((remoralaw13_awake.f k).bind fun t124 => (some t124))) else ((remoralaw13_awake.f k).bind fun t125 => (some t125))))
end
def remoralaw13_PathOrder.f (k : Nat) (a0 : ByteArray) (a1 : ByteArray) (a2 : ByteArray) : Option (Bool) := (path_Less.f k a0 a1).bind fun t101 => ((path_Less.f k a1 a2).bind fun t102 => ((path_Less.f k a0 a2).bind fun t103 => (if t101 = true then (if t102 = true then (if t103 = true then ((path_Less.f k a1 a0).bind fun t104 => (if t104 = true then (remoralaw13_PathOrder.j0 k a0 a1 a2 t101 t102 true) else ((path_Less.f k a0 a0).bind fun t105 => (remoralaw13_PathOrder.j0 k a0 a1 a2 t101 t102 t105)))) else (remoralaw13_PathOrder.j0 k a0 a1 a2 t101 t102 true)) else ((path_Less.f k a1 a0).bind fun t106 => (if t106 = true then (remoralaw13_PathOrder.j0 k a0 a1 a2 t101 t102 true) else ((path_Less.f k a0 a0).bind fun t107 => (remoralaw13_PathOrder.j0 k a0 a1 a2 t101 t102 t107))))) else ((path_Less.f k a0 a0).bind fun t108 => (remoralaw13_PathOrder.j0 k a0 a1 a2 t101 t102 t108)))))
theorem remoralaw13_PathOrder.mono_l : ∀ k, (∀ y0 y1 y2 y3 y4 y5, LeO (remoralaw13_PathOrder.j0 k y0 y1 y2 y3 y4 y5) (remoralaw13_PathOrder.j0 (k + 1) y0 y1 y2 y3 y4 y5)) ∧ (∀ y0 y1 y2 y3 y4 y5, LeO (remoralaw13_PathOrder.j1 k y0 y1 y2 y3 y4 y5) (remoralaw13_PathOrder.j1 (k + 1) y0 y1 y2 y3 y4 y5)) ∧ (∀ y0 y1 y2 y3 y4 y5, LeO (remoralaw13_PathOrder.j2 k y0 y1 y2 y3 y4 y5) (remoralaw13_PathOrder.j2 (k + 1) y0 y1 y2 y3 y4 y5))
  | 0 => ⟨fun _ _ _ _ _ _ r h => by simp [remoralaw13_PathOrder.j0] at h, fun _ _ _ _ _ _ r h => by simp [remoralaw13_PathOrder.j1] at h, fun _ _ _ _ _ _ r h => by simp [remoralaw13_PathOrder.j2] at h⟩
  | k + 1 => by
    obtain ⟨ih0, ih1, ih2⟩ := remoralaw13_PathOrder.mono_l k
    refine ⟨?_, ?_, ?_⟩
    · intro y0 y1 y2 y3 y4 y5
      unfold remoralaw13_PathOrder.j0
      repeat' first
      | (with_reducible exact ih0 _ _ _ _ _ _)
      | (with_reducible exact ih1 _ _ _ _ _ _)
      | (with_reducible exact ih2 _ _ _ _ _ _)
      | (with_reducible exact path_Less.mono _ _ _)
      | (with_reducible exact path_Under.mono _ _ _)
      | (with_reducible exact remoralaw13_awake.mono _)
      | (with_reducible exact remoralaw13_texts.mono _ _ _)
      | (with_reducible exact LeO.refl _)
      | (with_reducible exact LeO.none _)
      | (with_reducible refine LeO.ite ?_ ?_)
      | (with_reducible refine LeO.bind ?_ (fun _ => ?_))
      | exact ih0 _ _ _ _ _ _
      | exact ih1 _ _ _ _ _ _
      | exact ih2 _ _ _ _ _ _
      | exact path_Less.mono _ _ _
      | exact path_Under.mono _ _ _
      | exact remoralaw13_awake.mono _
      | exact remoralaw13_texts.mono _ _ _
      | exact LeO.none _
      | refine LeO.ite ?_ ?_
      | refine LeO.bind ?_ (fun _ => ?_)
    · intro y0 y1 y2 y3 y4 y5
      unfold remoralaw13_PathOrder.j1
      repeat' first
      | (with_reducible exact ih0 _ _ _ _ _ _)
      | (with_reducible exact ih1 _ _ _ _ _ _)
      | (with_reducible exact ih2 _ _ _ _ _ _)
      | (with_reducible exact path_Less.mono _ _ _)
      | (with_reducible exact path_Under.mono _ _ _)
      | (with_reducible exact remoralaw13_awake.mono _)
      | (with_reducible exact remoralaw13_texts.mono _ _ _)
      | (with_reducible exact LeO.refl _)
      | (with_reducible exact LeO.none _)
      | (with_reducible refine LeO.ite ?_ ?_)
      | (with_reducible refine LeO.bind ?_ (fun _ => ?_))
      | exact ih0 _ _ _ _ _ _
      | exact ih1 _ _ _ _ _ _
      | exact ih2 _ _ _ _ _ _
      | exact path_Less.mono _ _ _
      | exact path_Under.mono _ _ _
      | exact remoralaw13_awake.mono _
      | exact remoralaw13_texts.mono _ _ _
      | exact LeO.none _
      | refine LeO.ite ?_ ?_
      | refine LeO.bind ?_ (fun _ => ?_)
    · intro y0 y1 y2 y3 y4 y5
      unfold remoralaw13_PathOrder.j2
      repeat' first
      | (with_reducible exact ih0 _ _ _ _ _ _)
      | (with_reducible exact ih1 _ _ _ _ _ _)
      | (with_reducible exact ih2 _ _ _ _ _ _)
      | (with_reducible exact path_Less.mono _ _ _)
      | (with_reducible exact path_Under.mono _ _ _)
      | (with_reducible exact remoralaw13_awake.mono _)
      | (with_reducible exact remoralaw13_texts.mono _ _ _)
      | (with_reducible exact LeO.refl _)
      | (with_reducible exact LeO.none _)
      | (with_reducible refine LeO.ite ?_ ?_)
      | (with_reducible refine LeO.bind ?_ (fun _ => ?_))
      | exact ih0 _ _ _ _ _ _
      | exact ih1 _ _ _ _ _ _
      | exact ih2 _ _ _ _ _ _
      | exact path_Less.mono _ _ _
      | exact path_Under.mono _ _ _
      | exact remoralaw13_awake.mono _
      | exact remoralaw13_texts.mono _ _ _
      | exact LeO.none _
      | refine LeO.ite ?_ ?_
      | refine LeO.bind ?_ (fun _ => ?_)
theorem remoralaw13_PathOrder.mono : ∀ a0 a1 a2 k, LeO (remoralaw13_PathOrder.f k a0 a1 a2) (remoralaw13_PathOrder.f (k + 1) a0 a1 a2) := by
  intro a0 a1 a2 k
  obtain ⟨ih0, ih1, ih2⟩ := remoralaw13_PathOrder.mono_l k
  unfold remoralaw13_PathOrder.f
  repeat' first
      | (with_reducible exact ih0 _ _ _ _ _ _)
      | (with_reducible exact ih1 _ _ _ _ _ _)
      | (with_reducible exact ih2 _ _ _ _ _ _)
      | (with_reducible exact path_Less.mono _ _ _)
      | (with_reducible exact path_Under.mono _ _ _)
      | (with_reducible exact remoralaw13_awake.mono _)
      | (with_reducible exact remoralaw13_texts.mono _ _ _)
      | (with_reducible exact LeO.refl _)
      | (with_reducible exact LeO.none _)
      | (with_reducible refine LeO.ite ?_ ?_)
      | (with_reducible refine LeO.bind ?_ (fun _ => ?_))
      | exact ih0 _ _ _ _ _ _
      | exact ih1 _ _ _ _ _ _
      | exact ih2 _ _ _ _ _ _
      | exact path_Less.mono _ _ _
      | exact path_Under.mono _ _ _
      | exact remoralaw13_awake.mono _
      | exact remoralaw13_texts.mono _ _ _
      | exact LeO.none _
      | refine LeO.ite ?_ ?_
      | refine LeO.bind ?_ (fun _ => ?_)
set_option maxHeartbeats 8000000 in
set_option maxRecDepth 100000 in
theorem remoralaw13_PathOrder.calls (k : Nat) (a0 : ByteArray) (a1 : ByteArray) (a2 : ByteArray) (r : Bool) (w : World) (h : remoralaw13_PathOrder.f k a0 a1 a2 = some r) :
    Calls Try.prog 5 #[.string a0, .string a1, .string a2] w fun e w' => e = .returned (.bool r) ∧ Below w.heap.size w w' := by
  have HB := Aside0.mk (Below.refl w.heap.size w)
  have H : ((path_Less.f k a0 a1).bind fun t101 => ((path_Less.f k a1 a2).bind fun t102 => ((path_Less.f k a0 a2).bind fun t103 => (if t101 = true then (if t102 = true then (if t103 = true then ((path_Less.f k a1 a0).bind fun t104 => (if t104 = true then (remoralaw13_PathOrder.j0 k a0 a1 a2 t101 t102 true) else ((path_Less.f k a0 a0).bind fun t105 => (remoralaw13_PathOrder.j0 k a0 a1 a2 t101 t102 t105)))) else (remoralaw13_PathOrder.j0 k a0 a1 a2 t101 t102 true)) else ((path_Less.f k a1 a0).bind fun t106 => (if t106 = true then (remoralaw13_PathOrder.j0 k a0 a1 a2 t101 t102 true) else ((path_Less.f k a0 a0).bind fun t107 => (remoralaw13_PathOrder.j0 k a0 a1 a2 t101 t102 t107))))) else ((path_Less.f k a0 a0).bind fun t108 => (remoralaw13_PathOrder.j0 k a0 a1 a2 t101 t102 t108)))))) = some r := h
  clear h
  replace H := Option.bind_eq_some_iff.mp H
  obtain ⟨t101, A40, H⟩ := H
  replace H : ((path_Less.f k a1 a2).bind fun t102 => ((path_Less.f k a0 a2).bind fun t103 => (if t101 = true then (if t102 = true then (if t103 = true then ((path_Less.f k a1 a0).bind fun t104 => (if t104 = true then (remoralaw13_PathOrder.j0 k a0 a1 a2 t101 t102 true) else ((path_Less.f k a0 a0).bind fun t105 => (remoralaw13_PathOrder.j0 k a0 a1 a2 t101 t102 t105)))) else (remoralaw13_PathOrder.j0 k a0 a1 a2 t101 t102 true)) else ((path_Less.f k a1 a0).bind fun t106 => (if t106 = true then (remoralaw13_PathOrder.j0 k a0 a1 a2 t101 t102 true) else ((path_Less.f k a0 a0).bind fun t107 => (remoralaw13_PathOrder.j0 k a0 a1 a2 t101 t102 t107))))) else ((path_Less.f k a0 a0).bind fun t108 => (remoralaw13_PathOrder.j0 k a0 a1 a2 t101 t102 t108))))) = some r := H
  have A4 := Aside0.mk A40
  clear A40
  replace H := Option.bind_eq_some_iff.mp H
  obtain ⟨t102, A50, H⟩ := H
  replace H : ((path_Less.f k a0 a2).bind fun t103 => (if t101 = true then (if t102 = true then (if t103 = true then ((path_Less.f k a1 a0).bind fun t104 => (if t104 = true then (remoralaw13_PathOrder.j0 k a0 a1 a2 t101 t102 true) else ((path_Less.f k a0 a0).bind fun t105 => (remoralaw13_PathOrder.j0 k a0 a1 a2 t101 t102 t105)))) else (remoralaw13_PathOrder.j0 k a0 a1 a2 t101 t102 true)) else ((path_Less.f k a1 a0).bind fun t106 => (if t106 = true then (remoralaw13_PathOrder.j0 k a0 a1 a2 t101 t102 true) else ((path_Less.f k a0 a0).bind fun t107 => (remoralaw13_PathOrder.j0 k a0 a1 a2 t101 t102 t107))))) else ((path_Less.f k a0 a0).bind fun t108 => (remoralaw13_PathOrder.j0 k a0 a1 a2 t101 t102 t108)))) = some r := H
  have A5 := Aside0.mk A50
  clear A50
  replace H := Option.bind_eq_some_iff.mp H
  obtain ⟨t103, A60, H⟩ := H
  replace H : (if t101 = true then (if t102 = true then (if t103 = true then ((path_Less.f k a1 a0).bind fun t104 => (if t104 = true then (remoralaw13_PathOrder.j0 k a0 a1 a2 t101 t102 true) else ((path_Less.f k a0 a0).bind fun t105 => (remoralaw13_PathOrder.j0 k a0 a1 a2 t101 t102 t105)))) else (remoralaw13_PathOrder.j0 k a0 a1 a2 t101 t102 true)) else ((path_Less.f k a1 a0).bind fun t106 => (if t106 = true then (remoralaw13_PathOrder.j0 k a0 a1 a2 t101 t102 true) else ((path_Less.f k a0 a0).bind fun t107 => (remoralaw13_PathOrder.j0 k a0 a1 a2 t101 t102 t107))))) else ((path_Less.f k a0 a0).bind fun t108 => (remoralaw13_PathOrder.j0 k a0 a1 a2 t101 t102 t108))) = some r := H
  have A6 := Aside0.mk A60
  clear A60
  have HC7 := Aside0.mk H
  clear H
  go_enter Try.func5, Try.ntmps5
  go_upto_region 2 with (first | ((with_reducible refine gate_callee (f := 20) rfl ?_); refine goesL_ (some 12) rfl rfl Try.func20 (by kernel_rfl) rfl #[.string a0, .string a1] rfl (by (try simp only [List.map_toArray, List.map_cons, List.map_nil]); first | done | rfl | (simp only [List.length_drop, List.length_take]; rfl)) ?_; (with_reducible refine (path_Less.calls k a0 a1 t101 _ A4.out).mono ?_); rintro e w8 ⟨rfl, hb⟩; refine ⟨_, rfl, ?_⟩; have n0_ := Aside0.mk (below_step (by repeat (first | (with_reducible first | exact HB.out | apply below_alloc | apply pw_below_drewN | apply below_drew1) | exact HB.out)) hb); clear HB; have HB := n0_; clear n0_; (try clear hb); (try clear hb2); (try clear hk); (try clear hi)) | ((with_reducible refine gate_callee (f := 20) rfl ?_); refine goesL_ (some 15) rfl rfl Try.func20 (by kernel_rfl) rfl #[.string a1, .string a2] rfl (by (try simp only [List.map_toArray, List.map_cons, List.map_nil]); first | done | rfl | (simp only [List.length_drop, List.length_take]; rfl)) ?_; (with_reducible refine (path_Less.calls k a1 a2 t102 _ A5.out).mono ?_); rintro e w9 ⟨rfl, hb⟩; refine ⟨_, rfl, ?_⟩; have n0_ := Aside0.mk (below_step (by repeat (first | (with_reducible first | exact HB.out | apply below_alloc | apply pw_below_drewN | apply below_drew1) | exact HB.out)) hb); clear HB; have HB := n0_; clear n0_; (try clear hb); (try clear hb2); (try clear hk); (try clear hi)) | ((with_reducible refine gate_callee (f := 20) rfl ?_); refine goesL_ (some 18) rfl rfl Try.func20 (by kernel_rfl) rfl #[.string a0, .string a2] rfl (by (try simp only [List.map_toArray, List.map_cons, List.map_nil]); first | done | rfl | (simp only [List.length_drop, List.length_take]; rfl)) ?_; (with_reducible refine (path_Less.calls k a0 a2 t103 _ A6.out).mono ?_); rintro e w10 ⟨rfl, hb⟩; refine ⟨_, rfl, ?_⟩; have n0_ := Aside0.mk (below_step (by repeat (first | (with_reducible first | exact HB.out | apply below_alloc | apply pw_below_drewN | apply below_drew1) | exact HB.out)) hb); clear HB; have HB := n0_; clear n0_; (try clear hb); (try clear hb2); (try clear hk); (try clear hi)))
  (try simp only [Act.put, List.setIfInBounds_toArray, List.set_cons_zero, List.set_cons_succ])
  go_cut [39] (fun v39 wc => ∃ (kq : Nat) (x39_6 : Bool), v39 = .bool x39_6 ∧ Aside0 (remoralaw13_PathOrder.j0 kq a0 a1 a2 t101 t102 x39_6 = some r) ∧ Aside0 (kq ≤ k) ∧ Aside0 (Below w.heap.size w wc))
  case first =>
    have H := HC7.out
    clear HC7
    by_cases c11 : t101 = true
    · subst c11
      have H1 : (if t102 = true then (if t103 = true then ((path_Less.f k a1 a0).bind fun t104 => (if t104 = true then (remoralaw13_PathOrder.j0 k a0 a1 a2 true t102 true) else ((path_Less.f k a0 a0).bind fun t105 => (remoralaw13_PathOrder.j0 k a0 a1 a2 true t102 t105)))) else (remoralaw13_PathOrder.j0 k a0 a1 a2 true t102 true)) else ((path_Less.f k a1 a0).bind fun t106 => (if t106 = true then (remoralaw13_PathOrder.j0 k a0 a1 a2 true t102 true) else ((path_Less.f k a0 a0).bind fun t107 => (remoralaw13_PathOrder.j0 k a0 a1 a2 true t102 t107))))) = some r := by rw [if_pos rfl] at H; exact H
      clear H
      have H := H1
      clear H1
      by_cases c12 : t102 = true
      · subst c12
        have H1 : (if t103 = true then ((path_Less.f k a1 a0).bind fun t104 => (if t104 = true then (remoralaw13_PathOrder.j0 k a0 a1 a2 true true true) else ((path_Less.f k a0 a0).bind fun t105 => (remoralaw13_PathOrder.j0 k a0 a1 a2 true true t105)))) else (remoralaw13_PathOrder.j0 k a0 a1 a2 true true true)) = some r := by rw [if_pos rfl] at H; exact H
        clear H
        have H := H1
        clear H1
        by_cases c13 : t103 = true
        · subst c13
          have H1 : ((path_Less.f k a1 a0).bind fun t104 => (if t104 = true then (remoralaw13_PathOrder.j0 k a0 a1 a2 true true true) else ((path_Less.f k a0 a0).bind fun t105 => (remoralaw13_PathOrder.j0 k a0 a1 a2 true true t105)))) = some r := by rw [if_pos rfl] at H; exact H
          clear H
          have H := H1
          clear H1
          replace H := Option.bind_eq_some_iff.mp H
          obtain ⟨t104, A140, H⟩ := H
          replace H : (if t104 = true then (remoralaw13_PathOrder.j0 k a0 a1 a2 true true true) else ((path_Less.f k a0 a0).bind fun t105 => (remoralaw13_PathOrder.j0 k a0 a1 a2 true true t105))) = some r := H
          have A14 := Aside0.mk A140
          clear A140
          by_cases c15 : t104 = true
          · subst c15
            have H1 : (remoralaw13_PathOrder.j0 k a0 a1 a2 true true true) = some r := by rw [if_pos rfl] at H; exact H
            clear H
            have H := H1
            clear H1
            have H' := Aside0.mk H
            clear H
            go_wp2_with (first | (go_at_call 20; (with_reducible refine (path_Less.calls k a1 a0 true _ A14.out).mono ?_); rintro e w16 ⟨rfl, hb⟩; have n0_ := Aside0.mk (below_step (by repeat (first | (with_reducible first | exact HB.out | apply below_alloc | apply pw_below_drewN | apply below_drew1) | exact HB.out)) hb); clear HB; have HB := n0_; clear n0_; (try clear hb); (try clear hb2); (try clear hk); (try clear hi)))
            go_meet
            case rel => exact ⟨_, (true), (by first | rfl | (simp; done) | (simp [*]; done)), H', ⟨by first | omega | exact Nat.le_refl _⟩, ⟨by repeat (first | (with_reducible first | exact HB.out | apply below_alloc | apply pw_below_drewN | apply below_drew1) | exact HB.out)⟩⟩
          · replace c15 := Bool.eq_false_iff.mpr c15
            subst c15
            have H1 : ((path_Less.f k a0 a0).bind fun t105 => (remoralaw13_PathOrder.j0 k a0 a1 a2 true true t105)) = some r := by rw [if_neg (show ¬ (false = true) by decide)] at H; exact H
            clear H
            have H := H1
            clear H1
            replace H := Option.bind_eq_some_iff.mp H
            obtain ⟨t105, A170, H⟩ := H
            replace H : (remoralaw13_PathOrder.j0 k a0 a1 a2 true true t105) = some r := H
            have A17 := Aside0.mk A170
            clear A170
            have H' := Aside0.mk H
            clear H
            go_wp2_with (first | (go_at_call 20; (with_reducible refine (path_Less.calls k a1 a0 false _ A14.out).mono ?_); rintro e w18 ⟨rfl, hb⟩; have n0_ := Aside0.mk (below_step (by repeat (first | (with_reducible first | exact HB.out | apply below_alloc | apply pw_below_drewN | apply below_drew1) | exact HB.out)) hb); clear HB; have HB := n0_; clear n0_; (try clear hb); (try clear hb2); (try clear hk); (try clear hi)) | (go_at_call 20; (with_reducible refine (path_Less.calls k a0 a0 t105 _ A17.out).mono ?_); rintro e w19 ⟨rfl, hb⟩; have n0_ := Aside0.mk (below_step (by repeat (first | (with_reducible first | exact HB.out | apply below_alloc | apply pw_below_drewN | apply below_drew1) | exact HB.out)) hb); clear HB; have HB := n0_; clear n0_; (try clear hb); (try clear hb2); (try clear hk); (try clear hi)))
            go_meet
            case rel => exact ⟨_, (t105), (by first | rfl | (simp; done) | (simp [*]; done)), H', ⟨by first | omega | exact Nat.le_refl _⟩, ⟨by repeat (first | (with_reducible first | exact HB.out | apply below_alloc | apply pw_below_drewN | apply below_drew1) | exact HB.out)⟩⟩
        · replace c13 := Bool.eq_false_iff.mpr c13
          subst c13
          have H1 : (remoralaw13_PathOrder.j0 k a0 a1 a2 true true true) = some r := by rw [if_neg (show ¬ (false = true) by decide)] at H; exact H
          clear H
          have H := H1
          clear H1
          have H' := Aside0.mk H
          clear H
          go_wp2
          go_meet
          case rel => exact ⟨_, (true), (by first | rfl | (simp; done) | (simp [*]; done)), H', ⟨by first | omega | exact Nat.le_refl _⟩, ⟨by repeat (first | (with_reducible first | exact HB.out | apply below_alloc | apply pw_below_drewN | apply below_drew1) | exact HB.out)⟩⟩
      · replace c12 := Bool.eq_false_iff.mpr c12
        subst c12
        have H1 : ((path_Less.f k a1 a0).bind fun t106 => (if t106 = true then (remoralaw13_PathOrder.j0 k a0 a1 a2 true false true) else ((path_Less.f k a0 a0).bind fun t107 => (remoralaw13_PathOrder.j0 k a0 a1 a2 true false t107)))) = some r := by rw [if_neg (show ¬ (false = true) by decide)] at H; exact H
        clear H
        have H := H1
        clear H1
        replace H := Option.bind_eq_some_iff.mp H
        obtain ⟨t106, A200, H⟩ := H
        replace H : (if t106 = true then (remoralaw13_PathOrder.j0 k a0 a1 a2 true false true) else ((path_Less.f k a0 a0).bind fun t107 => (remoralaw13_PathOrder.j0 k a0 a1 a2 true false t107))) = some r := H
        have A20 := Aside0.mk A200
        clear A200
        by_cases c21 : t106 = true
        · subst c21
          have H1 : (remoralaw13_PathOrder.j0 k a0 a1 a2 true false true) = some r := by rw [if_pos rfl] at H; exact H
          clear H
          have H := H1
          clear H1
          have H' := Aside0.mk H
          clear H
          go_wp2_with (first | (go_at_call 20; (with_reducible refine (path_Less.calls k a1 a0 true _ A20.out).mono ?_); rintro e w22 ⟨rfl, hb⟩; have n0_ := Aside0.mk (below_step (by repeat (first | (with_reducible first | exact HB.out | apply below_alloc | apply pw_below_drewN | apply below_drew1) | exact HB.out)) hb); clear HB; have HB := n0_; clear n0_; (try clear hb); (try clear hb2); (try clear hk); (try clear hi)))
          go_meet
          case rel => exact ⟨_, (true), (by first | rfl | (simp; done) | (simp [*]; done)), H', ⟨by first | omega | exact Nat.le_refl _⟩, ⟨by repeat (first | (with_reducible first | exact HB.out | apply below_alloc | apply pw_below_drewN | apply below_drew1) | exact HB.out)⟩⟩
        · replace c21 := Bool.eq_false_iff.mpr c21
          subst c21
          have H1 : ((path_Less.f k a0 a0).bind fun t107 => (remoralaw13_PathOrder.j0 k a0 a1 a2 true false t107)) = some r := by rw [if_neg (show ¬ (false = true) by decide)] at H; exact H
          clear H
          have H := H1
          clear H1
          replace H := Option.bind_eq_some_iff.mp H
          obtain ⟨t107, A230, H⟩ := H
          replace H : (remoralaw13_PathOrder.j0 k a0 a1 a2 true false t107) = some r := H
          have A23 := Aside0.mk A230
          clear A230
          have H' := Aside0.mk H
          clear H
          go_wp2_with (first | (go_at_call 20; (with_reducible refine (path_Less.calls k a1 a0 false _ A20.out).mono ?_); rintro e w24 ⟨rfl, hb⟩; have n0_ := Aside0.mk (below_step (by repeat (first | (with_reducible first | exact HB.out | apply below_alloc | apply pw_below_drewN | apply below_drew1) | exact HB.out)) hb); clear HB; have HB := n0_; clear n0_; (try clear hb); (try clear hb2); (try clear hk); (try clear hi)) | (go_at_call 20; (with_reducible refine (path_Less.calls k a0 a0 t107 _ A23.out).mono ?_); rintro e w25 ⟨rfl, hb⟩; have n0_ := Aside0.mk (below_step (by repeat (first | (with_reducible first | exact HB.out | apply below_alloc | apply pw_below_drewN | apply below_drew1) | exact HB.out)) hb); clear HB; have HB := n0_; clear n0_; (try clear hb); (try clear hb2); (try clear hk); (try clear hi)))
          go_meet
          case rel => exact ⟨_, (t107), (by first | rfl | (simp; done) | (simp [*]; done)), H', ⟨by first | omega | exact Nat.le_refl _⟩, ⟨by repeat (first | (with_reducible first | exact HB.out | apply below_alloc | apply pw_below_drewN | apply below_drew1) | exact HB.out)⟩⟩
    · replace c11 := Bool.eq_false_iff.mpr c11
      subst c11
      have H1 : ((path_Less.f k a0 a0).bind fun t108 => (remoralaw13_PathOrder.j0 k a0 a1 a2 false t102 t108)) = some r := by rw [if_neg (show ¬ (false = true) by decide)] at H; exact H
      clear H
      have H := H1
      clear H1
      replace H := Option.bind_eq_some_iff.mp H
      obtain ⟨t108, A260, H⟩ := H
      replace H : (remoralaw13_PathOrder.j0 k a0 a1 a2 false t102 t108) = some r := H
      have A26 := Aside0.mk A260
      clear A260
      have H' := Aside0.mk H
      clear H
      go_wp2_with (first | (go_at_call 20; (with_reducible refine (path_Less.calls k a0 a0 t108 _ A26.out).mono ?_); rintro e w27 ⟨rfl, hb⟩; have n0_ := Aside0.mk (below_step (by repeat (first | (with_reducible first | exact HB.out | apply below_alloc | apply pw_below_drewN | apply below_drew1) | exact HB.out)) hb); clear HB; have HB := n0_; clear n0_; (try clear hb); (try clear hb2); (try clear hk); (try clear hi)))
      go_meet
      case rel => exact ⟨_, (t108), (by first | rfl | (simp; done) | (simp [*]; done)), H', ⟨by first | omega | exact Nat.le_refl _⟩, ⟨by repeat (first | (with_reducible first | exact HB.out | apply below_alloc | apply pw_below_drewN | apply below_drew1) | exact HB.out)⟩⟩
  case rest =>
    clear HC7
    try clear c1
    try clear c2
    try clear p2
    try clear c5
    try clear c11
    try clear c12
    try clear c13
    try clear c15
    try clear c20
    try clear c21
    obtain ⟨kq, x39_6, rfl, HA, HJ6, HB⟩ := hcut
    cases kq with
    | zero => exact absurd HA.out (by simp [remoralaw13_PathOrder.j0])
    | succ kj6 =>
      have H := HA.out
      clear HA
      simp only [remoralaw13_PathOrder.j0] at H
      by_cases c28 : x39_6 = true
      · subst c28
        have H1 : (some false) = some r := by rw [if_pos rfl] at H; exact H
        clear H
        have H := H1
        clear H1
        obtain rfl := Option.some.inj H
        go_wp2
        go_ret
        exact ⟨by first | rfl | (simp [errW_none, errW_some] <;> rfl) | (simp [*, errW_none, errW_some] <;> rfl), by repeat (first | (with_reducible first | exact HB.out | apply below_alloc | apply pw_below_drewN | apply below_drew1) | exact HB.out)⟩
      · replace c28 := Bool.eq_false_iff.mpr c28
        subst c28
        have H1 : (if t101 = true then (remoralaw13_PathOrder.j1 kj6 a0 a1 a2 t101 t102 false) else ((path_Less.f kj6 a1 a0).bind fun t109 => (if t109 = true then (remoralaw13_PathOrder.j1 kj6 a0 a1 a2 t101 t102 false) else ((path_Split.f a0).bind fun t110 => ((path_Split.f a1).bind fun t113 => ((remoralaw13_texts.f kj6 t110 t113).bind fun t116 => (remoralaw13_PathOrder.j1 kj6 a0 a1 a2 t101 t102 (!t116)))))))) = some r := by rw [if_neg (show ¬ (false = true) by decide)] at H; exact H
        clear H
        have H := H1
        clear H1
        have HC29 := Aside0.mk H
        clear H
        go_upto_region 4 with (fail)
        go_cut [55] (fun v55 wc => ∃ (kq : Nat) (x55_28 : Bool), v55 = .bool x55_28 ∧ Aside0 (remoralaw13_PathOrder.j1 kq a0 a1 a2 t101 t102 x55_28 = some r) ∧ Aside0 (kq ≤ kj6) ∧ Aside0 (Below w.heap.size w wc))
        case first =>
          have H := HC29.out
          clear HC29
          by_cases c30 : t101 = true
          · subst c30
            have H1 : (remoralaw13_PathOrder.j1 kj6 a0 a1 a2 true t102 false) = some r := by rw [if_pos rfl] at H; exact H
            clear H
            have H := H1
            clear H1
            have H' := Aside0.mk H
            clear H
            go_wp2
            go_meet
            case rel => exact ⟨_, (false), (by first | rfl | (simp; done) | (simp [*]; done)), H', ⟨by have := HJ6.out; first | omega | exact Nat.le_refl _⟩, ⟨by repeat (first | (with_reducible first | exact HB.out | apply below_alloc | apply pw_below_drewN | apply below_drew1) | exact HB.out)⟩⟩
          · replace c30 := Bool.eq_false_iff.mpr c30
            subst c30
            have H1 : ((path_Less.f kj6 a1 a0).bind fun t109 => (if t109 = true then (remoralaw13_PathOrder.j1 kj6 a0 a1 a2 false t102 false) else ((path_Split.f a0).bind fun t110 => ((path_Split.f a1).bind fun t113 => ((remoralaw13_texts.f kj6 t110 t113).bind fun t116 => (remoralaw13_PathOrder.j1 kj6 a0 a1 a2 false t102 (!t116))))))) = some r := by rw [if_neg (show ¬ (false = true) by decide)] at H; exact H
            clear H
            have H := H1
            clear H1
            replace H := Option.bind_eq_some_iff.mp H
            obtain ⟨t109, A310, H⟩ := H
            replace H : (if t109 = true then (remoralaw13_PathOrder.j1 kj6 a0 a1 a2 false t102 false) else ((path_Split.f a0).bind fun t110 => ((path_Split.f a1).bind fun t113 => ((remoralaw13_texts.f kj6 t110 t113).bind fun t116 => (remoralaw13_PathOrder.j1 kj6 a0 a1 a2 false t102 (!t116)))))) = some r := H
            have A31 := Aside0.mk A310
            clear A310
            by_cases c32 : t109 = true
            · subst c32
              have H1 : (remoralaw13_PathOrder.j1 kj6 a0 a1 a2 false t102 false) = some r := by rw [if_pos rfl] at H; exact H
              clear H
              have H := H1
              clear H1
              have H' := Aside0.mk H
              clear H
              go_wp2_with (first | (go_at_call 20; (with_reducible refine (path_Less.calls kj6 a1 a0 true _ A31.out).mono ?_); rintro e w33 ⟨rfl, hb⟩; have n0_ := Aside0.mk (below_step (by repeat (first | (with_reducible first | exact HB.out | apply below_alloc | apply pw_below_drewN | apply below_drew1) | exact HB.out)) hb); clear HB; have HB := n0_; clear n0_; (try clear hb); (try clear hb2); (try clear hk); (try clear hi)))
              go_meet
              case rel => exact ⟨_, (false), (by first | rfl | (simp; done) | (simp [*]; done)), H', ⟨by have := HJ6.out; first | omega | exact Nat.le_refl _⟩, ⟨by repeat (first | (with_reducible first | exact HB.out | apply below_alloc | apply pw_below_drewN | apply below_drew1) | exact HB.out)⟩⟩
            · replace c32 := Bool.eq_false_iff.mpr c32
              subst c32
              have H1 : ((path_Split.f a0).bind fun t110 => ((path_Split.f a1).bind fun t113 => ((remoralaw13_texts.f kj6 t110 t113).bind fun t116 => (remoralaw13_PathOrder.j1 kj6 a0 a1 a2 false t102 (!t116))))) = some r := by rw [if_neg (show ¬ (false = true) by decide)] at H; exact H
              clear H
              have H := H1
              clear H1
              replace H := Option.bind_eq_some_iff.mp H
              obtain ⟨t110, A340, H⟩ := H
              replace H : ((path_Split.f a1).bind fun t113 => ((remoralaw13_texts.f kj6 t110 t113).bind fun t116 => (remoralaw13_PathOrder.j1 kj6 a0 a1 a2 false t102 (!t116)))) = some r := H
              have A34 := Aside0.mk A340
              clear A340
              replace H := Option.bind_eq_some_iff.mp H
              obtain ⟨t113, A350, H⟩ := H
              replace H : ((remoralaw13_texts.f kj6 t110 t113).bind fun t116 => (remoralaw13_PathOrder.j1 kj6 a0 a1 a2 false t102 (!t116))) = some r := H
              have A35 := Aside0.mk A350
              clear A350
              replace H := Option.bind_eq_some_iff.mp H
              obtain ⟨t116, A360, H⟩ := H
              replace H : (remoralaw13_PathOrder.j1 kj6 a0 a1 a2 false t102 (!t116)) = some r := H
              have A36 := Aside0.mk A360
              clear A360
              have H' := Aside0.mk H
              clear H
              go_wp2_with (first | (go_at_call 20; (with_reducible refine (path_Less.calls kj6 a1 a0 false _ A31.out).mono ?_); rintro e w37 ⟨rfl, hb⟩; have n0_ := Aside0.mk (below_step (by repeat (first | (with_reducible first | exact HB.out | apply below_alloc | apply pw_below_drewN | apply below_drew1) | exact HB.out)) hb); clear HB; have HB := n0_; clear n0_; (try clear hb); (try clear hb2); (try clear hk); (try clear hi)) | (go_at_call 17; (with_reducible refine (path_Split.calls a0 t110 _ A34.out).mono ?_); rintro e w38 ⟨v111, rfl, ho0, hb⟩; have n0_ := Aside0.mk (Kd.R_lower ho0 (below_size (by repeat (first | (with_reducible first | exact HB.out | apply below_alloc | apply pw_below_drewN | apply below_drew1) | exact HB.out)))); have n1_ := Aside0.mk (below_step (by repeat (first | (with_reducible first | exact HB.out | apply below_alloc | apply pw_below_drewN | apply below_drew1) | exact HB.out)) hb); clear HB; have HO112 := n0_; have HB := n1_; clear n0_ n1_; (try clear hb); (try clear hb2); (try clear hk); (try clear hi); (try clear ho0)) | (go_at_call 17; (with_reducible refine (path_Split.calls a1 t113 _ A35.out).mono ?_); rintro e w39 ⟨v114, rfl, ho0, hb⟩; have n0_ := Aside0.mk (Kd.R_elder' (by (with_reducible repeat (first | apply Kd.R_alloc | apply Kd.R_drewN | apply Kd.R_drew)); exact HO112.out) (Kd.R_base ho0) hb); have n1_ := Aside0.mk (Kd.R_lower (Kd.R_new' ho0 (Kd.R_lt (by (with_reducible repeat (first | apply Kd.R_alloc | apply Kd.R_drewN | apply Kd.R_drew)); exact HO112.out))) (below_size (by repeat (first | (with_reducible first | exact HB.out | apply below_alloc | apply pw_below_drewN | apply below_drew1) | exact HB.out)))); have n2_ := Aside0.mk (below_step (by repeat (first | (with_reducible first | exact HB.out | apply below_alloc | apply pw_below_drewN | apply below_drew1) | exact HB.out)) hb); clear HO112; clear HB; have HO112 := n0_; have HO115 := n1_; have HB := n2_; clear n0_ n1_ n2_; (try clear hb); (try clear hb2); (try clear hk); (try clear hi); (try clear ho0); obtain ⟨Ao40, co40, eo40⟩ := Kd.R_slice HO112.out; subst eo40; obtain ⟨Ao41, co41, eo41⟩ := Kd.R_slice HO115.out; subst eo41) | (go_at_call 18; (with_reducible refine (remoralaw13_texts.calls kj6 _ _ t110 _ _ t113 t116 _ ?side1 ?side2 ?side3 ?side4 A36.out).mono ?_); (case side1 => repeat (first | exact (Kd.R_reads' HO112.out).2.2 | (with_reducible refine Kd.C_alloc ?_ _) | (with_reducible refine Kd.C_drewN ?_ _) | (with_reducible refine Kd.C_drew ?_))); (case side2 => exact (Kd.R_reads' HO112.out).2.1); (case side3 => repeat (first | exact (Kd.R_reads' HO115.out).2.2 | (with_reducible refine Kd.C_alloc ?_ _) | (with_reducible refine Kd.C_drewN ?_ _) | (with_reducible refine Kd.C_drew ?_))); (case side4 => exact (Kd.R_reads' HO115.out).2.1); rintro e w' ⟨rfl, ⟨nd, rfl⟩⟩))
              go_meet
              case rel => exact ⟨_, (!t116), (by first | rfl | (simp; done) | (simp [*]; done)), H', ⟨by have := HJ6.out; first | omega | exact Nat.le_refl _⟩, ⟨by repeat (first | (with_reducible first | exact HB.out | apply below_alloc | apply pw_below_drewN | apply below_drew1) | exact HB.out)⟩⟩
        case rest =>
          clear HC29
          try clear c1
          try clear c2
          try clear p2
          try clear c3
          try clear c5
          try clear c11
          try clear c12
          try clear c13
          try clear c15
          try clear c20
          try clear c21
          try clear c28
          try clear c30
          try clear c32
          try clear p2
          obtain ⟨kq, x55_28, rfl, HA, HJ28, HB⟩ := hcut
          cases kq with
          | zero => exact absurd HA.out (by simp [remoralaw13_PathOrder.j1])
          | succ kj28 =>
            have H := HA.out
            clear HA
            simp only [remoralaw13_PathOrder.j1] at H
            by_cases c42 : x55_28 = true
            · subst c42
              have H1 : (some false) = some r := by rw [if_pos rfl] at H; exact H
              clear H
              have H := H1
              clear H1
              obtain rfl := Option.some.inj H
              go_wp2
              go_ret
              exact ⟨by first | rfl | (simp [errW_none, errW_some] <;> rfl) | (simp [*, errW_none, errW_some] <;> rfl), by repeat (first | (with_reducible first | exact HB.out | apply below_alloc | apply pw_below_drewN | apply below_drew1) | exact HB.out)⟩
            · replace c42 := Bool.eq_false_iff.mpr c42
              subst c42
              have H1 : ((path_Under.f kj28 a1 a0).bind fun t117 => (if t117 = true then ((path_Depth.f a1).bind fun t118 => ((path_Depth.f a0).bind fun t119 => (if t118 > t119 then (remoralaw13_PathOrder.j2 kj28 a0 a1 a2 t101 t102 (!t101)) else (remoralaw13_PathOrder.j2 kj28 a0 a1 a2 t101 t102 false)))) else (remoralaw13_PathOrder.j2 kj28 a0 a1 a2 t101 t102 false))) = some r := by rw [if_neg (show ¬ (false = true) by decide)] at H; exact H
              clear H
              have H := H1
              clear H1
              have HC43 := Aside0.mk H
              clear H
              go_upto_region 6 with (fail)
              go_cut [69] (fun v69 wc => ∃ (kq : Nat) (x69_42 : Bool), v69 = .bool x69_42 ∧ Aside0 (remoralaw13_PathOrder.j2 kq a0 a1 a2 t101 t102 x69_42 = some r) ∧ Aside0 (kq ≤ kj28) ∧ Aside0 (Below w.heap.size w wc))
              case first =>
                have H := HC43.out
                clear HC43
                replace H := Option.bind_eq_some_iff.mp H
                obtain ⟨t117, A440, H⟩ := H
                replace H : (if t117 = true then ((path_Depth.f a1).bind fun t118 => ((path_Depth.f a0).bind fun t119 => (if t118 > t119 then (remoralaw13_PathOrder.j2 kj28 a0 a1 a2 t101 t102 (!t101)) else (remoralaw13_PathOrder.j2 kj28 a0 a1 a2 t101 t102 false)))) else (remoralaw13_PathOrder.j2 kj28 a0 a1 a2 t101 t102 false)) = some r := H
                have A44 := Aside0.mk A440
                clear A440
                by_cases c45 : t117 = true
                · subst c45
                  have H1 : ((path_Depth.f a1).bind fun t118 => ((path_Depth.f a0).bind fun t119 => (if t118 > t119 then (remoralaw13_PathOrder.j2 kj28 a0 a1 a2 t101 t102 (!t101)) else (remoralaw13_PathOrder.j2 kj28 a0 a1 a2 t101 t102 false)))) = some r := by rw [if_pos rfl] at H; exact H
                  clear H
                  have H := H1
                  clear H1
                  replace H := Option.bind_eq_some_iff.mp H
                  obtain ⟨t118, A460, H⟩ := H
                  replace H : ((path_Depth.f a0).bind fun t119 => (if t118 > t119 then (remoralaw13_PathOrder.j2 kj28 a0 a1 a2 t101 t102 (!t101)) else (remoralaw13_PathOrder.j2 kj28 a0 a1 a2 t101 t102 false))) = some r := H
                  have A46 := Aside0.mk A460
                  clear A460
                  replace H := Option.bind_eq_some_iff.mp H
                  obtain ⟨t119, A470, H⟩ := H
                  replace H : (if t118 > t119 then (remoralaw13_PathOrder.j2 kj28 a0 a1 a2 t101 t102 (!t101)) else (remoralaw13_PathOrder.j2 kj28 a0 a1 a2 t101 t102 false)) = some r := H
                  have A47 := Aside0.mk A470
                  clear A470
                  by_cases c48 : t118 > t119
                  · rw [if_pos c48] at H
                    have c48b0 : decide (t119 < t118) = true := decide_eq_true c48
                    clear c48
                    (first | rw [c48b0] | (simp only [i64_w, i32_w]; rw [c48b0]) | skip)
                    have H' := Aside0.mk H
                    clear H
                    go_wp2_with (first | ((with_reducible refine gate_callee (f := 21) rfl ?_); refine goesL_ (some 58) rfl rfl Try.func21 (by kernel_rfl) rfl #[.string a1, .string a0] rfl (by (try simp only [List.map_toArray, List.map_cons, List.map_nil]); first | done | rfl | (simp only [List.length_drop, List.length_take]; rfl)) ?_; (with_reducible refine (path_Under.calls kj28 a1 a0 true _ A44.out).mono ?_); rintro e w49 ⟨rfl, hb⟩; refine ⟨_, rfl, ?_⟩; have n0_ := Aside0.mk (below_step (by repeat (first | (with_reducible first | exact HB.out | apply below_alloc | apply pw_below_drewN | apply below_drew1) | exact HB.out)) hb); clear HB; have HB := n0_; clear n0_; (try clear hb); (try clear hb2); (try clear hk); (try clear hi)) | (go_at_call 19; (with_reducible refine (path_Depth.calls a1 t118 _ A46.out).mono ?_); rintro e w50 ⟨rfl, hb⟩; have n0_ := Aside0.mk (below_step (by repeat (first | (with_reducible first | exact HB.out | apply below_alloc | apply pw_below_drewN | apply below_drew1) | exact HB.out)) hb); clear HB; have HB := n0_; clear n0_; (try clear hb); (try clear hb2); (try clear hk); (try clear hi)) | (go_at_call 19; (with_reducible refine (path_Depth.calls a0 t119 _ A47.out).mono ?_); rintro e w51 ⟨rfl, hb⟩; have n0_ := Aside0.mk (below_step (by repeat (first | (with_reducible first | exact HB.out | apply below_alloc | apply pw_below_drewN | apply below_drew1) | exact HB.out)) hb); clear HB; have HB := n0_; clear n0_; (try clear hb); (try clear hb2); (try clear hk); (try clear hi)))
                    go_meet
                    case rel => exact ⟨_, (!t101), (by first | rfl | (simp; done) | (simp [*]; done)), H', ⟨by have := HJ6.out; have := HJ28.out; first | omega | exact Nat.le_refl _⟩, ⟨by repeat (first | (with_reducible first | exact HB.out | apply below_alloc | apply pw_below_drewN | apply below_drew1) | exact HB.out)⟩⟩
                  · rw [if_neg c48] at H
                    have c48b0 : decide (t119 < t118) = false := decide_eq_false c48
                    clear c48
                    (first | rw [c48b0] | (simp only [i64_w, i32_w]; rw [c48b0]) | skip)
                    have H' := Aside0.mk H
                    clear H
                    go_wp2_with (first | ((with_reducible refine gate_callee (f := 21) rfl ?_); refine goesL_ (some 58) rfl rfl Try.func21 (by kernel_rfl) rfl #[.string a1, .string a0] rfl (by (try simp only [List.map_toArray, List.map_cons, List.map_nil]); first | done | rfl | (simp only [List.length_drop, List.length_take]; rfl)) ?_; (with_reducible refine (path_Under.calls kj28 a1 a0 true _ A44.out).mono ?_); rintro e w52 ⟨rfl, hb⟩; refine ⟨_, rfl, ?_⟩; have n0_ := Aside0.mk (below_step (by repeat (first | (with_reducible first | exact HB.out | apply below_alloc | apply pw_below_drewN | apply below_drew1) | exact HB.out)) hb); clear HB; have HB := n0_; clear n0_; (try clear hb); (try clear hb2); (try clear hk); (try clear hi)) | (go_at_call 19; (with_reducible refine (path_Depth.calls a1 t118 _ A46.out).mono ?_); rintro e w53 ⟨rfl, hb⟩; have n0_ := Aside0.mk (below_step (by repeat (first | (with_reducible first | exact HB.out | apply below_alloc | apply pw_below_drewN | apply below_drew1) | exact HB.out)) hb); clear HB; have HB := n0_; clear n0_; (try clear hb); (try clear hb2); (try clear hk); (try clear hi)) | (go_at_call 19; (with_reducible refine (path_Depth.calls a0 t119 _ A47.out).mono ?_); rintro e w54 ⟨rfl, hb⟩; have n0_ := Aside0.mk (below_step (by repeat (first | (with_reducible first | exact HB.out | apply below_alloc | apply pw_below_drewN | apply below_drew1) | exact HB.out)) hb); clear HB; have HB := n0_; clear n0_; (try clear hb); (try clear hb2); (try clear hk); (try clear hi)))
                    go_meet
                    case rel => exact ⟨_, (false), (by first | rfl | (simp; done) | (simp [*]; done)), H', ⟨by have := HJ6.out; have := HJ28.out; first | omega | exact Nat.le_refl _⟩, ⟨by repeat (first | (with_reducible first | exact HB.out | apply below_alloc | apply pw_below_drewN | apply below_drew1) | exact HB.out)⟩⟩
                · replace c45 := Bool.eq_false_iff.mpr c45
                  subst c45
                  have H1 : (remoralaw13_PathOrder.j2 kj28 a0 a1 a2 t101 t102 false) = some r := by rw [if_neg (show ¬ (false = true) by decide)] at H; exact H
                  clear H
                  have H := H1
                  clear H1
                  have H' := Aside0.mk H
                  clear H
                  go_wp2_with (first | ((with_reducible refine gate_callee (f := 21) rfl ?_); refine goesL_ (some 58) rfl rfl Try.func21 (by kernel_rfl) rfl #[.string a1, .string a0] rfl (by (try simp only [List.map_toArray, List.map_cons, List.map_nil]); first | done | rfl | (simp only [List.length_drop, List.length_take]; rfl)) ?_; (with_reducible refine (path_Under.calls kj28 a1 a0 false _ A44.out).mono ?_); rintro e w55 ⟨rfl, hb⟩; refine ⟨_, rfl, ?_⟩; have n0_ := Aside0.mk (below_step (by repeat (first | (with_reducible first | exact HB.out | apply below_alloc | apply pw_below_drewN | apply below_drew1) | exact HB.out)) hb); clear HB; have HB := n0_; clear n0_; (try clear hb); (try clear hb2); (try clear hk); (try clear hi)))
                  go_meet
                  case rel => exact ⟨_, (false), (by first | rfl | (simp; done) | (simp [*]; done)), H', ⟨by have := HJ6.out; have := HJ28.out; first | omega | exact Nat.le_refl _⟩, ⟨by repeat (first | (with_reducible first | exact HB.out | apply below_alloc | apply pw_below_drewN | apply below_drew1) | exact HB.out)⟩⟩
              case rest =>
                clear HC43
                try clear c1
                try clear c2
                try clear p2
                try clear c3
                try clear c4
                try clear c5
                try clear c11
                try clear c12
                try clear c13
                try clear c15
                try clear c20
                try clear c21
                try clear c28
                try clear c30
                try clear c32
                try clear c42
                try clear c45
                try clear c48
                try clear c48b0
                try clear p2
                obtain ⟨kq, x69_42, rfl, HA, HJ42, HB⟩ := hcut
                cases kq with
                | zero => exact absurd HA.out (by simp [remoralaw13_PathOrder.j2])
                | succ kj42 =>
                  have H := HA.out
                  clear HA
                  simp only [remoralaw13_PathOrder.j2] at H
                  by_cases c56 : x69_42 = true
                  · subst c56
                    have H1 : (some false) = some r := by rw [if_pos rfl] at H; exact H
                    clear H
                    have H := H1
                    clear H1
                    obtain rfl := Option.some.inj H
                    go_wp2
                    go_ret
                    exact ⟨by first | rfl | (simp [errW_none, errW_some] <;> rfl) | (simp [*, errW_none, errW_some] <;> rfl), by repeat (first | (with_reducible first | exact HB.out | apply below_alloc | apply pw_below_drewN | apply below_drew1) | exact HB.out)⟩
                  · replace c56 := Bool.eq_false_iff.mpr c56
                    subst c56
                    have H1 : ((path_Under.f kj42 a2 a0).bind fun t120 => (if t120 = true then (if t101 = true then (if t102 = true then ((path_Under.f kj42 a1 a0).bind fun t121 => (if t121 = true then ((remoralaw13_awake.f kj42).bind fun t122 => (some t122)) else (some false))) else ((remoralaw13_awake.f kj42).bind fun t123 => (some t123))) else ((remoralaw13_awake.f kj42).bind fun t124 => (some t124))) else ((remoralaw13_awake.f kj42).bind fun t125 => (some t125)))) = some r := by rw [if_neg (show ¬ (false = true) by decide)] at H; exact H
                    clear H
                    have H := H1
                    clear H1
                    replace H := Option.bind_eq_some_iff.mp H
                    obtain ⟨t120, A570, H⟩ := H
                    replace H : (if t120 = true then (if t101 = true then (if t102 = true then ((path_Under.f kj42 a1 a0).bind fun t121 => (if t121 = true then ((remoralaw13_awake.f kj42).bind fun t122 => (some t122)) else (some false))) else ((remoralaw13_awake.f kj42).bind fun t123 => (some t123))) else ((remoralaw13_awake.f kj42).bind fun t124 => (some t124))) else ((remoralaw13_awake.f kj42).bind fun t125 => (some t125))) = some r := H
                    have A57 := Aside0.mk A570
                    clear A570
                    by_cases c58 : t120 = true
                    · subst c58
                      have H1 : (if t101 = true then (if t102 = true then ((path_Under.f kj42 a1 a0).bind fun t121 => (if t121 = true then ((remoralaw13_awake.f kj42).bind fun t122 => (some t122)) else (some false))) else ((remoralaw13_awake.f kj42).bind fun t123 => (some t123))) else ((remoralaw13_awake.f kj42).bind fun t124 => (some t124))) = some r := by rw [if_pos rfl] at H; exact H
                      clear H
                      have H := H1
                      clear H1
                      by_cases c59 : t101 = true
                      · subst c59
                        have H1 : (if t102 = true then ((path_Under.f kj42 a1 a0).bind fun t121 => (if t121 = true then ((remoralaw13_awake.f kj42).bind fun t122 => (some t122)) else (some false))) else ((remoralaw13_awake.f kj42).bind fun t123 => (some t123))) = some r := by rw [if_pos rfl] at H; exact H
                        clear H
                        have H := H1
                        clear H1
                        by_cases c60 : t102 = true
                        · subst c60
                          have H1 : ((path_Under.f kj42 a1 a0).bind fun t121 => (if t121 = true then ((remoralaw13_awake.f kj42).bind fun t122 => (some t122)) else (some false))) = some r := by rw [if_pos rfl] at H; exact H
                          clear H
                          have H := H1
                          clear H1
                          replace H := Option.bind_eq_some_iff.mp H
                          obtain ⟨t121, A610, H⟩ := H
                          replace H : (if t121 = true then ((remoralaw13_awake.f kj42).bind fun t122 => (some t122)) else (some false)) = some r := H
                          have A61 := Aside0.mk A610
                          clear A610
                          by_cases c62 : t121 = true
                          · subst c62
                            have H1 : ((remoralaw13_awake.f kj42).bind fun t122 => (some t122)) = some r := by rw [if_pos rfl] at H; exact H
                            clear H
                            have H := H1
                            clear H1
                            replace H := Option.bind_eq_some_iff.mp H
                            obtain ⟨t122, A630, H⟩ := H
                            replace H : (some t122) = some r := H
                            have A63 := Aside0.mk A630
                            clear A630
                            obtain rfl := Option.some.inj H
                            go_wp2_with (first | ((with_reducible refine gate_callee (f := 21) rfl ?_); refine goesL_ (some 72) rfl rfl Try.func21 (by kernel_rfl) rfl #[.string a2, .string a0] rfl (by (try simp only [List.map_toArray, List.map_cons, List.map_nil]); first | done | rfl | (simp only [List.length_drop, List.length_take]; rfl)) ?_; (with_reducible refine (path_Under.calls kj42 a2 a0 true _ A57.out).mono ?_); rintro e w64 ⟨rfl, hb⟩; refine ⟨_, rfl, ?_⟩; have n0_ := Aside0.mk (below_step (by repeat (first | (with_reducible first | exact HB.out | apply below_alloc | apply pw_below_drewN | apply below_drew1) | exact HB.out)) hb); clear HB; have HB := n0_; clear n0_; (try clear hb); (try clear hb2); (try clear hk); (try clear hi)) | (go_at_call 21; (with_reducible refine (path_Under.calls kj42 a1 a0 true _ A61.out).mono ?_); rintro e w65 ⟨rfl, hb⟩; have n0_ := Aside0.mk (below_step (by repeat (first | (with_reducible first | exact HB.out | apply below_alloc | apply pw_below_drewN | apply below_drew1) | exact HB.out)) hb); clear HB; have HB := n0_; clear n0_; (try clear hb); (try clear hb2); (try clear hk); (try clear hi)) | (go_at_call 11; (with_reducible refine (remoralaw13_awake.calls kj42  t122 _ A63.out).mono ?_); rintro e w66 ⟨rfl, hb⟩; have n0_ := Aside0.mk (below_step (by repeat (first | (with_reducible first | exact HB.out | apply below_alloc | apply pw_below_drewN | apply below_drew1) | exact HB.out)) hb); clear HB; have HB := n0_; clear n0_; (try clear hb); (try clear hb2); (try clear hk); (try clear hi)))
                            go_ret
                            exact ⟨by first | rfl | (simp [errW_none, errW_some] <;> rfl) | (simp [*, errW_none, errW_some] <;> rfl), by repeat (first | (with_reducible first | exact HB.out | apply below_alloc | apply pw_below_drewN | apply below_drew1) | exact HB.out)⟩
                          · replace c62 := Bool.eq_false_iff.mpr c62
                            subst c62
                            have H1 : (some false) = some r := by rw [if_neg (show ¬ (false = true) by decide)] at H; exact H
                            clear H
                            have H := H1
                            clear H1
                            obtain rfl := Option.some.inj H
                            go_wp2_with (first | ((with_reducible refine gate_callee (f := 21) rfl ?_); refine goesL_ (some 72) rfl rfl Try.func21 (by kernel_rfl) rfl #[.string a2, .string a0] rfl (by (try simp only [List.map_toArray, List.map_cons, List.map_nil]); first | done | rfl | (simp only [List.length_drop, List.length_take]; rfl)) ?_; (with_reducible refine (path_Under.calls kj42 a2 a0 true _ A57.out).mono ?_); rintro e w67 ⟨rfl, hb⟩; refine ⟨_, rfl, ?_⟩; have n0_ := Aside0.mk (below_step (by repeat (first | (with_reducible first | exact HB.out | apply below_alloc | apply pw_below_drewN | apply below_drew1) | exact HB.out)) hb); clear HB; have HB := n0_; clear n0_; (try clear hb); (try clear hb2); (try clear hk); (try clear hi)) | (go_at_call 21; (with_reducible refine (path_Under.calls kj42 a1 a0 false _ A61.out).mono ?_); rintro e w68 ⟨rfl, hb⟩; have n0_ := Aside0.mk (below_step (by repeat (first | (with_reducible first | exact HB.out | apply below_alloc | apply pw_below_drewN | apply below_drew1) | exact HB.out)) hb); clear HB; have HB := n0_; clear n0_; (try clear hb); (try clear hb2); (try clear hk); (try clear hi)))
                            go_ret
                            exact ⟨by first | rfl | (simp [errW_none, errW_some] <;> rfl) | (simp [*, errW_none, errW_some] <;> rfl), by repeat (first | (with_reducible first | exact HB.out | apply below_alloc | apply pw_below_drewN | apply below_drew1) | exact HB.out)⟩
                        · replace c60 := Bool.eq_false_iff.mpr c60
                          subst c60
                          have H1 : ((remoralaw13_awake.f kj42).bind fun t123 => (some t123)) = some r := by rw [if_neg (show ¬ (false = true) by decide)] at H; exact H
                          clear H
                          have H := H1
                          clear H1
                          replace H := Option.bind_eq_some_iff.mp H
                          obtain ⟨t123, A690, H⟩ := H
                          replace H : (some t123) = some r := H
                          have A69 := Aside0.mk A690
                          clear A690
                          obtain rfl := Option.some.inj H
                          go_wp2_with (first | ((with_reducible refine gate_callee (f := 21) rfl ?_); refine goesL_ (some 72) rfl rfl Try.func21 (by kernel_rfl) rfl #[.string a2, .string a0] rfl (by (try simp only [List.map_toArray, List.map_cons, List.map_nil]); first | done | rfl | (simp only [List.length_drop, List.length_take]; rfl)) ?_; (with_reducible refine (path_Under.calls kj42 a2 a0 true _ A57.out).mono ?_); rintro e w70 ⟨rfl, hb⟩; refine ⟨_, rfl, ?_⟩; have n0_ := Aside0.mk (below_step (by repeat (first | (with_reducible first | exact HB.out | apply below_alloc | apply pw_below_drewN | apply below_drew1) | exact HB.out)) hb); clear HB; have HB := n0_; clear n0_; (try clear hb); (try clear hb2); (try clear hk); (try clear hi)) | (go_at_call 11; (with_reducible refine (remoralaw13_awake.calls kj42  t123 _ A69.out).mono ?_); rintro e w71 ⟨rfl, hb⟩; have n0_ := Aside0.mk (below_step (by repeat (first | (with_reducible first | exact HB.out | apply below_alloc | apply pw_below_drewN | apply below_drew1) | exact HB.out)) hb); clear HB; have HB := n0_; clear n0_; (try clear hb); (try clear hb2); (try clear hk); (try clear hi)))
                          go_ret
                          exact ⟨by first | rfl | (simp [errW_none, errW_some] <;> rfl) | (simp [*, errW_none, errW_some] <;> rfl), by repeat (first | (with_reducible first | exact HB.out | apply below_alloc | apply pw_below_drewN | apply below_drew1) | exact HB.out)⟩
                      · replace c59 := Bool.eq_false_iff.mpr c59
                        subst c59
                        have H1 : ((remoralaw13_awake.f kj42).bind fun t124 => (some t124)) = some r := by rw [if_neg (show ¬ (false = true) by decide)] at H; exact H
                        clear H
                        have H := H1
                        clear H1
                        replace H := Option.bind_eq_some_iff.mp H
                        obtain ⟨t124, A720, H⟩ := H
                        replace H : (some t124) = some r := H
                        have A72 := Aside0.mk A720
                        clear A720
                        obtain rfl := Option.some.inj H
                        go_wp2_with (first | ((with_reducible refine gate_callee (f := 21) rfl ?_); refine goesL_ (some 72) rfl rfl Try.func21 (by kernel_rfl) rfl #[.string a2, .string a0] rfl (by (try simp only [List.map_toArray, List.map_cons, List.map_nil]); first | done | rfl | (simp only [List.length_drop, List.length_take]; rfl)) ?_; (with_reducible refine (path_Under.calls kj42 a2 a0 true _ A57.out).mono ?_); rintro e w73 ⟨rfl, hb⟩; refine ⟨_, rfl, ?_⟩; have n0_ := Aside0.mk (below_step (by repeat (first | (with_reducible first | exact HB.out | apply below_alloc | apply pw_below_drewN | apply below_drew1) | exact HB.out)) hb); clear HB; have HB := n0_; clear n0_; (try clear hb); (try clear hb2); (try clear hk); (try clear hi)) | (go_at_call 11; (with_reducible refine (remoralaw13_awake.calls kj42  t124 _ A72.out).mono ?_); rintro e w74 ⟨rfl, hb⟩; have n0_ := Aside0.mk (below_step (by repeat (first | (with_reducible first | exact HB.out | apply below_alloc | apply pw_below_drewN | apply below_drew1) | exact HB.out)) hb); clear HB; have HB := n0_; clear n0_; (try clear hb); (try clear hb2); (try clear hk); (try clear hi)))
                        go_ret
                        exact ⟨by first | rfl | (simp [errW_none, errW_some] <;> rfl) | (simp [*, errW_none, errW_some] <;> rfl), by repeat (first | (with_reducible first | exact HB.out | apply below_alloc | apply pw_below_drewN | apply below_drew1) | exact HB.out)⟩
                    · replace c58 := Bool.eq_false_iff.mpr c58
                      subst c58
                      have H1 : ((remoralaw13_awake.f kj42).bind fun t125 => (some t125)) = some r := by rw [if_neg (show ¬ (false = true) by decide)] at H; exact H
                      clear H
                      have H := H1
                      clear H1
                      replace H := Option.bind_eq_some_iff.mp H
                      obtain ⟨t125, A750, H⟩ := H
                      replace H : (some t125) = some r := H
                      have A75 := Aside0.mk A750
                      clear A750
                      obtain rfl := Option.some.inj H
                      go_wp2_with (first | ((with_reducible refine gate_callee (f := 21) rfl ?_); refine goesL_ (some 72) rfl rfl Try.func21 (by kernel_rfl) rfl #[.string a2, .string a0] rfl (by (try simp only [List.map_toArray, List.map_cons, List.map_nil]); first | done | rfl | (simp only [List.length_drop, List.length_take]; rfl)) ?_; (with_reducible refine (path_Under.calls kj42 a2 a0 false _ A57.out).mono ?_); rintro e w76 ⟨rfl, hb⟩; refine ⟨_, rfl, ?_⟩; have n0_ := Aside0.mk (below_step (by repeat (first | (with_reducible first | exact HB.out | apply below_alloc | apply pw_below_drewN | apply below_drew1) | exact HB.out)) hb); clear HB; have HB := n0_; clear n0_; (try clear hb); (try clear hb2); (try clear hk); (try clear hi)) | (go_at_call 11; (with_reducible refine (remoralaw13_awake.calls kj42  t125 _ A75.out).mono ?_); rintro e w77 ⟨rfl, hb⟩; have n0_ := Aside0.mk (below_step (by repeat (first | (with_reducible first | exact HB.out | apply below_alloc | apply pw_below_drewN | apply below_drew1) | exact HB.out)) hb); clear HB; have HB := n0_; clear n0_; (try clear hb); (try clear hb2); (try clear hk); (try clear hi)))
                      go_ret
                      exact ⟨by first | rfl | (simp [errW_none, errW_some] <;> rfl) | (simp [*, errW_none, errW_some] <;> rfl), by repeat (first | (with_reducible first | exact HB.out | apply below_alloc | apply pw_below_drewN | apply below_drew1) | exact HB.out)⟩

/-- THE ONE PURE STATEMENT of remoralaw13_PathOrder: yours. -/
def remoralaw13_PathOrder.Pure : Prop := ∀ (a0 : ByteArray) (a1 : ByteArray) (a2 : ByteArray), a0.size ≤ 140737488351232 → a1.size ≤ 140737488351232 → a2.size ≤ 140737488351232 → ∃ k, remoralaw13_PathOrder.f k a0 a1 a2 = some true
theorem remoralaw13_PathOrder.walk (P : remoralaw13_PathOrder.Pure) (a0 : ByteArray) (a1 : ByteArray) (a2 : ByteArray) (w : World) (w0 : a0.size ≤ 140737488351232) (w1 : a1.size ≤ 140737488351232) (w2 : a2.size ≤ 140737488351232) :
    Calls Try.prog 5 #[.string a0, .string a1, .string a2] w fun e w' => e = .returned (.bool true) ∧ Below w.heap.size w w' := by
  obtain ⟨k, h⟩ := P a0 a1 a2 w0 w1 w2
  refine (remoralaw13_PathOrder.calls k a0 a1 a2 true w h).mono ?_
  rintro e w' ⟨rfl, hd⟩
  exact ⟨rfl, hd⟩

end Go.Proofs.Ytdomeeaaidjmpaa.PA
