-- Written by a program of this session (the kit's print with this repo's externals: px.py).
import Derived.Test.YtiigjnccoeadlaaPAx0
import Derived.Test.YtiigjnccoeadlaaXglobCheck
import Derived.Test.YtiigjnccoeadlaaXglobEscape
import Derived.Test.YtiigjnccoeadlaaXglobMatch
namespace Go.Proofs.Ytiigjnccoeadlaa.PA
open Go.RowKit Go.Proofs.YtiigjnccoeadlaaW.PrintWords Go.Proofs.YtiigjnccoeadlaaW.PrintLast Go.Proofs.YtiigjnccoeadlaaW.PrintMore
attribute [local go_sem] max2_int min2_int max_two min_two max_three min_three max_four min_four   -- for this text's walks alone
set_option linter.unusedVariables false
set_option linter.unusedSimpArgs false

/-! ### remoralaw14_awake: function 10 -/
def remoralaw14_awake.f  : Option (Bool) := (glob_Match.f (⟨#[97, 42, 99]⟩ : ByteArray) (⟨#[97, 98, 98, 99]⟩ : ByteArray)).bind fun t101 => (if t101 = true then ((glob_Match.f (⟨#[97, 42, 99]⟩ : ByteArray) (⟨#[97, 47, 99]⟩ : ByteArray)).bind fun t102 => (if t102 = true then (some false) else ((glob_Match.f (⟨#[97, 42, 42, 99]⟩ : ByteArray) (⟨#[97, 47, 99]⟩ : ByteArray)).bind fun t103 => (if t103 = true then ((glob_Match.f (⟨#[91, 33, 97, 45, 99, 93, 120]⟩ : ByteArray) (⟨#[100, 120]⟩ : ByteArray)).bind fun t104 => (if t104 = true then ((glob_Match.f (⟨#[91, 33, 97, 45, 99, 93, 120]⟩ : ByteArray) (⟨#[47, 120]⟩ : ByteArray)).bind fun t105 => (if t105 = true then (some false) else ((glob_Check.f (⟨#[91, 98, 45, 97, 93]⟩ : ByteArray)).bind fun t106 => (if t106 = 5 then ((glob_Escape.f (⟨#[97, 42]⟩ : ByteArray)).bind fun t107 => (some (t107.toList == ([97, 92, 42] : List UInt8)))) else (some false))))) else (some false))) else (some false))))) else (some false))
set_option maxHeartbeats 8000000 in
set_option maxRecDepth 100000 in
theorem remoralaw14_awake.calls  (r : Bool) (w : World) (h : remoralaw14_awake.f  = some r) :
    Calls Try.prog 10 #[] w fun e w' => e = .returned (.bool r) ∧ Below w.heap.size w w' := by
  have HB := Aside0.mk (Below.refl w.heap.size w)
  have H : ((glob_Match.f (⟨#[97, 42, 99]⟩ : ByteArray) (⟨#[97, 98, 98, 99]⟩ : ByteArray)).bind fun t101 => (if t101 = true then ((glob_Match.f (⟨#[97, 42, 99]⟩ : ByteArray) (⟨#[97, 47, 99]⟩ : ByteArray)).bind fun t102 => (if t102 = true then (some false) else ((glob_Match.f (⟨#[97, 42, 42, 99]⟩ : ByteArray) (⟨#[97, 47, 99]⟩ : ByteArray)).bind fun t103 => (if t103 = true then ((glob_Match.f (⟨#[91, 33, 97, 45, 99, 93, 120]⟩ : ByteArray) (⟨#[100, 120]⟩ : ByteArray)).bind fun t104 => (if t104 = true then ((glob_Match.f (⟨#[91, 33, 97, 45, 99, 93, 120]⟩ : ByteArray) (⟨#[47, 120]⟩ : ByteArray)).bind fun t105 => (if t105 = true then (some false) else ((glob_Check.f (⟨#[91, 98, 45, 97, 93]⟩ : ByteArray)).bind fun t106 => (if t106 = 5 then ((glob_Escape.f (⟨#[97, 42]⟩ : ByteArray)).bind fun t107 => (some (t107.toList == ([97, 92, 42] : List UInt8)))) else (some false))))) else (some false))) else (some false))))) else (some false))) = some r := h
  clear h
  replace H := Option.bind_eq_some_iff.mp H
  obtain ⟨t101, A10, H⟩ := H
  replace H : (if t101 = true then ((glob_Match.f (⟨#[97, 42, 99]⟩ : ByteArray) (⟨#[97, 47, 99]⟩ : ByteArray)).bind fun t102 => (if t102 = true then (some false) else ((glob_Match.f (⟨#[97, 42, 42, 99]⟩ : ByteArray) (⟨#[97, 47, 99]⟩ : ByteArray)).bind fun t103 => (if t103 = true then ((glob_Match.f (⟨#[91, 33, 97, 45, 99, 93, 120]⟩ : ByteArray) (⟨#[100, 120]⟩ : ByteArray)).bind fun t104 => (if t104 = true then ((glob_Match.f (⟨#[91, 33, 97, 45, 99, 93, 120]⟩ : ByteArray) (⟨#[47, 120]⟩ : ByteArray)).bind fun t105 => (if t105 = true then (some false) else ((glob_Check.f (⟨#[91, 98, 45, 97, 93]⟩ : ByteArray)).bind fun t106 => (if t106 = 5 then ((glob_Escape.f (⟨#[97, 42]⟩ : ByteArray)).bind fun t107 => (some (t107.toList == ([97, 92, 42] : List UInt8)))) else (some false))))) else (some false))) else (some false))))) else (some false)) = some r := H
  have A1 := Aside0.mk A10
  clear A10
  by_cases c2 : t101 = true
  · subst c2
    have H1 : ((glob_Match.f (⟨#[97, 42, 99]⟩ : ByteArray) (⟨#[97, 47, 99]⟩ : ByteArray)).bind fun t102 => (if t102 = true then (some false) else ((glob_Match.f (⟨#[97, 42, 42, 99]⟩ : ByteArray) (⟨#[97, 47, 99]⟩ : ByteArray)).bind fun t103 => (if t103 = true then ((glob_Match.f (⟨#[91, 33, 97, 45, 99, 93, 120]⟩ : ByteArray) (⟨#[100, 120]⟩ : ByteArray)).bind fun t104 => (if t104 = true then ((glob_Match.f (⟨#[91, 33, 97, 45, 99, 93, 120]⟩ : ByteArray) (⟨#[47, 120]⟩ : ByteArray)).bind fun t105 => (if t105 = true then (some false) else ((glob_Check.f (⟨#[91, 98, 45, 97, 93]⟩ : ByteArray)).bind fun t106 => (if t106 = 5 then ((glob_Escape.f (⟨#[97, 42]⟩ : ByteArray)).bind fun t107 => (some (t107.toList == ([97, 92, 42] : List UInt8)))) else (some false))))) else (some false))) else (some false))))) = some r := by rw [if_pos rfl] at H; exact H
    clear H
    have H := H1
    clear H1
    replace H := Option.bind_eq_some_iff.mp H
    obtain ⟨t102, A30, H⟩ := H
    replace H : (if t102 = true then (some false) else ((glob_Match.f (⟨#[97, 42, 42, 99]⟩ : ByteArray) (⟨#[97, 47, 99]⟩ : ByteArray)).bind fun t103 => (if t103 = true then ((glob_Match.f (⟨#[91, 33, 97, 45, 99, 93, 120]⟩ : ByteArray) (⟨#[100, 120]⟩ : ByteArray)).bind fun t104 => (if t104 = true then ((glob_Match.f (⟨#[91, 33, 97, 45, 99, 93, 120]⟩ : ByteArray) (⟨#[47, 120]⟩ : ByteArray)).bind fun t105 => (if t105 = true then (some false) else ((glob_Check.f (⟨#[91, 98, 45, 97, 93]⟩ : ByteArray)).bind fun t106 => (if t106 = 5 then ((glob_Escape.f (⟨#[97, 42]⟩ : ByteArray)).bind fun t107 => (some (t107.toList == ([97, 92, 42] : List UInt8)))) else (some false))))) else (some false))) else (some false)))) = some r := H
    have A3 := Aside0.mk A30
    clear A30
    by_cases c4 : t102 = true
    · subst c4
      have H1 : (some false) = some r := by rw [if_pos rfl] at H; exact H
      clear H
      have H := H1
      clear H1
      obtain rfl := Option.some.inj H
      go_enter Try.func10, Try.ntmps10
      go_wp2_with (first | ((with_reducible refine gate_callee (f := 13) rfl ?_); refine goesL_ (some 1) rfl rfl Try.func13 (by kernel_rfl) rfl #[.string (⟨#[97, 42, 99]⟩ : ByteArray), .string (⟨#[97, 98, 98, 99]⟩ : ByteArray)] rfl (by (try simp only [List.map_toArray, List.map_cons, List.map_nil]); first | done | rfl | (simp only [List.length_drop, List.length_take]; rfl)) ?_; (with_reducible refine (glob_Match.calls (⟨#[97, 42, 99]⟩ : ByteArray) (⟨#[97, 98, 98, 99]⟩ : ByteArray) true _ A1.out).mono ?_); rintro e w5 ⟨rfl, hb⟩; refine ⟨_, rfl, ?_⟩; have n0_ := Aside0.mk (below_step (by repeat (first | (with_reducible first | exact HB.out | apply below_alloc | apply pw_below_drewN | apply below_drew1) | exact HB.out)) hb); clear HB; have HB := n0_; clear n0_; (try clear hb); (try clear hb2); (try clear hk); (try clear hi)) | (go_at_call 13; (with_reducible refine (glob_Match.calls (⟨#[97, 42, 99]⟩ : ByteArray) (⟨#[97, 47, 99]⟩ : ByteArray) true _ A3.out).mono ?_); rintro e w6 ⟨rfl, hb⟩; have n0_ := Aside0.mk (below_step (by repeat (first | (with_reducible first | exact HB.out | apply below_alloc | apply pw_below_drewN | apply below_drew1) | exact HB.out)) hb); clear HB; have HB := n0_; clear n0_; (try clear hb); (try clear hb2); (try clear hk); (try clear hi)))
      go_ret
      exact ⟨by first | rfl | (simp [errW_none, errW_some] <;> rfl) | (simp [*, errW_none, errW_some] <;> rfl), by repeat (first | (with_reducible first | exact HB.out | apply below_alloc | apply pw_below_drewN | apply below_drew1) | exact HB.out)⟩
    · replace c4 := Bool.eq_false_iff.mpr c4
      subst c4
      have H1 : ((glob_Match.f (⟨#[97, 42, 42, 99]⟩ : ByteArray) (⟨#[97, 47, 99]⟩ : ByteArray)).bind fun t103 => (if t103 = true then ((glob_Match.f (⟨#[91, 33, 97, 45, 99, 93, 120]⟩ : ByteArray) (⟨#[100, 120]⟩ : ByteArray)).bind fun t104 => (if t104 = true then ((glob_Match.f (⟨#[91, 33, 97, 45, 99, 93, 120]⟩ : ByteArray) (⟨#[47, 120]⟩ : ByteArray)).bind fun t105 => (if t105 = true then (some false) else ((glob_Check.f (⟨#[91, 98, 45, 97, 93]⟩ : ByteArray)).bind fun t106 => (if t106 = 5 then ((glob_Escape.f (⟨#[97, 42]⟩ : ByteArray)).bind fun t107 => (some (t107.toList == ([97, 92, 42] : List UInt8)))) else (some false))))) else (some false))) else (some false))) = some r := by rw [if_neg (show ¬ (false = true) by decide)] at H; exact H
      clear H
      have H := H1
      clear H1
      replace H := Option.bind_eq_some_iff.mp H
      obtain ⟨t103, A70, H⟩ := H
      replace H : (if t103 = true then ((glob_Match.f (⟨#[91, 33, 97, 45, 99, 93, 120]⟩ : ByteArray) (⟨#[100, 120]⟩ : ByteArray)).bind fun t104 => (if t104 = true then ((glob_Match.f (⟨#[91, 33, 97, 45, 99, 93, 120]⟩ : ByteArray) (⟨#[47, 120]⟩ : ByteArray)).bind fun t105 => (if t105 = true then (some false) else ((glob_Check.f (⟨#[91, 98, 45, 97, 93]⟩ : ByteArray)).bind fun t106 => (if t106 = 5 then ((glob_Escape.f (⟨#[97, 42]⟩ : ByteArray)).bind fun t107 => (some (t107.toList == ([97, 92, 42] : List UInt8)))) else (some false))))) else (some false))) else (some false)) = some r := H
      have A7 := Aside0.mk A70
      clear A70
      by_cases c8 : t103 = true
      · subst c8
        have H1 : ((glob_Match.f (⟨#[91, 33, 97, 45, 99, 93, 120]⟩ : ByteArray) (⟨#[100, 120]⟩ : ByteArray)).bind fun t104 => (if t104 = true then ((glob_Match.f (⟨#[91, 33, 97, 45, 99, 93, 120]⟩ : ByteArray) (⟨#[47, 120]⟩ : ByteArray)).bind fun t105 => (if t105 = true then (some false) else ((glob_Check.f (⟨#[91, 98, 45, 97, 93]⟩ : ByteArray)).bind fun t106 => (if t106 = 5 then ((glob_Escape.f (⟨#[97, 42]⟩ : ByteArray)).bind fun t107 => (some (t107.toList == ([97, 92, 42] : List UInt8)))) else (some false))))) else (some false))) = some r := by rw [if_pos rfl] at H; exact H
        clear H
        have H := H1
        clear H1
        replace H := Option.bind_eq_some_iff.mp H
        obtain ⟨t104, A90, H⟩ := H
        replace H : (if t104 = true then ((glob_Match.f (⟨#[91, 33, 97, 45, 99, 93, 120]⟩ : ByteArray) (⟨#[47, 120]⟩ : ByteArray)).bind fun t105 => (if t105 = true then (some false) else ((glob_Check.f (⟨#[91, 98, 45, 97, 93]⟩ : ByteArray)).bind fun t106 => (if t106 = 5 then ((glob_Escape.f (⟨#[97, 42]⟩ : ByteArray)).bind fun t107 => (some (t107.toList == ([97, 92, 42] : List UInt8)))) else (some false))))) else (some false)) = some r := H
        have A9 := Aside0.mk A90
        clear A90
        by_cases c10 : t104 = true
        · subst c10
          have H1 : ((glob_Match.f (⟨#[91, 33, 97, 45, 99, 93, 120]⟩ : ByteArray) (⟨#[47, 120]⟩ : ByteArray)).bind fun t105 => (if t105 = true then (some false) else ((glob_Check.f (⟨#[91, 98, 45, 97, 93]⟩ : ByteArray)).bind fun t106 => (if t106 = 5 then ((glob_Escape.f (⟨#[97, 42]⟩ : ByteArray)).bind fun t107 => (some (t107.toList == ([97, 92, 42] : List UInt8)))) else (some false))))) = some r := by rw [if_pos rfl] at H; exact H
          clear H
          have H := H1
          clear H1
          replace H := Option.bind_eq_some_iff.mp H
          obtain ⟨t105, A110, H⟩ := H
          replace H : (if t105 = true then (some false) else ((glob_Check.f (⟨#[91, 98, 45, 97, 93]⟩ : ByteArray)).bind fun t106 => (if t106 = 5 then ((glob_Escape.f (⟨#[97, 42]⟩ : ByteArray)).bind fun t107 => (some (t107.toList == ([97, 92, 42] : List UInt8)))) else (some false)))) = some r := H
          have A11 := Aside0.mk A110
          clear A110
          by_cases c12 : t105 = true
          · subst c12
            have H1 : (some false) = some r := by rw [if_pos rfl] at H; exact H
            clear H
            have H := H1
            clear H1
            obtain rfl := Option.some.inj H
            go_enter Try.func10, Try.ntmps10
            go_wp2_with (first | ((with_reducible refine gate_callee (f := 13) rfl ?_); refine goesL_ (some 1) rfl rfl Try.func13 (by kernel_rfl) rfl #[.string (⟨#[97, 42, 99]⟩ : ByteArray), .string (⟨#[97, 98, 98, 99]⟩ : ByteArray)] rfl (by (try simp only [List.map_toArray, List.map_cons, List.map_nil]); first | done | rfl | (simp only [List.length_drop, List.length_take]; rfl)) ?_; (with_reducible refine (glob_Match.calls (⟨#[97, 42, 99]⟩ : ByteArray) (⟨#[97, 98, 98, 99]⟩ : ByteArray) true _ A1.out).mono ?_); rintro e w13 ⟨rfl, hb⟩; refine ⟨_, rfl, ?_⟩; have n0_ := Aside0.mk (below_step (by repeat (first | (with_reducible first | exact HB.out | apply below_alloc | apply pw_below_drewN | apply below_drew1) | exact HB.out)) hb); clear HB; have HB := n0_; clear n0_; (try clear hb); (try clear hb2); (try clear hk); (try clear hi)) | (go_at_call 13; (with_reducible refine (glob_Match.calls (⟨#[97, 42, 99]⟩ : ByteArray) (⟨#[97, 47, 99]⟩ : ByteArray) false _ A3.out).mono ?_); rintro e w14 ⟨rfl, hb⟩; have n0_ := Aside0.mk (below_step (by repeat (first | (with_reducible first | exact HB.out | apply below_alloc | apply pw_below_drewN | apply below_drew1) | exact HB.out)) hb); clear HB; have HB := n0_; clear n0_; (try clear hb); (try clear hb2); (try clear hk); (try clear hi)) | (go_at_call 13; (with_reducible refine (glob_Match.calls (⟨#[97, 42, 42, 99]⟩ : ByteArray) (⟨#[97, 47, 99]⟩ : ByteArray) true _ A7.out).mono ?_); rintro e w15 ⟨rfl, hb⟩; have n0_ := Aside0.mk (below_step (by repeat (first | (with_reducible first | exact HB.out | apply below_alloc | apply pw_below_drewN | apply below_drew1) | exact HB.out)) hb); clear HB; have HB := n0_; clear n0_; (try clear hb); (try clear hb2); (try clear hk); (try clear hi)) | (go_at_call 13; (with_reducible refine (glob_Match.calls (⟨#[91, 33, 97, 45, 99, 93, 120]⟩ : ByteArray) (⟨#[100, 120]⟩ : ByteArray) true _ A9.out).mono ?_); rintro e w16 ⟨rfl, hb⟩; have n0_ := Aside0.mk (below_step (by repeat (first | (with_reducible first | exact HB.out | apply below_alloc | apply pw_below_drewN | apply below_drew1) | exact HB.out)) hb); clear HB; have HB := n0_; clear n0_; (try clear hb); (try clear hb2); (try clear hk); (try clear hi)) | (go_at_call 13; (with_reducible refine (glob_Match.calls (⟨#[91, 33, 97, 45, 99, 93, 120]⟩ : ByteArray) (⟨#[47, 120]⟩ : ByteArray) true _ A11.out).mono ?_); rintro e w17 ⟨rfl, hb⟩; have n0_ := Aside0.mk (below_step (by repeat (first | (with_reducible first | exact HB.out | apply below_alloc | apply pw_below_drewN | apply below_drew1) | exact HB.out)) hb); clear HB; have HB := n0_; clear n0_; (try clear hb); (try clear hb2); (try clear hk); (try clear hi)))
            go_ret
            exact ⟨by first | rfl | (simp [errW_none, errW_some] <;> rfl) | (simp [*, errW_none, errW_some] <;> rfl), by repeat (first | (with_reducible first | exact HB.out | apply below_alloc | apply pw_below_drewN | apply below_drew1) | exact HB.out)⟩
          · replace c12 := Bool.eq_false_iff.mpr c12
            subst c12
            have H1 : ((glob_Check.f (⟨#[91, 98, 45, 97, 93]⟩ : ByteArray)).bind fun t106 => (if t106 = 5 then ((glob_Escape.f (⟨#[97, 42]⟩ : ByteArray)).bind fun t107 => (some (t107.toList == ([97, 92, 42] : List UInt8)))) else (some false))) = some r := by rw [if_neg (show ¬ (false = true) by decide)] at H; exact H
            clear H
            have H := H1
            clear H1
            replace H := Option.bind_eq_some_iff.mp H
            obtain ⟨t106, A180, H⟩ := H
            replace H : (if t106 = 5 then ((glob_Escape.f (⟨#[97, 42]⟩ : ByteArray)).bind fun t107 => (some (t107.toList == ([97, 92, 42] : List UInt8)))) else (some false)) = some r := H
            have A18 := Aside0.mk A180
            clear A180
            by_cases c19 : t106 = 5
            · rw [if_pos c19] at H
              have c19b0 : (t106 == 5) = true := beq_iff_eq.mpr c19
              have c19b1 : (t106 != 5) = false := bne_eq_false_iff_eq.mpr c19
              clear c19
              replace H := Option.bind_eq_some_iff.mp H
              obtain ⟨t107, A200, H⟩ := H
              replace H : (some (t107.toList == ([97, 92, 42] : List UInt8))) = some r := H
              have A20 := Aside0.mk A200
              clear A200
              obtain rfl := Option.some.inj H
              go_enter Try.func10, Try.ntmps10
              go_wp2_with (first | ((with_reducible refine gate_callee (f := 13) rfl ?_); refine goesL_ (some 1) rfl rfl Try.func13 (by kernel_rfl) rfl #[.string (⟨#[97, 42, 99]⟩ : ByteArray), .string (⟨#[97, 98, 98, 99]⟩ : ByteArray)] rfl (by (try simp only [List.map_toArray, List.map_cons, List.map_nil]); first | done | rfl | (simp only [List.length_drop, List.length_take]; rfl)) ?_; (with_reducible refine (glob_Match.calls (⟨#[97, 42, 99]⟩ : ByteArray) (⟨#[97, 98, 98, 99]⟩ : ByteArray) true _ A1.out).mono ?_); rintro e w21 ⟨rfl, hb⟩; refine ⟨_, rfl, ?_⟩; have n0_ := Aside0.mk (below_step (by repeat (first | (with_reducible first | exact HB.out | apply below_alloc | apply pw_below_drewN | apply below_drew1) | exact HB.out)) hb); clear HB; have HB := n0_; clear n0_; (try clear hb); (try clear hb2); (try clear hk); (try clear hi)) | (go_at_call 13; (with_reducible refine (glob_Match.calls (⟨#[97, 42, 99]⟩ : ByteArray) (⟨#[97, 47, 99]⟩ : ByteArray) false _ A3.out).mono ?_); rintro e w22 ⟨rfl, hb⟩; have n0_ := Aside0.mk (below_step (by repeat (first | (with_reducible first | exact HB.out | apply below_alloc | apply pw_below_drewN | apply below_drew1) | exact HB.out)) hb); clear HB; have HB := n0_; clear n0_; (try clear hb); (try clear hb2); (try clear hk); (try clear hi)) | (go_at_call 13; (with_reducible refine (glob_Match.calls (⟨#[97, 42, 42, 99]⟩ : ByteArray) (⟨#[97, 47, 99]⟩ : ByteArray) true _ A7.out).mono ?_); rintro e w23 ⟨rfl, hb⟩; have n0_ := Aside0.mk (below_step (by repeat (first | (with_reducible first | exact HB.out | apply below_alloc | apply pw_below_drewN | apply below_drew1) | exact HB.out)) hb); clear HB; have HB := n0_; clear n0_; (try clear hb); (try clear hb2); (try clear hk); (try clear hi)) | (go_at_call 13; (with_reducible refine (glob_Match.calls (⟨#[91, 33, 97, 45, 99, 93, 120]⟩ : ByteArray) (⟨#[100, 120]⟩ : ByteArray) true _ A9.out).mono ?_); rintro e w24 ⟨rfl, hb⟩; have n0_ := Aside0.mk (below_step (by repeat (first | (with_reducible first | exact HB.out | apply below_alloc | apply pw_below_drewN | apply below_drew1) | exact HB.out)) hb); clear HB; have HB := n0_; clear n0_; (try clear hb); (try clear hb2); (try clear hk); (try clear hi)) | (go_at_call 13; (with_reducible refine (glob_Match.calls (⟨#[91, 33, 97, 45, 99, 93, 120]⟩ : ByteArray) (⟨#[47, 120]⟩ : ByteArray) false _ A11.out).mono ?_); rintro e w25 ⟨rfl, hb⟩; have n0_ := Aside0.mk (below_step (by repeat (first | (with_reducible first | exact HB.out | apply below_alloc | apply pw_below_drewN | apply below_drew1) | exact HB.out)) hb); clear HB; have HB := n0_; clear n0_; (try clear hb); (try clear hb2); (try clear hk); (try clear hi)) | (go_at_call 11; (with_reducible refine (glob_Check.calls (⟨#[91, 98, 45, 97, 93]⟩ : ByteArray) t106 _ A18.out).mono ?_); rintro e w26 ⟨rfl, hb⟩; have n0_ := Aside0.mk (below_step (by repeat (first | (with_reducible first | exact HB.out | apply below_alloc | apply pw_below_drewN | apply below_drew1) | exact HB.out)) hb); clear HB; have HB := n0_; clear n0_; (try clear hb); (try clear hb2); (try clear hk); (try clear hi)) | (go_at_call 16; (with_reducible refine (glob_Escape.calls (⟨#[97, 42]⟩ : ByteArray) t107 _ A20.out).mono ?_); rintro e w27 ⟨rfl, hb⟩; have n0_ := Aside0.mk (below_step (by repeat (first | (with_reducible first | exact HB.out | apply below_alloc | apply pw_below_drewN | apply below_drew1) | exact HB.out)) hb); clear HB; have HB := n0_; clear n0_; (try clear hb); (try clear hb2); (try clear hk); (try clear hi)))
              go_ret
              exact ⟨by first | rfl | (simp [errW_none, errW_some] <;> rfl) | (simp [*, errW_none, errW_some] <;> rfl), by repeat (first | (with_reducible first | exact HB.out | apply below_alloc | apply pw_below_drewN | apply below_drew1) | exact HB.out)⟩
            · rw [if_neg c19] at H
              have c19b0 : (t106 == 5) = false := beq_eq_false_iff_ne.mpr c19
              have c19b1 : (t106 != 5) = true := bne_iff_ne.mpr c19
              obtain rfl := Option.some.inj H
              go_enter Try.func10, Try.ntmps10
              go_wp2_with (first | ((with_reducible refine gate_callee (f := 13) rfl ?_); refine goesL_ (some 1) rfl rfl Try.func13 (by kernel_rfl) rfl #[.string (⟨#[97, 42, 99]⟩ : ByteArray), .string (⟨#[97, 98, 98, 99]⟩ : ByteArray)] rfl (by (try simp only [List.map_toArray, List.map_cons, List.map_nil]); first | done | rfl | (simp only [List.length_drop, List.length_take]; rfl)) ?_; (with_reducible refine (glob_Match.calls (⟨#[97, 42, 99]⟩ : ByteArray) (⟨#[97, 98, 98, 99]⟩ : ByteArray) true _ A1.out).mono ?_); rintro e w28 ⟨rfl, hb⟩; refine ⟨_, rfl, ?_⟩; have n0_ := Aside0.mk (below_step (by repeat (first | (with_reducible first | exact HB.out | apply below_alloc | apply pw_below_drewN | apply below_drew1) | exact HB.out)) hb); clear HB; have HB := n0_; clear n0_; (try clear hb); (try clear hb2); (try clear hk); (try clear hi)) | (go_at_call 13; (with_reducible refine (glob_Match.calls (⟨#[97, 42, 99]⟩ : ByteArray) (⟨#[97, 47, 99]⟩ : ByteArray) false _ A3.out).mono ?_); rintro e w29 ⟨rfl, hb⟩; have n0_ := Aside0.mk (below_step (by repeat (first | (with_reducible first | exact HB.out | apply below_alloc | apply pw_below_drewN | apply below_drew1) | exact HB.out)) hb); clear HB; have HB := n0_; clear n0_; (try clear hb); (try clear hb2); (try clear hk); (try clear hi)) | (go_at_call 13; (with_reducible refine (glob_Match.calls (⟨#[97, 42, 42, 99]⟩ : ByteArray) (⟨#[97, 47, 99]⟩ : ByteArray) true _ A7.out).mono ?_); rintro e w30 ⟨rfl, hb⟩; have n0_ := Aside0.mk (below_step (by repeat (first | (with_reducible first | exact HB.out | apply below_alloc | apply pw_below_drewN | apply below_drew1) | exact HB.out)) hb); clear HB; have HB := n0_; clear n0_; (try clear hb); (try clear hb2); (try clear hk); (try clear hi)) | (go_at_call 13; (with_reducible refine (glob_Match.calls (⟨#[91, 33, 97, 45, 99, 93, 120]⟩ : ByteArray) (⟨#[100, 120]⟩ : ByteArray) true _ A9.out).mono ?_); rintro e w31 ⟨rfl, hb⟩; have n0_ := Aside0.mk (below_step (by repeat (first | (with_reducible first | exact HB.out | apply below_alloc | apply pw_below_drewN | apply below_drew1) | exact HB.out)) hb); clear HB; have HB := n0_; clear n0_; (try clear hb); (try clear hb2); (try clear hk); (try clear hi)) | (go_at_call 13; (with_reducible refine (glob_Match.calls (⟨#[91, 33, 97, 45, 99, 93, 120]⟩ : ByteArray) (⟨#[47, 120]⟩ : ByteArray) false _ A11.out).mono ?_); rintro e w32 ⟨rfl, hb⟩; have n0_ := Aside0.mk (below_step (by repeat (first | (with_reducible first | exact HB.out | apply below_alloc | apply pw_below_drewN | apply below_drew1) | exact HB.out)) hb); clear HB; have HB := n0_; clear n0_; (try clear hb); (try clear hb2); (try clear hk); (try clear hi)) | (go_at_call 11; (with_reducible refine (glob_Check.calls (⟨#[91, 98, 45, 97, 93]⟩ : ByteArray) t106 _ A18.out).mono ?_); rintro e w33 ⟨rfl, hb⟩; have n0_ := Aside0.mk (below_step (by repeat (first | (with_reducible first | exact HB.out | apply below_alloc | apply pw_below_drewN | apply below_drew1) | exact HB.out)) hb); clear HB; have HB := n0_; clear n0_; (try clear hb); (try clear hb2); (try clear hk); (try clear hi)))
              go_ret
              exact ⟨by first | rfl | (simp [errW_none, errW_some] <;> rfl) | (simp [*, errW_none, errW_some] <;> rfl), by repeat (first | (with_reducible first | exact HB.out | apply below_alloc | apply pw_below_drewN | apply below_drew1) | exact HB.out)⟩
        · replace c10 := Bool.eq_false_iff.mpr c10
          subst c10
          have H1 : (some false) = some r := by rw [if_neg (show ¬ (false = true) by decide)] at H; exact H
          clear H
          have H := H1
          clear H1
          obtain rfl := Option.some.inj H
          go_enter Try.func10, Try.ntmps10
          go_wp2_with (first | ((with_reducible refine gate_callee (f := 13) rfl ?_); refine goesL_ (some 1) rfl rfl Try.func13 (by kernel_rfl) rfl #[.string (⟨#[97, 42, 99]⟩ : ByteArray), .string (⟨#[97, 98, 98, 99]⟩ : ByteArray)] rfl (by (try simp only [List.map_toArray, List.map_cons, List.map_nil]); first | done | rfl | (simp only [List.length_drop, List.length_take]; rfl)) ?_; (with_reducible refine (glob_Match.calls (⟨#[97, 42, 99]⟩ : ByteArray) (⟨#[97, 98, 98, 99]⟩ : ByteArray) true _ A1.out).mono ?_); rintro e w34 ⟨rfl, hb⟩; refine ⟨_, rfl, ?_⟩; have n0_ := Aside0.mk (below_step (by repeat (first | (with_reducible first | exact HB.out | apply below_alloc | apply pw_below_drewN | apply below_drew1) | exact HB.out)) hb); clear HB; have HB := n0_; clear n0_; (try clear hb); (try clear hb2); (try clear hk); (try clear hi)) | (go_at_call 13; (with_reducible refine (glob_Match.calls (⟨#[97, 42, 99]⟩ : ByteArray) (⟨#[97, 47, 99]⟩ : ByteArray) false _ A3.out).mono ?_); rintro e w35 ⟨rfl, hb⟩; have n0_ := Aside0.mk (below_step (by repeat (first | (with_reducible first | exact HB.out | apply below_alloc | apply pw_below_drewN | apply below_drew1) | exact HB.out)) hb); clear HB; have HB := n0_; clear n0_; (try clear hb); (try clear hb2); (try clear hk); (try clear hi)) | (go_at_call 13; (with_reducible refine (glob_Match.calls (⟨#[97, 42, 42, 99]⟩ : ByteArray) (⟨#[97, 47, 99]⟩ : ByteArray) true _ A7.out).mono ?_); rintro e w36 ⟨rfl, hb⟩; have n0_ := Aside0.mk (below_step (by repeat (first | (with_reducible first | exact HB.out | apply below_alloc | apply pw_below_drewN | apply below_drew1) | exact HB.out)) hb); clear HB; have HB := n0_; clear n0_; (try clear hb); (try clear hb2); (try clear hk); (try clear hi)) | (go_at_call 13; (with_reducible refine (glob_Match.calls (⟨#[91, 33, 97, 45, 99, 93, 120]⟩ : ByteArray) (⟨#[100, 120]⟩ : ByteArray) false _ A9.out).mono ?_); rintro e w37 ⟨rfl, hb⟩; have n0_ := Aside0.mk (below_step (by repeat (first | (with_reducible first | exact HB.out | apply below_alloc | apply pw_below_drewN | apply below_drew1) | exact HB.out)) hb); clear HB; have HB := n0_; clear n0_; (try clear hb); (try clear hb2); (try clear hk); (try clear hi)))
          go_ret
          exact ⟨by first | rfl | (simp [errW_none, errW_some] <;> rfl) | (simp [*, errW_none, errW_some] <;> rfl), by repeat (first | (with_reducible first | exact HB.out | apply below_alloc | apply pw_below_drewN | apply below_drew1) | exact HB.out)⟩
      · replace c8 := Bool.eq_false_iff.mpr c8
        subst c8
        have H1 : (some false) = some r := by rw [if_neg (show ¬ (false = true) by decide)] at H; exact H
        clear H
        have H := H1
        clear H1
        obtain rfl := Option.some.inj H
        go_enter Try.func10, Try.ntmps10
        go_wp2_with (first | ((with_reducible refine gate_callee (f := 13) rfl ?_); refine goesL_ (some 1) rfl rfl Try.func13 (by kernel_rfl) rfl #[.string (⟨#[97, 42, 99]⟩ : ByteArray), .string (⟨#[97, 98, 98, 99]⟩ : ByteArray)] rfl (by (try simp only [List.map_toArray, List.map_cons, List.map_nil]); first | done | rfl | (simp only [List.length_drop, List.length_take]; rfl)) ?_; (with_reducible refine (glob_Match.calls (⟨#[97, 42, 99]⟩ : ByteArray) (⟨#[97, 98, 98, 99]⟩ : ByteArray) true _ A1.out).mono ?_); rintro e w38 ⟨rfl, hb⟩; refine ⟨_, rfl, ?_⟩; have n0_ := Aside0.mk (below_step (by repeat (first | (with_reducible first | exact HB.out | apply below_alloc | apply pw_below_drewN | apply below_drew1) | exact HB.out)) hb); clear HB; have HB := n0_; clear n0_; (try clear hb); (try clear hb2); (try clear hk); (try clear hi)) | (go_at_call 13; (with_reducible refine (glob_Match.calls (⟨#[97, 42, 99]⟩ : ByteArray) (⟨#[97, 47, 99]⟩ : ByteArray) false _ A3.out).mono ?_); rintro e w39 ⟨rfl, hb⟩; have n0_ := Aside0.mk (below_step (by repeat (first | (with_reducible first | exact HB.out | apply below_alloc | apply pw_below_drewN | apply below_drew1) | exact HB.out)) hb); clear HB; have HB := n0_; clear n0_; (try clear hb); (try clear hb2); (try clear hk); (try clear hi)) | (go_at_call 13; (with_reducible refine (glob_Match.calls (⟨#[97, 42, 42, 99]⟩ : ByteArray) (⟨#[97, 47, 99]⟩ : ByteArray) false _ A7.out).mono ?_); rintro e w40 ⟨rfl, hb⟩; have n0_ := Aside0.mk (below_step (by repeat (first | (with_reducible first | exact HB.out | apply below_alloc | apply pw_below_drewN | apply below_drew1) | exact HB.out)) hb); clear HB; have HB := n0_; clear n0_; (try clear hb); (try clear hb2); (try clear hk); (try clear hi)))
        go_ret
        exact ⟨by first | rfl | (simp [errW_none, errW_some] <;> rfl) | (simp [*, errW_none, errW_some] <;> rfl), by repeat (first | (with_reducible first | exact HB.out | apply below_alloc | apply pw_below_drewN | apply below_drew1) | exact HB.out)⟩
  · replace c2 := Bool.eq_false_iff.mpr c2
    subst c2
    have H1 : (some false) = some r := by rw [if_neg (show ¬ (false = true) by decide)] at H; exact H
    clear H
    have H := H1
    clear H1
    obtain rfl := Option.some.inj H
    go_enter Try.func10, Try.ntmps10
    go_wp2_with (first | ((with_reducible refine gate_callee (f := 13) rfl ?_); refine goesL_ (some 1) rfl rfl Try.func13 (by kernel_rfl) rfl #[.string (⟨#[97, 42, 99]⟩ : ByteArray), .string (⟨#[97, 98, 98, 99]⟩ : ByteArray)] rfl (by (try simp only [List.map_toArray, List.map_cons, List.map_nil]); first | done | rfl | (simp only [List.length_drop, List.length_take]; rfl)) ?_; (with_reducible refine (glob_Match.calls (⟨#[97, 42, 99]⟩ : ByteArray) (⟨#[97, 98, 98, 99]⟩ : ByteArray) false _ A1.out).mono ?_); rintro e w41 ⟨rfl, hb⟩; refine ⟨_, rfl, ?_⟩; have n0_ := Aside0.mk (below_step (by repeat (first | (with_reducible first | exact HB.out | apply below_alloc | apply pw_below_drewN | apply below_drew1) | exact HB.out)) hb); clear HB; have HB := n0_; clear n0_; (try clear hb); (try clear hb2); (try clear hk); (try clear hi)))
    go_ret
    exact ⟨by first | rfl | (simp [errW_none, errW_some] <;> rfl) | (simp [*, errW_none, errW_some] <;> rfl), by repeat (first | (with_reducible first | exact HB.out | apply below_alloc | apply pw_below_drewN | apply below_drew1) | exact HB.out)⟩

end Go.Proofs.Ytiigjnccoeadlaa.PA
