/- Own texts and the print's words: PAfremoralaw15RulesIdle to PAfremoralaw15RulesIdle. -/
import Derived.Test.YtioehkeocddniaaDoorNG1
import Derived.Test.YtioehkeocddniaaDoorNG3
import Derived.Test.YtioehkeocddniaaDoorNG4
import Derived.Test.YtioehkeocddniaaDoorNG6
namespace Go.Proofs.YtioehkeocddniaaDoor.PA
open Go.RowKit Go.Proofs.YtioehkeocddniaaDoorW.PrintWords Go.Proofs.YtioehkeocddniaaDoorW.PrintLast Go.Proofs.YtioehkeocddniaaDoorW.PrintMore
attribute [local go_sem] max2_int min2_int max_two min_two max_three min_three max_four min_four   -- for this text's walks alone
set_option linter.unusedVariables false
set_option linter.unusedSimpArgs false
mutual
def remoralaw15_RulesIdle.j0 : Nat → List (S24) → List (S24) → Int → ByteArray → Bool → Bool → Option (Bool)
 | 0, _, _, _, _, _, _ => none
 | k + 1, x0, x1, x2, x3, x4, x49 => if x49 = true then ((remoralaw15_awake.f).bind fun t104 => (some t104)) else (if (IntKind.u64.wrap (wrap64 ((x0.length : Int) + 1))) = 0 then (none) else ((some (([] : List (S24)) : List (S24))).bind fun y105 => (if 0 ≤ (wrap64 (Int.tmod x2 (IntKind.u64.wrap (wrap64 ((x0.length : Int) + 1))))) then (if (wrap64 (Int.tmod x2 (IntKind.u64.wrap (wrap64 ((x0.length : Int) + 1))))) ≤ (x0.length : Int) then ((some (x0.take ((wrap64 (Int.tmod x2 (IntKind.u64.wrap (wrap64 ((x0.length : Int) + 1))))) : Int).toNat : List (S24))).bind fun y108 => (if y105.length + y108.length < 4398046511104 then (remoralaw15_RulesIdle.l0 k x0 x1 x3 x4 (wrap64 (Int.tmod x2 (IntKind.u64.wrap (wrap64 ((x0.length : Int) + 1))))) (y105 ++ y108) x1 (x1.length : Int) 0) else (none))) else (none)) else (none))))
def remoralaw15_RulesIdle.l0 : Nat → List (S24) → List (S24) → ByteArray → Bool → Int → List (S24) → List (S24) → Int → Int → Option (Bool)
 | 0, _, _, _, _, _, _, _, _, _ => none
 | k + 1, x0, x1, x3, x4, x11, x12, x63, x64, x65 => if x65 < x64 then (if 0 ≤ x65 then (if x65 < (x63.length : Int) then ((rules_Matches.f k ((rd_T24 x63 x65).f0) ((rd_T24 x63 x65).f1) ((rd_T24 x63 x65).f2) ((rd_T24 x63 x65).f3) x3 x4).bind fun t117 => (if t117 = true then (remoralaw15_RulesIdle.l0 k x0 x1 x3 x4 x11 x12 x63 x64 (wrap64 (x65 + 1))) else (if x12.length < 4398046511104 then (remoralaw15_RulesIdle.l0 k x0 x1 x3 x4 x11 (x12 ++ [(⟨(rd_T24 x63 x65).f0, (rd_T24 x63 x65).f1, (rd_T24 x63 x65).f2, (rd_T24 x63 x65).f3⟩ : S24)]) x63 x64 (wrap64 (x65 + 1))) else (none)))) else (none)) else (none)) else (if 0 ≤ x11 then (if x11 ≤ (x0.length : Int) then ((some (x0.drop (x11 : Int).toNat : List (S24))).bind fun y121 => (if x12.length + y121.length < 4398046511104 then ((some (x12 ++ y121 : List (S24))).bind fun y125 => ((rules_Act.f k y125 x3 x4 true).bind fun t128 => ((rules_Act.f k x0 x3 x4 true).bind fun t129 => (if t128 = t129 then ((rules_Act.f k y125 x3 x4 false).bind fun t130 => ((rules_Act.f k x0 x3 x4 false).bind fun t131 => (if t130 = t131 then ((rules_Safe.f k y125 x3 x4).bind fun t132 => ((rules_Safe.f k x0 x3 x4).bind fun t133 => (remoralaw15_RulesIdle.j2 k x0 x1 x3 x4 (t132 != t133)))) else (remoralaw15_RulesIdle.j2 k x0 x1 x3 x4 true)))) else (remoralaw15_RulesIdle.j2 k x0 x1 x3 x4 true))))) else (none))) else (none)) else (none))
def remoralaw15_RulesIdle.j2 : Nat → List (S24) → List (S24) → ByteArray → Bool → Bool → Option (Bool)
 | 0, _, _, _, _, _ => none
 | k + 1, x0, x1, x3, x4, x114 => if x114 = true then (some false) else ((some (([] : List (S24)) : List (S24))).bind fun y134 => (if y134.length + x0.length < 4398046511104 then ((some (y134 ++ x0 : List (S24))).bind fun y137 => (if y137.length + x1.length < 4398046511104 then ((rules_Act.f k x0 x3 x4 true).bind fun t143 => (if t143 = 0 then (remoralaw15_RulesIdle.j3 k x0 x1 x3 x4 false) else ((rules_Act.f k (y137 ++ x1) x3 x4 true).bind fun t144 => (remoralaw15_RulesIdle.j3 k x0 x1 x3 x4 (t144 != t143))))) else (none))) else (none)))
def remoralaw15_RulesIdle.j3 : Nat → List (S24) → List (S24) → ByteArray → Bool → Bool → Option (Bool)
 | 0, _, _, _, _, _ => none
 | k + 1, x0, x1, x3, x4, x133 => if x133 = true then (some false) else ((some (([] : List (S24)) : List (S24))).bind fun y145 => (if y145.length + x0.length < 4398046511104 then (remoralaw15_RulesIdle.l1 k x0 x3 x4 (y145 ++ x0) x1 (x1.length : Int) 0) else (none)))
def remoralaw15_RulesIdle.l1 : Nat → List (S24) → ByteArray → Bool → List (S24) → List (S24) → Int → Int → Option (Bool)
 | 0, _, _, _, _, _, _, _ => none
 | k + 1, x0, x3, x4, x17, x137, x138, x139 => if x139 < x138 then (if 0 ≤ x139 then (if x139 < (x137.length : Int) then ((some (([(⟨3, (rd_T24 x137 x139).f1, (rd_T24 x137 x139).f2, (rd_T24 x137 x139).f3⟩ : S24)] : List (S24)) : List (S24))).bind fun y153 => (if y153.length + x17.length < 4398046511104 then (remoralaw15_RulesIdle.l1 k x0 x3 x4 (y153 ++ x17) x137 x138 (wrap64 (x139 + 1))) else (none))) else (none)) else (none)) else ((rules_Hidden.f k x17 x3 x4).bind fun t159 => ((rules_Hidden.f k x0 x3 x4).bind fun t160 => (if (t159 == t160) = true then ((remoralaw15_awake.f).bind fun t161 => (some t161)) else (some false))))
end
def remoralaw15_RulesIdle.f (k : Nat) (l0 : List (S24)) (l1 : List (S24)) (a2 : Int) (a3 : ByteArray) (a4 : Bool) : Option (Bool) := (remoralaw15_light.f k l0).bind fun t101 => (if t101 = true then ((remoralaw15_light.f k l1).bind fun t102 => (if t102 = true then (if (wrap64 ((l0.length : Int) + (l1.length : Int))) > 120 then (remoralaw15_RulesIdle.j0 k l0 l1 a2 a3 a4 true) else (if (a3.size : Int) > 300 then (remoralaw15_RulesIdle.j0 k l0 l1 a2 a3 a4 true) else ((path_Right.f k a3).bind fun t103 => (if t103 = true then (remoralaw15_RulesIdle.j0 k l0 l1 a2 a3 a4 (a3.toList == ([] : List UInt8))) else (remoralaw15_RulesIdle.j0 k l0 l1 a2 a3 a4 true))))) else (remoralaw15_RulesIdle.j0 k l0 l1 a2 a3 a4 true))) else (remoralaw15_RulesIdle.j0 k l0 l1 a2 a3 a4 true))
set_option maxHeartbeats 8000000 in
set_option maxRecDepth 100000 in
theorem remoralaw15_RulesIdle.calls (k : Nat) (A0 : Option Addr) (c0 : Nat) (l0 : List (S24)) (A1 : Option Addr) (c1 : Nat) (l1 : List (S24)) (a2 : Int) (a3 : ByteArray) (a4 : Bool) (r : Bool) (w : World) (hr0 : Kd.C k24 w A0 l0.length l0) (hc0 : l0.length ≤ c0) (hr1 : Kd.C k24 w A1 l1.length l1) (hc1 : l1.length ≤ c1) (h : remoralaw15_RulesIdle.f k l0 l1 a2 a3 a4 = some r) :
  Calls Tryd.prog 5 #[.slice A0 l0.length c0, .slice A1 l1.length c1, .int .u64 a2, .string a3, .bool a4] w fun e w' => e = .returned (.bool r) ∧ Below w.heap.size w w' := by
 have hu24 := Tryd.underlying24
 have HR0 := Aside0.mk hr0
 have HC0 := Aside0.mk hc0
 clear hr0 hc0
 have HR1 := Aside0.mk hr1
 have HC1 := Aside0.mk hc1
 clear hr1 hc1
 have HB := Aside0.mk (Below.refl w.heap.size w)
 have H : ((remoralaw15_light.f k l0).bind fun t101 => (if t101 = true then ((remoralaw15_light.f k l1).bind fun t102 => (if t102 = true then (if (wrap64 ((l0.length : Int) + (l1.length : Int))) > 120 then (remoralaw15_RulesIdle.j0 k l0 l1 a2 a3 a4 true) else (if (a3.size : Int) > 300 then (remoralaw15_RulesIdle.j0 k l0 l1 a2 a3 a4 true) else ((path_Right.f k a3).bind fun t103 => (if t103 = true then (remoralaw15_RulesIdle.j0 k l0 l1 a2 a3 a4 (a3.toList == ([] : List UInt8))) else (remoralaw15_RulesIdle.j0 k l0 l1 a2 a3 a4 true))))) else (remoralaw15_RulesIdle.j0 k l0 l1 a2 a3 a4 true))) else (remoralaw15_RulesIdle.j0 k l0 l1 a2 a3 a4 true))) = some r := h
 clear h
 have HC6 := Aside0.mk H
 clear H
 go_enter Tryd.func5, Tryd.ntmps5
 go_upto_region 1 with (fail)
 go_cut [49] (fun v49 wc => ∃ (kq : Nat) (x49_5 : Bool), v49 = .bool x49_5 ∧ Aside0 (remoralaw15_RulesIdle.j0 kq l0 l1 a2 a3 a4 x49_5 = some r) ∧ Aside0 (kq ≤ k) ∧ Aside0 (Below w.heap.size w wc))
 case first =>
  have H := HC6.out
  clear HC6
  replace H := Option.bind_eq_some_iff.mp H
  obtain ⟨t101, A70, H⟩ := H
  replace H : (if t101 = true then ((remoralaw15_light.f k l1).bind fun t102 => (if t102 = true then (if (wrap64 ((l0.length : Int) + (l1.length : Int))) > 120 then (remoralaw15_RulesIdle.j0 k l0 l1 a2 a3 a4 true) else (if (a3.size : Int) > 300 then (remoralaw15_RulesIdle.j0 k l0 l1 a2 a3 a4 true) else ((path_Right.f k a3).bind fun t103 => (if t103 = true then (remoralaw15_RulesIdle.j0 k l0 l1 a2 a3 a4 (a3.toList == ([] : List UInt8))) else (remoralaw15_RulesIdle.j0 k l0 l1 a2 a3 a4 true))))) else (remoralaw15_RulesIdle.j0 k l0 l1 a2 a3 a4 true))) else (remoralaw15_RulesIdle.j0 k l0 l1 a2 a3 a4 true)) = some r := H
  have A7 := Aside0.mk A70
  clear A70
  by_cases c8 : t101 = true
  ·subst c8
   have H1 : ((remoralaw15_light.f k l1).bind fun t102 => (if t102 = true then (if (wrap64 ((l0.length : Int) + (l1.length : Int))) > 120 then (remoralaw15_RulesIdle.j0 k l0 l1 a2 a3 a4 true) else (if (a3.size : Int) > 300 then (remoralaw15_RulesIdle.j0 k l0 l1 a2 a3 a4 true) else ((path_Right.f k a3).bind fun t103 => (if t103 = true then (remoralaw15_RulesIdle.j0 k l0 l1 a2 a3 a4 (a3.toList == ([] : List UInt8))) else (remoralaw15_RulesIdle.j0 k l0 l1 a2 a3 a4 true))))) else (remoralaw15_RulesIdle.j0 k l0 l1 a2 a3 a4 true))) = some r := by rw [if_pos rfl] at H; exact H
   clear H
   have H := H1
   clear H1
   replace H := Option.bind_eq_some_iff.mp H
   obtain ⟨t102, A90, H⟩ := H
   replace H : (if t102 = true then (if (wrap64 ((l0.length : Int) + (l1.length : Int))) > 120 then (remoralaw15_RulesIdle.j0 k l0 l1 a2 a3 a4 true) else (if (a3.size : Int) > 300 then (remoralaw15_RulesIdle.j0 k l0 l1 a2 a3 a4 true) else ((path_Right.f k a3).bind fun t103 => (if t103 = true then (remoralaw15_RulesIdle.j0 k l0 l1 a2 a3 a4 (a3.toList == ([] : List UInt8))) else (remoralaw15_RulesIdle.j0 k l0 l1 a2 a3 a4 true))))) else (remoralaw15_RulesIdle.j0 k l0 l1 a2 a3 a4 true)) = some r := H
   have A9 := Aside0.mk A90
   clear A90
   by_cases c10 : t102 = true
   ·subst c10
    have H1 : (if (wrap64 ((l0.length : Int) + (l1.length : Int))) > 120 then (remoralaw15_RulesIdle.j0 k l0 l1 a2 a3 a4 true) else (if (a3.size : Int) > 300 then (remoralaw15_RulesIdle.j0 k l0 l1 a2 a3 a4 true) else ((path_Right.f k a3).bind fun t103 => (if t103 = true then (remoralaw15_RulesIdle.j0 k l0 l1 a2 a3 a4 (a3.toList == ([] : List UInt8))) else (remoralaw15_RulesIdle.j0 k l0 l1 a2 a3 a4 true))))) = some r := by rw [if_pos rfl] at H; exact H
    clear H
    have H := H1
    clear H1
    by_cases c11 : (wrap64 ((l0.length : Int) + (l1.length : Int))) > 120
    ·rw [if_pos c11] at H
     have c11b0 : decide (120 < (wrap64 ((l0.length : Int) + (l1.length : Int)))) = true := decide_eq_true c11
     clear c11
     (first | rw [c11b0] | (simp only [i64_w, i32_w]; rw [c11b0]) | skip)
     have H' := Aside0.mk H
     clear H
     go_wp2_with (first | ((with_reducible refine gate_callee (f := 16) rfl ?_); refine goesL_ (some 21) rfl rfl Tryd.func16 (by kernel_rfl) rfl #[.slice A0 l0.length c0] rfl (by (try simp only [List.map_toArray, List.map_cons, List.map_nil]); first | done | rfl | (simp only [List.length_drop, List.length_take]; rfl)) ?_; (with_reducible refine (remoralaw15_light.calls k _ _ l0 true _ ?side1 ?side2 A7.out).mono ?_); (case side1 => repeat (first | exact (Kd.C_below HR0.out HB.out) | (with_reducible refine Kd.C_alloc ?_ _) | (with_reducible refine Kd.C_drewN ?_ _) | (with_reducible refine Kd.C_drew ?_))); (case side2 => exact HC0.out); rintro e w12 ⟨rfl, hb⟩; refine ⟨_, rfl, ?_⟩; have n0_ := Aside0.mk (below_step (by repeat (first | (with_reducible first | exact HB.out | apply below_alloc | apply pw_below_drewN | apply below_drew1) | exact HB.out)) hb); clear HB; have HB := n0_; clear n0_; (try clear hb); (try clear hb2); (try clear hk); (try clear hi)) | (go_at_call 16; (with_reducible refine (remoralaw15_light.calls k _ _ l1 true _ ?side1 ?side2 A9.out).mono ?_); (case side1 => repeat (first | exact (Kd.C_below HR1.out HB.out) | (with_reducible refine Kd.C_alloc ?_ _) | (with_reducible refine Kd.C_drewN ?_ _) | (with_reducible refine Kd.C_drew ?_))); (case side2 => exact HC1.out); rintro e w13 ⟨rfl, hb⟩; have n0_ := Aside0.mk (below_step (by repeat (first | (with_reducible first | exact HB.out | apply below_alloc | apply pw_below_drewN | apply below_drew1) | exact HB.out)) hb); clear HB; have HB := n0_; clear n0_; (try clear hb); (try clear hb2); (try clear hk); (try clear hi)))
     go_meet
     case rel => exact ⟨_, (true), (by first | rfl | (simp; done) | (simp [*]; done)), H', ⟨by first | omega | exact Nat.le_refl _⟩, ⟨by repeat (first | (with_reducible first | exact HB.out | apply below_alloc | apply pw_below_drewN | apply below_drew1) | exact HB.out)⟩⟩
    ·rw [if_neg c11] at H
     have c11b0 : decide (120 < (wrap64 ((l0.length : Int) + (l1.length : Int)))) = false := decide_eq_false c11
     clear c11
     (first | rw [c11b0] | (simp only [i64_w, i32_w]; rw [c11b0]) | skip)
     by_cases c14 : (a3.size : Int) > 300
     ·rw [if_pos c14] at H
      have c14b0 : decide (300 < (a3.size : Int)) = true := decide_eq_true c14
      have c14b1 : decide (300 < a3.size) = true := decide_eq_true (by omega)
      clear c14
      have H' := Aside0.mk H
      clear H
      go_wp2_with (first | ((with_reducible refine gate_callee (f := 16) rfl ?_); refine goesL_ (some 21) rfl rfl Tryd.func16 (by kernel_rfl) rfl #[.slice A0 l0.length c0] rfl (by (try simp only [List.map_toArray, List.map_cons, List.map_nil]); first | done | rfl | (simp only [List.length_drop, List.length_take]; rfl)) ?_; (with_reducible refine (remoralaw15_light.calls k _ _ l0 true _ ?side1 ?side2 A7.out).mono ?_); (case side1 => repeat (first | exact (Kd.C_below HR0.out HB.out) | (with_reducible refine Kd.C_alloc ?_ _) | (with_reducible refine Kd.C_drewN ?_ _) | (with_reducible refine Kd.C_drew ?_))); (case side2 => exact HC0.out); rintro e w15 ⟨rfl, hb⟩; refine ⟨_, rfl, ?_⟩; have n0_ := Aside0.mk (below_step (by repeat (first | (with_reducible first | exact HB.out | apply below_alloc | apply pw_below_drewN | apply below_drew1) | exact HB.out)) hb); clear HB; have HB := n0_; clear n0_; (try clear hb); (try clear hb2); (try clear hk); (try clear hi)) | (go_at_call 16; (with_reducible refine (remoralaw15_light.calls k _ _ l1 true _ ?side1 ?side2 A9.out).mono ?_); (case side1 => repeat (first | exact (Kd.C_below HR1.out HB.out) | (with_reducible refine Kd.C_alloc ?_ _) | (with_reducible refine Kd.C_drewN ?_ _) | (with_reducible refine Kd.C_drew ?_))); (case side2 => exact HC1.out); rintro e w16 ⟨rfl, hb⟩; have n0_ := Aside0.mk (below_step (by repeat (first | (with_reducible first | exact HB.out | apply below_alloc | apply pw_below_drewN | apply below_drew1) | exact HB.out)) hb); clear HB; have HB := n0_; clear n0_; (try clear hb); (try clear hb2); (try clear hk); (try clear hi)))
      go_meet
      case rel => exact ⟨_, (true), (by first | rfl | (simp; done) | (simp [*]; done)), H', ⟨by first | omega | exact Nat.le_refl _⟩, ⟨by repeat (first | (with_reducible first | exact HB.out | apply below_alloc | apply pw_below_drewN | apply below_drew1) | exact HB.out)⟩⟩
     ·rw [if_neg c14] at H
      have c14b0 : decide (300 < (a3.size : Int)) = false := decide_eq_false c14
      have c14b1 : decide (300 < a3.size) = false := decide_eq_false (by omega)
      clear c14
      replace H := Option.bind_eq_some_iff.mp H
      obtain ⟨t103, A170, H⟩ := H
      replace H : (if t103 = true then (remoralaw15_RulesIdle.j0 k l0 l1 a2 a3 a4 (a3.toList == ([] : List UInt8))) else (remoralaw15_RulesIdle.j0 k l0 l1 a2 a3 a4 true)) = some r := H
      have A17 := Aside0.mk A170
      clear A170
      by_cases c18 : t103 = true
      ·subst c18
       have H1 : (remoralaw15_RulesIdle.j0 k l0 l1 a2 a3 a4 (a3.toList == ([] : List UInt8))) = some r := by rw [if_pos rfl] at H; exact H
       clear H
       have H := H1
       clear H1
       have H' := Aside0.mk H
       clear H
       go_wp2_with (first | ((with_reducible refine gate_callee (f := 16) rfl ?_); refine goesL_ (some 21) rfl rfl Tryd.func16 (by kernel_rfl) rfl #[.slice A0 l0.length c0] rfl (by (try simp only [List.map_toArray, List.map_cons, List.map_nil]); first | done | rfl | (simp only [List.length_drop, List.length_take]; rfl)) ?_; (with_reducible refine (remoralaw15_light.calls k _ _ l0 true _ ?side1 ?side2 A7.out).mono ?_); (case side1 => repeat (first | exact (Kd.C_below HR0.out HB.out) | (with_reducible refine Kd.C_alloc ?_ _) | (with_reducible refine Kd.C_drewN ?_ _) | (with_reducible refine Kd.C_drew ?_))); (case side2 => exact HC0.out); rintro e w19 ⟨rfl, hb⟩; refine ⟨_, rfl, ?_⟩; have n0_ := Aside0.mk (below_step (by repeat (first | (with_reducible first | exact HB.out | apply below_alloc | apply pw_below_drewN | apply below_drew1) | exact HB.out)) hb); clear HB; have HB := n0_; clear n0_; (try clear hb); (try clear hb2); (try clear hk); (try clear hi)) | (go_at_call 16; (with_reducible refine (remoralaw15_light.calls k _ _ l1 true _ ?side1 ?side2 A9.out).mono ?_); (case side1 => repeat (first | exact (Kd.C_below HR1.out HB.out) | (with_reducible refine Kd.C_alloc ?_ _) | (with_reducible refine Kd.C_drewN ?_ _) | (with_reducible refine Kd.C_drew ?_))); (case side2 => exact HC1.out); rintro e w20 ⟨rfl, hb⟩; have n0_ := Aside0.mk (below_step (by repeat (first | (with_reducible first | exact HB.out | apply below_alloc | apply pw_below_drewN | apply below_drew1) | exact HB.out)) hb); clear HB; have HB := n0_; clear n0_; (try clear hb); (try clear hb2); (try clear hk); (try clear hi)) | (go_at_call 25; (with_reducible refine (path_Right.calls k a3 true _ A17.out).mono ?_); rintro e w21 ⟨rfl, hb⟩; have n0_ := Aside0.mk (below_step (by repeat (first | (with_reducible first | exact HB.out | apply below_alloc | apply pw_below_drewN | apply below_drew1) | exact HB.out)) hb); clear HB; have HB := n0_; clear n0_; (try clear hb); (try clear hb2); (try clear hk); (try clear hi)))
       go_meet
       case rel => exact ⟨_, ((a3.toList == ([] : List UInt8))), (by first | rfl | (simp; done) | (simp [*]; done)), H', ⟨by first | omega | exact Nat.le_refl _⟩, ⟨by repeat (first | (with_reducible first | exact HB.out | apply below_alloc | apply pw_below_drewN | apply below_drew1) | exact HB.out)⟩⟩
      ·replace c18 := Bool.eq_false_iff.mpr c18
       subst c18
       have H1 : (remoralaw15_RulesIdle.j0 k l0 l1 a2 a3 a4 true) = some r := by rw [if_neg (show ¬ (false = true) by decide)] at H; exact H
       clear H
       have H := H1
       clear H1
       have H' := Aside0.mk H
       clear H
       go_wp2_with (first | ((with_reducible refine gate_callee (f := 16) rfl ?_); refine goesL_ (some 21) rfl rfl Tryd.func16 (by kernel_rfl) rfl #[.slice A0 l0.length c0] rfl (by (try simp only [List.map_toArray, List.map_cons, List.map_nil]); first | done | rfl | (simp only [List.length_drop, List.length_take]; rfl)) ?_; (with_reducible refine (remoralaw15_light.calls k _ _ l0 true _ ?side1 ?side2 A7.out).mono ?_); (case side1 => repeat (first | exact (Kd.C_below HR0.out HB.out) | (with_reducible refine Kd.C_alloc ?_ _) | (with_reducible refine Kd.C_drewN ?_ _) | (with_reducible refine Kd.C_drew ?_))); (case side2 => exact HC0.out); rintro e w22 ⟨rfl, hb⟩; refine ⟨_, rfl, ?_⟩; have n0_ := Aside0.mk (below_step (by repeat (first | (with_reducible first | exact HB.out | apply below_alloc | apply pw_below_drewN | apply below_drew1) | exact HB.out)) hb); clear HB; have HB := n0_; clear n0_; (try clear hb); (try clear hb2); (try clear hk); (try clear hi)) | (go_at_call 16; (with_reducible refine (remoralaw15_light.calls k _ _ l1 true _ ?side1 ?side2 A9.out).mono ?_); (case side1 => repeat (first | exact (Kd.C_below HR1.out HB.out) | (with_reducible refine Kd.C_alloc ?_ _) | (with_reducible refine Kd.C_drewN ?_ _) | (with_reducible refine Kd.C_drew ?_))); (case side2 => exact HC1.out); rintro e w23 ⟨rfl, hb⟩; have n0_ := Aside0.mk (below_step (by repeat (first | (with_reducible first | exact HB.out | apply below_alloc | apply pw_below_drewN | apply below_drew1) | exact HB.out)) hb); clear HB; have HB := n0_; clear n0_; (try clear hb); (try clear hb2); (try clear hk); (try clear hi)) | (go_at_call 25; (with_reducible refine (path_Right.calls k a3 false _ A17.out).mono ?_); rintro e w24 ⟨rfl, hb⟩; have n0_ := Aside0.mk (below_step (by repeat (first | (with_reducible first | exact HB.out | apply below_alloc | apply pw_below_drewN | apply below_drew1) | exact HB.out)) hb); clear HB; have HB := n0_; clear n0_; (try clear hb); (try clear hb2); (try clear hk); (try clear hi)))
       go_meet
       case rel => exact ⟨_, (true), (by first | rfl | (simp; done) | (simp [*]; done)), H', ⟨by first | omega | exact Nat.le_refl _⟩, ⟨by repeat (first | (with_reducible first | exact HB.out | apply below_alloc | apply pw_below_drewN | apply below_drew1) | exact HB.out)⟩⟩
   ·replace c10 := Bool.eq_false_iff.mpr c10
    subst c10
    have H1 : (remoralaw15_RulesIdle.j0 k l0 l1 a2 a3 a4 true) = some r := by rw [if_neg (show ¬ (false = true) by decide)] at H; exact H
    clear H
    have H := H1
    clear H1
    have H' := Aside0.mk H
    clear H
    go_wp2_with (first | ((with_reducible refine gate_callee (f := 16) rfl ?_); refine goesL_ (some 21) rfl rfl Tryd.func16 (by kernel_rfl) rfl #[.slice A0 l0.length c0] rfl (by (try simp only [List.map_toArray, List.map_cons, List.map_nil]); first | done | rfl | (simp only [List.length_drop, List.length_take]; rfl)) ?_; (with_reducible refine (remoralaw15_light.calls k _ _ l0 true _ ?side1 ?side2 A7.out).mono ?_); (case side1 => repeat (first | exact (Kd.C_below HR0.out HB.out) | (with_reducible refine Kd.C_alloc ?_ _) | (with_reducible refine Kd.C_drewN ?_ _) | (with_reducible refine Kd.C_drew ?_))); (case side2 => exact HC0.out); rintro e w25 ⟨rfl, hb⟩; refine ⟨_, rfl, ?_⟩; have n0_ := Aside0.mk (below_step (by repeat (first | (with_reducible first | exact HB.out | apply below_alloc | apply pw_below_drewN | apply below_drew1) | exact HB.out)) hb); clear HB; have HB := n0_; clear n0_; (try clear hb); (try clear hb2); (try clear hk); (try clear hi)) | (go_at_call 16; (with_reducible refine (remoralaw15_light.calls k _ _ l1 false _ ?side1 ?side2 A9.out).mono ?_); (case side1 => repeat (first | exact (Kd.C_below HR1.out HB.out) | (with_reducible refine Kd.C_alloc ?_ _) | (with_reducible refine Kd.C_drewN ?_ _) | (with_reducible refine Kd.C_drew ?_))); (case side2 => exact HC1.out); rintro e w26 ⟨rfl, hb⟩; have n0_ := Aside0.mk (below_step (by repeat (first | (with_reducible first | exact HB.out | apply below_alloc | apply pw_below_drewN | apply below_drew1) | exact HB.out)) hb); clear HB; have HB := n0_; clear n0_; (try clear hb); (try clear hb2); (try clear hk); (try clear hi)))
    go_meet
    case rel => exact ⟨_, (true), (by first | rfl | (simp; done) | (simp [*]; done)), H', ⟨by first | omega | exact Nat.le_refl _⟩, ⟨by repeat (first | (with_reducible first | exact HB.out | apply below_alloc | apply pw_below_drewN | apply below_drew1) | exact HB.out)⟩⟩
  ·replace c8 := Bool.eq_false_iff.mpr c8
   subst c8
   have H1 : (remoralaw15_RulesIdle.j0 k l0 l1 a2 a3 a4 true) = some r := by rw [if_neg (show ¬ (false = true) by decide)] at H; exact H
   clear H
   have H := H1
   clear H1
   have H' := Aside0.mk H
   clear H
   go_wp2_with (first | ((with_reducible refine gate_callee (f := 16) rfl ?_); refine goesL_ (some 21) rfl rfl Tryd.func16 (by kernel_rfl) rfl #[.slice A0 l0.length c0] rfl (by (try simp only [List.map_toArray, List.map_cons, List.map_nil]); first | done | rfl | (simp only [List.length_drop, List.length_take]; rfl)) ?_; (with_reducible refine (remoralaw15_light.calls k _ _ l0 false _ ?side1 ?side2 A7.out).mono ?_); (case side1 => repeat (first | exact (Kd.C_below HR0.out HB.out) | (with_reducible refine Kd.C_alloc ?_ _) | (with_reducible refine Kd.C_drewN ?_ _) | (with_reducible refine Kd.C_drew ?_))); (case side2 => exact HC0.out); rintro e w27 ⟨rfl, hb⟩; refine ⟨_, rfl, ?_⟩; have n0_ := Aside0.mk (below_step (by repeat (first | (with_reducible first | exact HB.out | apply below_alloc | apply pw_below_drewN | apply below_drew1) | exact HB.out)) hb); clear HB; have HB := n0_; clear n0_; (try clear hb); (try clear hb2); (try clear hk); (try clear hi)))
   go_meet
   case rel => exact ⟨_, (true), (by first | rfl | (simp; done) | (simp [*]; done)), H', ⟨by first | omega | exact Nat.le_refl _⟩, ⟨by repeat (first | (with_reducible first | exact HB.out | apply below_alloc | apply pw_below_drewN | apply below_drew1) | exact HB.out)⟩⟩
 case rest =>
  clear HC6
  try clear c1
  try clear p2
  try clear c5
  try clear p6
  try clear c8
  try clear c10
  try clear c11
  try clear c11b0
  try clear c14
  try clear c14b0
  try clear c14b1
  try clear c16
  try clear c18
  obtain ⟨kq, x49_5, rfl, HA, HJ5, HB⟩ := hcut
  cases kq with
  | zero => exact absurd HA.out (by simp [remoralaw15_RulesIdle.j0])
  | succ kj5 =>
   have H := HA.out
   clear HA
   simp only [remoralaw15_RulesIdle.j0] at H
   by_cases c28 : x49_5 = true
   ·subst c28
    have H1 : ((remoralaw15_awake.f).bind fun t104 => (some t104)) = some r := by rw [if_pos rfl] at H; exact H
    clear H
    have H := H1
    clear H1
    replace H := Option.bind_eq_some_iff.mp H
    obtain ⟨t104, A290, H⟩ := H
    replace H : (some t104) = some r := H
    have A29 := Aside0.mk A290
    clear A290
    obtain rfl := Option.some.inj H
    go_wp2_with (first | ((with_reducible refine gate_callee (f := 10) rfl ?_); refine goesL_ (some 50) rfl rfl Tryd.func10 (by kernel_rfl) rfl #[] rfl (by (try simp only [List.map_toArray, List.map_cons, List.map_nil]); first | done | rfl | (simp only [List.length_drop, List.length_take]; rfl)) ?_; (with_reducible refine (remoralaw15_awake.calls  t104 _ A29.out).mono ?_); rintro e w30 ⟨rfl, hb⟩; refine ⟨_, rfl, ?_⟩; have n0_ := Aside0.mk (below_step (by repeat (first | (with_reducible first | exact HB.out | apply below_alloc | apply pw_below_drewN | apply below_drew1) | exact HB.out)) hb); clear HB; have HB := n0_; clear n0_; (try clear hb); (try clear hb2); (try clear hk); (try clear hi)))
    go_ret
    exact ⟨by first | rfl | (simp [errW_none, errW_some] <;> rfl) | (simp [*, errW_none, errW_some] <;> rfl), by repeat (first | (with_reducible first | exact HB.out | apply below_alloc | apply pw_below_drewN | apply below_drew1) | exact HB.out)⟩
   ·replace c28 := Bool.eq_false_iff.mpr c28
    subst c28
    have H1 : (if (IntKind.u64.wrap (wrap64 ((l0.length : Int) + 1))) = 0 then (none) else ((some (([] : List (S24)) : List (S24))).bind fun y105 => (if 0 ≤ (wrap64 (Int.tmod a2 (IntKind.u64.wrap (wrap64 ((l0.length : Int) + 1))))) then (if (wrap64 (Int.tmod a2 (IntKind.u64.wrap (wrap64 ((l0.length : Int) + 1))))) ≤ (l0.length : Int) then ((some (l0.take ((wrap64 (Int.tmod a2 (IntKind.u64.wrap (wrap64 ((l0.length : Int) + 1))))) : Int).toNat : List (S24))).bind fun y108 => (if y105.length + y108.length < 4398046511104 then (remoralaw15_RulesIdle.l0 kj5 l0 l1 a3 a4 (wrap64 (Int.tmod a2 (IntKind.u64.wrap (wrap64 ((l0.length : Int) + 1))))) (y105 ++ y108) l1 (l1.length : Int) 0) else (none))) else (none)) else (none)))) = some r := by rw [if_neg (show ¬ (false = true) by decide)] at H; exact H
    clear H
    have H := H1
    clear H1
    by_cases c31 : (IntKind.u64.wrap (wrap64 ((l0.length : Int) + 1))) = 0
    ·rw [if_pos c31] at H
     exact absurd H (by simp)
    ·rw [if_neg c31] at H
     have c31b0 : ((IntKind.u64.wrap (wrap64 ((l0.length : Int) + 1))) == 0) = false := beq_eq_false_iff_ne.mpr c31
     have c31b1 : ((IntKind.u64.wrap (wrap64 ((l0.length : Int) + 1))) != 0) = true := bne_iff_ne.mpr c31
     obtain ⟨y105, hy105⟩ : ∃ y_ : List (S24), y_ = (([] : List (S24))) := ⟨_, rfl⟩
     replace H : (if 0 ≤ (wrap64 (Int.tmod a2 (IntKind.u64.wrap (wrap64 ((l0.length : Int) + 1))))) then (if (wrap64 (Int.tmod a2 (IntKind.u64.wrap (wrap64 ((l0.length : Int) + 1))))) ≤ (l0.length : Int) then ((some (l0.take ((wrap64 (Int.tmod a2 (IntKind.u64.wrap (wrap64 ((l0.length : Int) + 1))))) : Int).toNat : List (S24))).bind fun y108 => (if y105.length + y108.length < 4398046511104 then (remoralaw15_RulesIdle.l0 kj5 l0 l1 a3 a4 (wrap64 (Int.tmod a2 (IntKind.u64.wrap (wrap64 ((l0.length : Int) + 1))))) (y105 ++ y108) l1 (l1.length : Int) 0) else (none))) else (none)) else (none)) = some r := by first | (rw [hy105]; with_reducible exact H) | (have H2_ := (Option.bind_some _ _).symm.trans H; rw [hy105]; with_reducible exact H2_) | (have H2_ := (Option.bind_some _ _).symm.trans H; with_reducible exact H2_) | with_reducible exact H | (rw [hy105]; exact H) | exact H
     have Ny105 := Aside0.mk hy105
     clear hy105
     obtain ⟨ji32, hji32⟩ : ∃ j_ : Int, (wrap64 (Int.tmod a2 (IntKind.u64.wrap (wrap64 ((l0.length : Int) + 1))))) = j_ := ⟨_, rfl⟩
     replace H : (if 0 ≤ (ji32) then (if (ji32) ≤ (l0.length : Int) then ((some (l0.take ((ji32) : Int).toNat : List (S24))).bind fun y108 => (if y105.length + y108.length < 4398046511104 then (remoralaw15_RulesIdle.l0 kj5 l0 l1 a3 a4 ji32 (y105 ++ y108) l1 (l1.length : Int) 0) else (none))) else (none)) else (none)) = some r := by first | (rw [hji32] at H; exact H) | (simp only [hji32] at H ⊢; exact H)
     have hji32w : (IntKind.i64.wrap (Int.tmod a2 (IntKind.u64.wrap (wrap64 ((l0.length : Int) + 1))))) = ji32 := (i64_w _).trans hji32
     by_cases c33 : 0 ≤ (ji32)
     ·rw [if_pos c33] at H
      have c33b0 := eq_true c33
      have c33b1 : decide (0 ≤ (ji32)) = true := decide_eq_true c33
      clear c33
      by_cases c34 : (ji32) ≤ (l0.length : Int)
      ·rw [if_pos c34] at H
       have c34b0 := eq_true c34
       have c34b1 : decide ((ji32) ≤ (l0.length : Int)) = true := decide_eq_true c34
       clear c34
       obtain ⟨y108, hy108⟩ : ∃ y_ : List (S24), y_ = (l0.take ((ji32) : Int).toNat) := ⟨_, rfl⟩
       replace H : (if y105.length + y108.length < 4398046511104 then (remoralaw15_RulesIdle.l0 kj5 l0 l1 a3 a4 ji32 (y105 ++ y108) l1 (l1.length : Int) 0) else (none)) = some r := by first | (rw [hy108]; with_reducible exact H) | (have H2_ := (Option.bind_some _ _).symm.trans H; rw [hy108]; with_reducible exact H2_) | (have H2_ := (Option.bind_some _ _).symm.trans H; with_reducible exact H2_) | with_reducible exact H | (rw [hy108]; exact H) | exact H
       have Ny108 := Aside0.mk hy108
       clear hy108
       by_cases c35 : y105.length + y108.length < 4398046511104
       ·rw [if_pos c35] at H
        have LMc35 := Aside0.mk c35
        clear c35
        obtain ⟨y112, hy112⟩ : ∃ y_ : List (S24), y_ = (y105 ++ y108) := ⟨_, rfl⟩
        replace H : (remoralaw15_RulesIdle.l0 kj5 l0 l1 a3 a4 ji32 y112 l1 (l1.length : Int) 0) = some r := by first | (rw [hy112]; with_reducible exact H) | (have H2_ := (Option.bind_some _ _).symm.trans H; rw [hy112]; with_reducible exact H2_) | (have H2_ := (Option.bind_some _ _).symm.trans H; with_reducible exact H2_) | with_reducible exact H | (rw [hy112]; exact H) | exact H
        have Ny112 := Aside0.mk hy112
        clear hy112
        have H' := Aside0.mk H
        clear H
        go_wp2_with (first | ((with_reducible refine gate_dst (N := 58) rfl ?_); (try (refine gate_guard (by rfl) ?_; dsimp only)); refine Kd.R_lit k24 _ 24 ?hg (N := 58) ?hd (xs := ([] : List (S24))) (inner := []) (ok := fun _ => True) (okp := fun _ => True) ?hr ?hp (fun _ hk => hk) trivial (Below.refl _ _) (Nat.le_refl _) (by simp) ?_; (case hd => rfl); (case hg => rfl); (case hr => first | (go_simp; done) | (go_simp; rfl)); (case hp => exact (Reps.none _ _)); intro v106 w36 ho37 hb hg_ hnew_; clear hg_ hnew_; (first | rw [← Ny105.out] at ho37 | (simp only [Int.reduceToNat] at ho37; rw [← Ny105.out] at ho37)); have n0_ := Aside0.mk (Kd.R_lower ho37 (below_size (by repeat (first | (with_reducible first | exact HB.out | apply below_alloc | apply pw_below_drewN | apply below_drew1) | exact HB.out)))); have n1_ := Aside0.mk (below_step (by repeat (first | (with_reducible first | exact HB.out | apply below_alloc | apply pw_below_drewN | apply below_drew1) | exact HB.out)) hb); clear HB; have HO107 := n0_; have HB := n1_; clear n0_ n1_; clear hb ho37; have q38 : ((ji32) : Int) ≤ ((l0.length : Int) : Int) := of_decide_eq_true (by first | (with_reducible assumption) | assumption); obtain ⟨i038, hi038, _, hsz38, _⟩ := info_parts info24; have hroom38 : l0.length ≤ c0 := HC0.out; have hC38 : Kd.C k24 _ A0 l0.length l0 := HR0.out; have hcut38 := cut_to (P := Tryd.prog) 28 24 .i64 Tryd.underlying28 hi038 A0 l0.length c0 (ji32) (of_decide_eq_true (by first | (with_reducible assumption) | assumption)) q38 hroom38; have hr38 := Kd.C_take (m := ((ji32) : Int).toNat) hC38 (by omega); have hy38 : y108.length = ((ji32) : Int).toNat := (by rw [Ny108.out, List.length_take]; omega); rw [← Ny108.out] at hr38; rw [← hy38] at hcut38; have HR111 := Aside0.mk hr38; have HC111 := Aside0.mk (show y108.length ≤ c0 from by omega); clear hr38 hC38 hroom38 hi038 hsz38; have KY38 := Aside0.mk hy38; clear hy38; replace q38 := eq_true q38) | ((with_reducible refine gate_builtin (b := .append) (xs := #[.tmp 58, .tmp 61]) rfl ?_); (try (refine gate_guard (by rfl) ?_; dsimp only)); at_builtin; refine Kd.R_append_rows k24 (w0 := w) w.heap.size rfl (.tmp 58) (.tmp 61) 28 24 (.agg #[(.int .i64 0), (.string ⟨#[]⟩), (.bool false), (.bool false)]) 32 rfl Tryd.underlying28 info24 rfl (by decide) (by omega) v106 y105 y108 _ _ _ (fun _ => True) (fun _ => False) rfl rfl ?aO ?aR (fun _ _ h => h) (fun _ h => h.elim) ?aF ?aB ?aS ?aL ?_; (case aR => repeat (first | exact (Kd.C_below HR111.out HB.out) | (with_reducible refine Kd.C_alloc ?_ _) | (with_reducible refine Kd.C_drewN ?_ _) | (with_reducible refine Kd.C_drew ?_))); (case aB => exact (by repeat (first | (with_reducible first | exact HB.out | apply below_alloc | apply pw_below_drewN | apply below_drew1) | exact HB.out))); (case aF => exact (fun _ _ => trivial)); (case aO => exact (by (with_reducible repeat (first | apply Kd.R_alloc | apply Kd.R_drewN | apply Kd.R_drew)); exact HO107.out)); (case aS => exact (below_size (by repeat (first | (with_reducible first | exact HB.out | apply below_alloc | apply pw_below_drewN | apply below_drew1) | exact HB.out)))); (case aL => have := LMc35.out; omega); intro v113 w39 ho hb hg hat; rw [← Ny112.out] at ho; have n0_ := Aside0.mk (hb); have n1_ := Aside0.mk (ho); clear HB; clear HO107; have HB := n0_; have HO114 := n1_; clear n0_ n1_; clear ho hb hg hat))
        go_loopg [12, 65] kj5 (fun kq v12 v65 w' => ∃ (x12_2 : List (S24)) (x65_2 : Int), v65 = .int .i64 x65_2 ∧ Aside0 (remoralaw15_RulesIdle.l0 kq l0 l1 a3 a4 ji32 x12_2 l1 (l1.length : Int) x65_2 = some r) ∧ Aside0 (kq ≤ kj5) ∧ Aside0 (Kd.R k24 24 w' w.heap.size (fun _ => True) v12 x12_2) ∧ Aside0 (Below w.heap.size w w'))
        case atStart => exact ⟨(y112), (0), (by first | rfl | (simp; done) | (simp [*]; done)), H', ⟨Nat.le_refl _⟩, ⟨by (with_reducible repeat (first | apply Kd.R_alloc | apply Kd.R_drewN | apply Kd.R_drew)); exact HO114.out⟩, ⟨by repeat (first | (with_reducible first | exact HB.out | apply below_alloc | apply pw_below_drewN | apply below_drew1) | exact HB.out)⟩⟩
        case round =>
         clear H'
         try clear c1
         try clear c2
         try clear p2
         try clear c3
         try clear q3
         try clear c5
         try clear p6
         try clear c8
         try clear c10
         try clear c11
         try clear c11b0
         try clear c14
         try clear c14b0
         try clear c14b1
         try clear c16
         try clear c18
         try clear c28
         try clear c31
         try clear c31b0
         try clear c31b1
         try clear c33
         try clear c33b0
         try clear c33b1
         try clear c34
         try clear c34b0
         try clear c34b1
         try clear c35
         try clear q38
         try clear p2
         try clear p6
         try clear q38
         obtain ⟨x12_2, x65_2, rfl, HA, HK2, HO_12, HB⟩ := hrel
         cases gk with
         | zero => exact absurd HA.out (by simp [remoralaw15_RulesIdle.l0])
         | succ k2 =>
          have H := HA.out
          clear HA
          simp only [remoralaw15_RulesIdle.l0] at H
          by_cases c40 : x65_2 < (l1.length : Int)
          ·rw [if_pos c40] at H
           have c40b0 : decide (x65_2 < (l1.length : Int)) = true := decide_eq_true c40
           clear c40
           by_cases c41 : 0 ≤ x65_2
           ·rw [if_pos c41] at H
            have c41b0 : decide (0 ≤ x65_2) = true := decide_eq_true c41
            clear c41
            by_cases c42 : x65_2 < (l1.length : Int)
            ·rw [if_pos c42] at H
             have c42b0 : decide (x65_2 < (l1.length : Int)) = true := decide_eq_true c42
             clear c42
             replace H := Option.bind_eq_some_iff.mp H
             obtain ⟨t117, A430, H⟩ := H
             replace H : (if t117 = true then (remoralaw15_RulesIdle.l0 k2 l0 l1 a3 a4 ji32 x12_2 l1 (l1.length : Int) (wrap64 (x65_2 + 1))) else (if x12_2.length < 4398046511104 then (remoralaw15_RulesIdle.l0 k2 l0 l1 a3 a4 ji32 (x12_2 ++ [(⟨(rd_T24 l1 x65_2).f0, (rd_T24 l1 x65_2).f1, (rd_T24 l1 x65_2).f2, (rd_T24 l1 x65_2).f3⟩ : S24)]) l1 (l1.length : Int) (wrap64 (x65_2 + 1))) else (none))) = some r := H
             have A43 := Aside0.mk A430
             clear A430
             by_cases c44 : t117 = true
             ·subst c44
              have H1 : (remoralaw15_RulesIdle.l0 k2 l0 l1 a3 a4 ji32 x12_2 l1 (l1.length : Int) (wrap64 (x65_2 + 1))) = some r := by rw [if_pos rfl] at H; exact H
              clear H
              have H := H1
              clear H1
              have H' := Aside0.mk H
              clear H
              have p115 : 0 ≤ (x65_2 : Int) := of_decide_eq_true (by first | (with_reducible assumption) | assumption)
              have q115 : x65_2 < (l1.length : Int) := of_decide_eq_true (by first | (with_reducible assumption) | assumption)
              obtain ⟨ad115, e115, hx115_0, hx115_1, hx115_2, hx115_3⟩ := at_T24 HR1.out x65_2 p115 q115
              cases e115
              replace hx115_0 := (HB.out.cell (World.block_lt_of_cell? w _ hx115_0)).trans hx115_0
              replace hx115_1 := (HB.out.cell (World.block_lt_of_cell? w _ hx115_1)).trans hx115_1
              replace hx115_2 := (HB.out.cell (World.block_lt_of_cell? w _ hx115_2)).trans hx115_2
              replace hx115_3 := (HB.out.cell (World.block_lt_of_cell? w _ hx115_3)).trans hx115_3
              replace p115 := eq_true p115
              replace q115 := eq_true q115
              go_wp2_with (first | ((with_reducible refine gate_dst (N := 14) rfl ?_); (try (refine gate_guard (by rfl) ?_; dsimp only)); refine box_event ?hg (N := 14) ?hd (cs := #[.int .i64 0, .string (⟨#[]⟩ : ByteArray), .bool false, .bool false]) (t := 24) ?hr ?_; (case hd => rfl); (case hg => rfl); (case hr => first | (go_simp; done) | (go_simp; rfl)); intro gb116 hg w45 hbox hb; have n0_ := Aside0.mk (Kd.R_below (Kd.R_elderB (by (with_reducible repeat (first | apply Kd.R_alloc | apply Kd.R_drewN | apply Kd.R_drew)); exact HO_12.out) gb116 (Nat.le_of_eq hg.symm)) hb); have n1_ := Aside0.mk (below_step (by repeat (first | (with_reducible first | exact HB.out | apply below_alloc | apply pw_below_drewN | apply below_drew1) | exact HB.out)) hb); have n2_ := Aside0.mk (hbox); have n3_ := Aside0.mk ((by rw [hg]; exact (below_size (by repeat (first | (with_reducible first | exact HB.out | apply below_alloc | apply pw_below_drewN | apply below_drew1) | exact HB.out))) : w.heap.size ≤ gb116)); have n4_ := Aside0.mk ((by rw [hg]; exact (below_size (by repeat (first | (with_reducible first | exact HB.out | apply below_alloc | apply pw_below_drewN | apply below_drew1) | exact HB.out))) : w.heap.size ≤ gb116)); clear HO_12; clear HB; have HO_12 := n0_; have HB := n1_; have BK116 := n2_; have GW116 := n3_; have GE116 := n4_; clear n0_ n1_ n2_ n3_ n4_; clear hb hbox hg; have hcz46_0 : w45.cell? ⟨gb116, 0, none⟩ = some (.int .i64 0) := (blk_cell BK116.out 0).trans rfl; have hcz46_1 : w45.cell? ⟨gb116, 1, none⟩ = some (.string (⟨#[]⟩ : ByteArray)) := (blk_cell BK116.out 1).trans rfl; have hcz46_2 : w45.cell? ⟨gb116, 2, none⟩ = some (.bool false) := (blk_cell BK116.out 2).trans rfl; have hcz46_3 : w45.cell? ⟨gb116, 3, none⟩ = some (.bool false) := (blk_cell BK116.out 3).trans rfl; have hfz46_0 := blk_frozen BK116.out 0; have hfz46_1 := blk_frozen BK116.out 1; have hfz46_2 := blk_frozen BK116.out 2; have hfz46_3 := blk_frozen BK116.out 3) | ((with_reducible refine gate_callee (f := 17) rfl ?_); refine goesL_ (some 72) rfl rfl Tryd.func17 (by kernel_rfl) rfl #[.agg #[.int .i64 ((rd_T24 l1 x65_2).f0), .string ((rd_T24 l1 x65_2).f1), .bool ((rd_T24 l1 x65_2).f2), .bool ((rd_T24 l1 x65_2).f3)], .string a3, .bool a4] rfl (by (try simp only [List.map_toArray, List.map_cons, List.map_nil]); first | done | rfl | (simp only [List.length_drop, List.length_take]; rfl)) ?_; (with_reducible refine (rules_Matches.calls k2 ((rd_T24 l1 x65_2).f0) ((rd_T24 l1 x65_2).f1) ((rd_T24 l1 x65_2).f2) ((rd_T24 l1 x65_2).f3) a3 a4 true _ A43.out).mono ?_); rintro e w47 ⟨rfl, hb⟩; refine ⟨_, rfl, ?_⟩; have n0_ := Aside0.mk (Kd.R_below (by (with_reducible repeat (first | apply Kd.R_alloc | apply Kd.R_drewN | apply Kd.R_drew)); exact (Kd.R_mono (Kd.R_far (p := ⟨gb116, 3, none⟩) (Kd.R_far (p := ⟨gb116, 2, none⟩) (Kd.R_far (p := ⟨gb116, 1, none⟩) (Kd.R_far (p := ⟨gb116, 0, none⟩) (Kd.R_mono HO_12.out (fun k_ hk => (⟨hk, hk.2⟩ : _ ∧ k_ ≠ gb116))) (fun _ hk => hk.2) (.int .i64 ((rd_T24 l1 x65_2).f0))) (fun _ hk => hk.2) (.string ((rd_T24 l1 x65_2).f1))) (fun _ hk => hk.2) (.bool ((rd_T24 l1 x65_2).f2))) (fun _ hk => hk.2) (.bool ((rd_T24 l1 x65_2).f3))) (fun _ h_ => h_.1))) hb); have n1_ := Aside0.mk (blk_below (g := gb116) (o := .cells #[.int .i64 ((rd_T24 l1 x65_2).f0), .string ((rd_T24 l1 x65_2).f1), .bool ((rd_T24 l1 x65_2).f2), .bool ((rd_T24 l1 x65_2).f3)] 24 (0, 0)) (by (with_reducible repeat (first | refine blk_drewN ?_ _ | refine blk_drew ?_ | refine blk_alloc ?_ _)); refine blk_put (cs := #[.int .i64 ((rd_T24 l1 x65_2).f0), .string ((rd_T24 l1 x65_2).f1), .bool ((rd_T24 l1 x65_2).f2), .bool false]) ?_ 3 _ rfl; (with_reducible repeat (first | refine blk_drewN ?_ _ | refine blk_drew ?_ | refine blk_alloc ?_ _)); refine blk_put (cs := #[.int .i64 ((rd_T24 l1 x65_2).f0), .string ((rd_T24 l1 x65_2).f1), .bool false, .bool false]) ?_ 2 _ rfl; (with_reducible repeat (first | refine blk_drewN ?_ _ | refine blk_drew ?_ | refine blk_alloc ?_ _)); refine blk_put (cs := #[.int .i64 ((rd_T24 l1 x65_2).f0), .string (⟨#[]⟩ : ByteArray), .bool false, .bool false]) ?_ 1 _ rfl; (with_reducible repeat (first | refine blk_drewN ?_ _ | refine blk_drew ?_ | refine blk_alloc ?_ _)); refine blk_put (cs := #[.int .i64 0, .string (⟨#[]⟩ : ByteArray), .bool false, .bool false]) ?_ 0 _ rfl; (with_reducible repeat (first | refine blk_drewN ?_ _ | refine blk_drew ?_ | refine blk_alloc ?_ _)); exact BK116.out) hb); have n2_ := Aside0.mk (below_step (by repeat (first | (with_reducible first | exact HB.out | apply below_alloc | apply pw_below_drewN | apply below_drew1 | refine below_set ?_ GE116.out) | exact HB.out)) hb); clear HO_12; clear BK116; clear HB; have HO_12 := n0_; have BK116 := n1_; have HB := n2_; clear n0_ n1_ n2_; (try clear hb); (try clear hb2); (try clear hk); (try clear hi)))
              go_roundg k2
              case measure => have := HJ5.out; have := HK2.out; omega
              case rel => exact ⟨(x12_2), (wrap64 (x65_2 + 1)), (by first | rfl | (simp; done) | (simp [*]; done)), H', ⟨by have := HJ5.out; have := HK2.out; omega⟩, ⟨by (with_reducible repeat (first | apply Kd.R_alloc | apply Kd.R_drewN | apply Kd.R_drew)); exact Kd.R_mono HO_12.out (fun _ hk => trivial)⟩, ⟨by repeat (first | (with_reducible first | exact HB.out | apply below_alloc | apply pw_below_drewN | apply below_drew1 | refine below_set ?_ GE116.out) | exact HB.out)⟩⟩
             ·replace c44 := Bool.eq_false_iff.mpr c44
              subst c44
              have H1 : (if x12_2.length < 4398046511104 then (remoralaw15_RulesIdle.l0 k2 l0 l1 a3 a4 ji32 (x12_2 ++ [(⟨(rd_T24 l1 x65_2).f0, (rd_T24 l1 x65_2).f1, (rd_T24 l1 x65_2).f2, (rd_T24 l1 x65_2).f3⟩ : S24)]) l1 (l1.length : Int) (wrap64 (x65_2 + 1))) else (none)) = some r := by rw [if_neg (show ¬ (false = true) by decide)] at H; exact H
              clear H
              have H := H1
              clear H1
              by_cases c48 : x12_2.length < 4398046511104
              ·rw [if_pos c48] at H
               have LMc48 := Aside0.mk c48
               clear c48
               obtain ⟨y118, hy118⟩ : ∃ y_ : List (S24), y_ = (x12_2 ++ [(⟨(rd_T24 l1 x65_2).f0, (rd_T24 l1 x65_2).f1, (rd_T24 l1 x65_2).f2, (rd_T24 l1 x65_2).f3⟩ : S24)]) := ⟨_, rfl⟩
               replace H : (remoralaw15_RulesIdle.l0 k2 l0 l1 a3 a4 ji32 y118 l1 (l1.length : Int) (wrap64 (x65_2 + 1))) = some r := by first | (rw [hy118]; with_reducible exact H) | (have H2_ := (Option.bind_some _ _).symm.trans H; rw [hy118]; with_reducible exact H2_) | (have H2_ := (Option.bind_some _ _).symm.trans H; with_reducible exact H2_) | with_reducible exact H | (rw [hy118]; exact H) | exact H
               have Ny118 := Aside0.mk hy118
               clear hy118
               have H' := Aside0.mk H
               clear H
               have p115 : 0 ≤ (x65_2 : Int) := of_decide_eq_true (by first | (with_reducible assumption) | assumption)
               have q115 : x65_2 < (l1.length : Int) := of_decide_eq_true (by first | (with_reducible assumption) | assumption)
               obtain ⟨ad115, e115, hx115_0, hx115_1, hx115_2, hx115_3⟩ := at_T24 HR1.out x65_2 p115 q115
               cases e115
               replace hx115_0 := (HB.out.cell (World.block_lt_of_cell? w _ hx115_0)).trans hx115_0
               replace hx115_1 := (HB.out.cell (World.block_lt_of_cell? w _ hx115_1)).trans hx115_1
               replace hx115_2 := (HB.out.cell (World.block_lt_of_cell? w _ hx115_2)).trans hx115_2
               replace hx115_3 := (HB.out.cell (World.block_lt_of_cell? w _ hx115_3)).trans hx115_3
               replace p115 := eq_true p115
               replace q115 := eq_true q115
               go_wp2_with (first | ((with_reducible refine gate_dst (N := 14) rfl ?_); (try (refine gate_guard (by rfl) ?_; dsimp only)); refine box_event ?hg (N := 14) ?hd (cs := #[.int .i64 0, .string (⟨#[]⟩ : ByteArray), .bool false, .bool false]) (t := 24) ?hr ?_; (case hd => rfl); (case hg => rfl); (case hr => first | (go_simp; done) | (go_simp; rfl)); intro gb116 hg w49 hbox hb; have n0_ := Aside0.mk (Kd.R_below (Kd.R_elderB (by (with_reducible repeat (first | apply Kd.R_alloc | apply Kd.R_drewN | apply Kd.R_drew)); exact HO_12.out) gb116 (Nat.le_of_eq hg.symm)) hb); have n1_ := Aside0.mk (below_step (by repeat (first | (with_reducible first | exact HB.out | apply below_alloc | apply pw_below_drewN | apply below_drew1) | exact HB.out)) hb); have n2_ := Aside0.mk (hbox); have n3_ := Aside0.mk ((by rw [hg]; exact (below_size (by repeat (first | (with_reducible first | exact HB.out | apply below_alloc | apply pw_below_drewN | apply below_drew1) | exact HB.out))) : w.heap.size ≤ gb116)); have n4_ := Aside0.mk ((by rw [hg]; exact (below_size (by repeat (first | (with_reducible first | exact HB.out | apply below_alloc | apply pw_below_drewN | apply below_drew1) | exact HB.out))) : w.heap.size ≤ gb116)); clear HO_12; clear HB; have HO_12 := n0_; have HB := n1_; have BK116 := n2_; have GW116 := n3_; have GE116 := n4_; clear n0_ n1_ n2_ n3_ n4_; clear hb hbox hg; have hcz50_0 : w49.cell? ⟨gb116, 0, none⟩ = some (.int .i64 0) := (blk_cell BK116.out 0).trans rfl; have hcz50_1 : w49.cell? ⟨gb116, 1, none⟩ = some (.string (⟨#[]⟩ : ByteArray)) := (blk_cell BK116.out 1).trans rfl; have hcz50_2 : w49.cell? ⟨gb116, 2, none⟩ = some (.bool false) := (blk_cell BK116.out 2).trans rfl; have hcz50_3 : w49.cell? ⟨gb116, 3, none⟩ = some (.bool false) := (blk_cell BK116.out 3).trans rfl; have hfz50_0 := blk_frozen BK116.out 0; have hfz50_1 := blk_frozen BK116.out 1; have hfz50_2 := blk_frozen BK116.out 2; have hfz50_3 := blk_frozen BK116.out 3) | ((with_reducible refine gate_callee (f := 17) rfl ?_); refine goesL_ (some 72) rfl rfl Tryd.func17 (by kernel_rfl) rfl #[.agg #[.int .i64 ((rd_T24 l1 x65_2).f0), .string ((rd_T24 l1 x65_2).f1), .bool ((rd_T24 l1 x65_2).f2), .bool ((rd_T24 l1 x65_2).f3)], .string a3, .bool a4] rfl (by (try simp only [List.map_toArray, List.map_cons, List.map_nil]); first | done | rfl | (simp only [List.length_drop, List.length_take]; rfl)) ?_; (with_reducible refine (rules_Matches.calls k2 ((rd_T24 l1 x65_2).f0) ((rd_T24 l1 x65_2).f1) ((rd_T24 l1 x65_2).f2) ((rd_T24 l1 x65_2).f3) a3 a4 false _ A43.out).mono ?_); rintro e w51 ⟨rfl, hb⟩; refine ⟨_, rfl, ?_⟩; have n0_ := Aside0.mk (Kd.R_below (by (with_reducible repeat (first | apply Kd.R_alloc | apply Kd.R_drewN | apply Kd.R_drew)); exact (Kd.R_mono (Kd.R_far (p := ⟨gb116, 3, none⟩) (Kd.R_far (p := ⟨gb116, 2, none⟩) (Kd.R_far (p := ⟨gb116, 1, none⟩) (Kd.R_far (p := ⟨gb116, 0, none⟩) (Kd.R_mono HO_12.out (fun k_ hk => (⟨hk, hk.2⟩ : _ ∧ k_ ≠ gb116))) (fun _ hk => hk.2) (.int .i64 ((rd_T24 l1 x65_2).f0))) (fun _ hk => hk.2) (.string ((rd_T24 l1 x65_2).f1))) (fun _ hk => hk.2) (.bool ((rd_T24 l1 x65_2).f2))) (fun _ hk => hk.2) (.bool ((rd_T24 l1 x65_2).f3))) (fun _ h_ => h_.1))) hb); have n1_ := Aside0.mk (blk_below (g := gb116) (o := .cells #[.int .i64 ((rd_T24 l1 x65_2).f0), .string ((rd_T24 l1 x65_2).f1), .bool ((rd_T24 l1 x65_2).f2), .bool ((rd_T24 l1 x65_2).f3)] 24 (0, 0)) (by (with_reducible repeat (first | refine blk_drewN ?_ _ | refine blk_drew ?_ | refine blk_alloc ?_ _)); refine blk_put (cs := #[.int .i64 ((rd_T24 l1 x65_2).f0), .string ((rd_T24 l1 x65_2).f1), .bool ((rd_T24 l1 x65_2).f2), .bool false]) ?_ 3 _ rfl; (with_reducible repeat (first | refine blk_drewN ?_ _ | refine blk_drew ?_ | refine blk_alloc ?_ _)); refine blk_put (cs := #[.int .i64 ((rd_T24 l1 x65_2).f0), .string ((rd_T24 l1 x65_2).f1), .bool false, .bool false]) ?_ 2 _ rfl; (with_reducible repeat (first | refine blk_drewN ?_ _ | refine blk_drew ?_ | refine blk_alloc ?_ _)); refine blk_put (cs := #[.int .i64 ((rd_T24 l1 x65_2).f0), .string (⟨#[]⟩ : ByteArray), .bool false, .bool false]) ?_ 1 _ rfl; (with_reducible repeat (first | refine blk_drewN ?_ _ | refine blk_drew ?_ | refine blk_alloc ?_ _)); refine blk_put (cs := #[.int .i64 0, .string (⟨#[]⟩ : ByteArray), .bool false, .bool false]) ?_ 0 _ rfl; (with_reducible repeat (first | refine blk_drewN ?_ _ | refine blk_drew ?_ | refine blk_alloc ?_ _)); exact BK116.out) hb); have n2_ := Aside0.mk (below_step (by repeat (first | (with_reducible first | exact HB.out | apply below_alloc | apply pw_below_drewN | apply below_drew1 | refine below_set ?_ GE116.out) | exact HB.out)) hb); clear HO_12; clear BK116; clear HB; have HO_12 := n0_; have BK116 := n1_; have HB := n2_; clear n0_ n1_ n2_; (try clear hb); (try clear hb2); (try clear hk); (try clear hi); have hcz52_0 : w51.cell? ⟨gb116, 0, none⟩ = some (.int .i64 ((rd_T24 l1 x65_2).f0)) := (blk_cell BK116.out 0).trans rfl; have hcz52_1 : w51.cell? ⟨gb116, 1, none⟩ = some (.string ((rd_T24 l1 x65_2).f1)) := (blk_cell BK116.out 1).trans rfl; have hcz52_2 : w51.cell? ⟨gb116, 2, none⟩ = some (.bool ((rd_T24 l1 x65_2).f2)) := (blk_cell BK116.out 2).trans rfl; have hcz52_3 : w51.cell? ⟨gb116, 3, none⟩ = some (.bool ((rd_T24 l1 x65_2).f3)) := (blk_cell BK116.out 3).trans rfl; have hfz52_0 := blk_frozen BK116.out 0; have hfz52_1 := blk_frozen BK116.out 1; have hfz52_2 := blk_frozen BK116.out 2; have hfz52_3 := blk_frozen BK116.out 3) | ((with_reducible refine gate_builtin (b := .append) (xs := #[.tmp 74, .tmp 76]) rfl ?_); (try (refine gate_guard (by rfl) ?_; dsimp only)); at_builtin; refine Kd.R_append k24 (w0 := w) w.heap.size rfl (.tmp 74) (.tmp 76) 28 24 (.agg #[(.int .i64 0), (.string ⟨#[]⟩), (.bool false), (.bool false)]) 32 rfl Tryd.underlying28 info24 rfl (by decide) (by omega) u12 x12_2 (⟨(rd_T24 l1 x65_2).f0, (rd_T24 l1 x65_2).f1, (rd_T24 l1 x65_2).f2, (rd_T24 l1 x65_2).f3⟩ : S24) [.int .i64 ((rd_T24 l1 x65_2).f0), .string ((rd_T24 l1 x65_2).f1), .bool ((rd_T24 l1 x65_2).f2), .bool ((rd_T24 l1 x65_2).f3)] (fun k_ => k_ ≠ gb116) (fun _ => False) rfl rfl ?aP (fun _ hk => hk.elim) ?aF ?aO ?aB ?aS ?aL ?_; (case aP => exact k24_mkM _ _ _ (⟨(rd_T24 l1 x65_2).f0, (rd_T24 l1 x65_2).f1, (rd_T24 l1 x65_2).f2, (rd_T24 l1 x65_2).f3⟩ : S24)); (case aB => exact (by repeat (first | (with_reducible first | exact HB.out | apply below_alloc | apply pw_below_drewN | apply below_drew1 | refine below_set ?_ GE116.out) | exact HB.out))); (case aF => exact (fun k_ hk => Kd.freshB (g := gb116) (o := .cells #[.int .i64 ((rd_T24 l1 x65_2).f0), .string ((rd_T24 l1 x65_2).f1), .bool ((rd_T24 l1 x65_2).f2), .bool ((rd_T24 l1 x65_2).f3)] 24 (0, 0)) (by (with_reducible repeat (first | refine blk_drewN ?_ _ | refine blk_drew ?_ | refine blk_alloc ?_ _)); exact BK116.out) k_ hk)); (case aO => exact (by (with_reducible repeat (first | apply Kd.R_alloc | apply Kd.R_drewN | apply Kd.R_drew)); exact Kd.R_mono HO_12.out (fun _ hk => hk.2))); (case aS => exact (below_size (by repeat (first | (with_reducible first | exact HB.out | apply below_alloc | apply pw_below_drewN | apply below_drew1 | refine below_set ?_ GE116.out) | exact HB.out)))); (case aL => have := LMc48.out; omega); intro v119 w53 ho hb hg hat; rw [← Ny118.out] at ho; have n0_ := Aside0.mk (blk_grown (g := gb116) (o := .cells #[.int .i64 ((rd_T24 l1 x65_2).f0), .string ((rd_T24 l1 x65_2).f1), .bool ((rd_T24 l1 x65_2).f2), .bool ((rd_T24 l1 x65_2).f3)] 24 (0, 0)) (by (with_reducible repeat (first | refine blk_drewN ?_ _ | refine blk_drew ?_ | refine blk_alloc ?_ _)); exact BK116.out) hg (Kd.R_away HO_12.out (fun _ hk => hk.2))); have n1_ := Aside0.mk (hb); have n2_ := Aside0.mk (ho); clear BK116; clear HB; clear HO_12; have BK116 := n0_; have HB := n1_; have HO120 := n2_; clear n0_ n1_ n2_; clear ho hb hg hat))
               go_roundg k2
               case measure => have := HJ5.out; have := HK2.out; omega
               case rel => exact ⟨(y118), (wrap64 (x65_2 + 1)), (by first | rfl | (simp; done) | (simp [*]; done)), H', ⟨by have := HJ5.out; have := HK2.out; omega⟩, ⟨by (with_reducible repeat (first | apply Kd.R_alloc | apply Kd.R_drewN | apply Kd.R_drew)); exact Kd.R_mono HO120.out (fun _ hk => trivial)⟩, ⟨by repeat (first | (with_reducible first | exact HB.out | apply below_alloc | apply pw_below_drewN | apply below_drew1 | refine below_set ?_ GE116.out) | exact HB.out)⟩⟩
              ·rw [if_neg c48] at H
               exact absurd H (by simp)
            ·rw [if_neg c42] at H
             exact absurd H (by simp)
           ·rw [if_neg c41] at H
            exact absurd H (by simp)
          ·rw [if_neg c40] at H
           have c40b0 : decide (x65_2 < (l1.length : Int)) = false := decide_eq_false c40
           clear c40
           by_cases c54 : 0 ≤ ji32
           ·rw [if_pos c54] at H
            have c54b0 := eq_true c54
            have c54b1 : decide (0 ≤ ji32) = true := decide_eq_true c54
            clear c54
            by_cases c55 : ji32 ≤ (l0.length : Int)
            ·rw [if_pos c55] at H
             have c55b0 := eq_true c55
             have c55b1 : decide (ji32 ≤ (l0.length : Int)) = true := decide_eq_true c55
             clear c55
             obtain ⟨y121, hy121⟩ : ∃ y_ : List (S24), y_ = (l0.drop (ji32 : Int).toNat) := ⟨_, rfl⟩
             replace H : (if x12_2.length + y121.length < 4398046511104 then ((some (x12_2 ++ y121 : List (S24))).bind fun y125 => ((rules_Act.f k2 y125 a3 a4 true).bind fun t128 => ((rules_Act.f k2 l0 a3 a4 true).bind fun t129 => (if t128 = t129 then ((rules_Act.f k2 y125 a3 a4 false).bind fun t130 => ((rules_Act.f k2 l0 a3 a4 false).bind fun t131 => (if t130 = t131 then ((rules_Safe.f k2 y125 a3 a4).bind fun t132 => ((rules_Safe.f k2 l0 a3 a4).bind fun t133 => (remoralaw15_RulesIdle.j2 k2 l0 l1 a3 a4 (t132 != t133)))) else (remoralaw15_RulesIdle.j2 k2 l0 l1 a3 a4 true)))) else (remoralaw15_RulesIdle.j2 k2 l0 l1 a3 a4 true))))) else (none)) = some r := by first | (rw [hy121]; with_reducible exact H) | (have H2_ := (Option.bind_some _ _).symm.trans H; rw [hy121]; with_reducible exact H2_) | (have H2_ := (Option.bind_some _ _).symm.trans H; with_reducible exact H2_) | with_reducible exact H | (rw [hy121]; exact H) | exact H
             have Ny121 := Aside0.mk hy121
             clear hy121
             by_cases c56 : x12_2.length + y121.length < 4398046511104
             ·rw [if_pos c56] at H
              have LMc56 := Aside0.mk c56
              clear c56
              obtain ⟨y125, hy125⟩ : ∃ y_ : List (S24), y_ = (x12_2 ++ y121) := ⟨_, rfl⟩
              replace H : ((rules_Act.f k2 y125 a3 a4 true).bind fun t128 => ((rules_Act.f k2 l0 a3 a4 true).bind fun t129 => (if t128 = t129 then ((rules_Act.f k2 y125 a3 a4 false).bind fun t130 => ((rules_Act.f k2 l0 a3 a4 false).bind fun t131 => (if t130 = t131 then ((rules_Safe.f k2 y125 a3 a4).bind fun t132 => ((rules_Safe.f k2 l0 a3 a4).bind fun t133 => (remoralaw15_RulesIdle.j2 k2 l0 l1 a3 a4 (t132 != t133)))) else (remoralaw15_RulesIdle.j2 k2 l0 l1 a3 a4 true)))) else (remoralaw15_RulesIdle.j2 k2 l0 l1 a3 a4 true)))) = some r := by first | (rw [hy125]; with_reducible exact H) | (have H2_ := (Option.bind_some _ _).symm.trans H; rw [hy125]; with_reducible exact H2_) | (have H2_ := (Option.bind_some _ _).symm.trans H; with_reducible exact H2_) | with_reducible exact H | (rw [hy125]; exact H) | exact H
              have Ny125 := Aside0.mk hy125
              clear hy125
              have HC57 := Aside0.mk H
              clear H
              have q58 : (ji32 : Int) ≤ ((l0.length : Int) : Int) := of_decide_eq_true (by first | (with_reducible assumption) | assumption)
              obtain ⟨i058, hi058, _, hsz58, _⟩ := info_parts info24
              have hroom58 : l0.length ≤ c0 := HC0.out
              have hC58 : Kd.C k24 _ A0 l0.length l0 := HR0.out
              have q058 : (0 : Int) ≤ (ji32 : Int) := of_decide_eq_true (by first | (with_reducible assumption) | assumption)
              have hcut58 := cut_from (P := Tryd.prog) 28 24 .i64 Tryd.underlying28 hi058 4 hsz58 A0 l0.length c0 ji32 q058 q58
              have hr58 := Kd.C_drop (m := (ji32 : Int).toNat) (c := c0) hC58 (by omega) hroom58
              obtain ⟨A58, hA58⟩ : ∃ A1, A1 = (if c0 = (ji32 : Int).toNat then A0 else (A0 : Option Addr).map (·.add ((ji32 : Int).toNat * 4))) := ⟨_, rfl⟩
              obtain ⟨c58, hc58⟩ : ∃ c1, c1 = c0 - (ji32 : Int).toNat := ⟨_, rfl⟩
              have hy58 : y121.length = l0.length - (ji32 : Int).toNat := (by rw [Ny121.out, List.length_drop] <;> omega)
              rw [show (l0).drop (ji32 : Int).toNat = y121 from Ny121.out.symm] at hr58
              replace hr58 : Kd.C k24 _ A58 y121.length y121 := (by rw [hA58]; exact hr58)
              rw [← hy58, ← hA58, ← hc58] at hcut58
              have HR124 := Aside0.mk hr58
              have HC124 := Aside0.mk (show y121.length ≤ c58 from by rw [hy58, hc58]; exact Nat.sub_le_sub_right hroom58 _)
              clear hr58 hC58 hroom58 hi058 hsz58 hc58
              have KY58 := Aside0.mk hy58
              have KA58 := Aside0.mk hA58
              clear hy58 hA58
              replace q58 := eq_true q58
              go_upto_region 12 with (first | ((with_reducible refine gate_builtin (b := .append) (xs := #[.tmp 79, .tmp 82]) rfl ?_); (try (refine gate_guard (by rfl) ?_; dsimp only)); at_builtin; refine Kd.R_append_rows k24 (w0 := w) w.heap.size rfl (.tmp 79) (.tmp 82) 28 24 (.agg #[(.int .i64 0), (.string ⟨#[]⟩), (.bool false), (.bool false)]) 32 rfl Tryd.underlying28 info24 rfl (by decide) (by omega) u12 x12_2 y121 _ _ _ (fun _ => True) (fun _ => False) rfl rfl ?aO ?aR (fun _ _ h => h) (fun _ h => h.elim) ?aF ?aB ?aS ?aL ?_; (case aR => repeat (first | exact (Kd.C_below HR124.out HB.out) | (with_reducible refine Kd.C_alloc ?_ _) | (with_reducible refine Kd.C_drewN ?_ _) | (with_reducible refine Kd.C_drew ?_))); (case aB => exact (by repeat (first | (with_reducible first | exact HB.out | apply below_alloc | apply pw_below_drewN | apply below_drew1) | exact HB.out))); (case aF => exact (fun _ _ => trivial)); (case aO => exact (by (with_reducible repeat (first | apply Kd.R_alloc | apply Kd.R_drewN | apply Kd.R_drew)); exact HO_12.out)); (case aS => exact (below_size (by repeat (first | (with_reducible first | exact HB.out | apply below_alloc | apply pw_below_drewN | apply below_drew1) | exact HB.out)))); (case aL => have := LMc56.out; omega); intro v126 w59 ho hb hg hat; rw [← Ny125.out] at ho; have n0_ := Aside0.mk (hb); have n1_ := Aside0.mk (ho); clear HB; clear HO_12; have HB := n0_; have HO127 := n1_; clear n0_ n1_; clear ho hb hg hat))
              (try simp only [Act.put, List.setIfInBounds_toArray, List.set_cons_zero, List.set_cons_succ])
              go_cut [114] (fun v114 wc => ∃ (kq : Nat) (x114_56 : Bool), v114 = .bool x114_56 ∧ Aside0 (remoralaw15_RulesIdle.j2 kq l0 l1 a3 a4 x114_56 = some r) ∧ Aside0 (kq ≤ k2) ∧ Aside0 (Below w.heap.size w wc))
              case first =>
               have H := HC57.out
               clear HC57
               replace H := Option.bind_eq_some_iff.mp H
               obtain ⟨t128, A600, H⟩ := H
               replace H : ((rules_Act.f k2 l0 a3 a4 true).bind fun t129 => (if t128 = t129 then ((rules_Act.f k2 y125 a3 a4 false).bind fun t130 => ((rules_Act.f k2 l0 a3 a4 false).bind fun t131 => (if t130 = t131 then ((rules_Safe.f k2 y125 a3 a4).bind fun t132 => ((rules_Safe.f k2 l0 a3 a4).bind fun t133 => (remoralaw15_RulesIdle.j2 k2 l0 l1 a3 a4 (t132 != t133)))) else (remoralaw15_RulesIdle.j2 k2 l0 l1 a3 a4 true)))) else (remoralaw15_RulesIdle.j2 k2 l0 l1 a3 a4 true))) = some r := H
               have A60 := Aside0.mk A600
               clear A600
               replace H := Option.bind_eq_some_iff.mp H
               obtain ⟨t129, A610, H⟩ := H
               replace H : (if t128 = t129 then ((rules_Act.f k2 y125 a3 a4 false).bind fun t130 => ((rules_Act.f k2 l0 a3 a4 false).bind fun t131 => (if t130 = t131 then ((rules_Safe.f k2 y125 a3 a4).bind fun t132 => ((rules_Safe.f k2 l0 a3 a4).bind fun t133 => (remoralaw15_RulesIdle.j2 k2 l0 l1 a3 a4 (t132 != t133)))) else (remoralaw15_RulesIdle.j2 k2 l0 l1 a3 a4 true)))) else (remoralaw15_RulesIdle.j2 k2 l0 l1 a3 a4 true)) = some r := H
               have A61 := Aside0.mk A610
               clear A610
               by_cases c62 : t128 = t129
               ·rw [if_pos c62] at H
                have c62b0 : (t128 == t129) = true := beq_iff_eq.mpr c62
                have c62b1 : (t128 != t129) = false := bne_eq_false_iff_eq.mpr c62
                clear c62
                (first | rw [c62b0] | (simp only [i64_w, i32_w]; rw [c62b0]) | skip)
                replace H := Option.bind_eq_some_iff.mp H
                obtain ⟨t130, A630, H⟩ := H
                replace H : ((rules_Act.f k2 l0 a3 a4 false).bind fun t131 => (if t130 = t131 then ((rules_Safe.f k2 y125 a3 a4).bind fun t132 => ((rules_Safe.f k2 l0 a3 a4).bind fun t133 => (remoralaw15_RulesIdle.j2 k2 l0 l1 a3 a4 (t132 != t133)))) else (remoralaw15_RulesIdle.j2 k2 l0 l1 a3 a4 true))) = some r := H
                have A63 := Aside0.mk A630
                clear A630
                replace H := Option.bind_eq_some_iff.mp H
                obtain ⟨t131, A640, H⟩ := H
                replace H : (if t130 = t131 then ((rules_Safe.f k2 y125 a3 a4).bind fun t132 => ((rules_Safe.f k2 l0 a3 a4).bind fun t133 => (remoralaw15_RulesIdle.j2 k2 l0 l1 a3 a4 (t132 != t133)))) else (remoralaw15_RulesIdle.j2 k2 l0 l1 a3 a4 true)) = some r := H
                have A64 := Aside0.mk A640
                clear A640
                by_cases c65 : t130 = t131
                ·rw [if_pos c65] at H
                 have c65b0 : (t130 == t131) = true := beq_iff_eq.mpr c65
                 have c65b1 : (t130 != t131) = false := bne_eq_false_iff_eq.mpr c65
                 clear c65
                 replace H := Option.bind_eq_some_iff.mp H
                 obtain ⟨t132, A660, H⟩ := H
                 replace H : ((rules_Safe.f k2 l0 a3 a4).bind fun t133 => (remoralaw15_RulesIdle.j2 k2 l0 l1 a3 a4 (t132 != t133))) = some r := H
                 have A66 := Aside0.mk A660
                 clear A660
                 replace H := Option.bind_eq_some_iff.mp H
                 obtain ⟨t133, A670, H⟩ := H
                 replace H : (remoralaw15_RulesIdle.j2 k2 l0 l1 a3 a4 (t132 != t133)) = some r := H
                 have A67 := Aside0.mk A670
                 clear A670
                 have H' := Aside0.mk H
                 clear H
                 obtain ⟨Ao68, co68, eo68⟩ := Kd.R_slice HO127.out
                 subst eo68
                 go_wp2_with (first | ((with_reducible refine gate_callee (f := 19) rfl ?_); refine goesL_ (some 87) rfl rfl Tryd.func19 (by kernel_rfl) rfl #[.slice Ao68 y125.length co68, .string a3, .bool a4, .bool true] rfl (by (try simp only [List.map_toArray, List.map_cons, List.map_nil]); first | done | rfl | (simp only [List.length_drop, List.length_take]; rfl)) ?_; (with_reducible refine (rules_Act.calls k2 _ _ y125 a3 a4 true t128 _ ?side1 ?side2 A60.out).mono ?_); (case side1 => repeat (first | exact (Kd.R_reads' HO127.out).2.2 | (with_reducible refine Kd.C_alloc ?_ _) | (with_reducible refine Kd.C_drewN ?_ _) | (with_reducible refine Kd.C_drew ?_))); (case side2 => exact (Kd.R_reads' HO127.out).2.1); rintro e w69 ⟨rfl, hb⟩; refine ⟨_, rfl, ?_⟩; have n0_ := Aside0.mk (Kd.R_below (by (with_reducible repeat (first | apply Kd.R_alloc | apply Kd.R_drewN | apply Kd.R_drew)); exact HO127.out) hb); have n1_ := Aside0.mk (below_step (by repeat (first | (with_reducible first | exact HB.out | apply below_alloc | apply pw_below_drewN | apply below_drew1) | exact HB.out)) hb); clear HO127; clear HB; have HO127 := n0_; have HB := n1_; clear n0_ n1_; (try clear hb); (try clear hb2); (try clear hk); (try clear hi)) | ((with_reducible refine gate_callee (f := 19) rfl ?_); refine goesL_ (some 91) rfl rfl Tryd.func19 (by kernel_rfl) rfl #[.slice A0 l0.length c0, .string a3, .bool a4, .bool true] rfl (by (try simp only [List.map_toArray, List.map_cons, List.map_nil]); first | done | rfl | (simp only [List.length_drop, List.length_take]; rfl)) ?_; (with_reducible refine (rules_Act.calls k2 _ _ l0 a3 a4 true t129 _ ?side1 ?side2 A61.out).mono ?_); (case side1 => repeat (first | exact (Kd.C_below HR0.out HB.out) | (with_reducible refine Kd.C_alloc ?_ _) | (with_reducible refine Kd.C_drewN ?_ _) | (with_reducible refine Kd.C_drew ?_))); (case side2 => exact HC0.out); rintro e w70 ⟨rfl, hb⟩; refine ⟨_, rfl, ?_⟩; have n0_ := Aside0.mk (Kd.R_below (by (with_reducible repeat (first | apply Kd.R_alloc | apply Kd.R_drewN | apply Kd.R_drew)); exact HO127.out) hb); have n1_ := Aside0.mk (below_step (by repeat (first | (with_reducible first | exact HB.out | apply below_alloc | apply pw_below_drewN | apply below_drew1) | exact HB.out)) hb); clear HO127; clear HB; have HO127 := n0_; have HB := n1_; clear n0_ n1_; (try clear hb); (try clear hb2); (try clear hk); (try clear hi)) | (go_at_call 19; (with_reducible refine (rules_Act.calls k2 _ _ y125 a3 a4 false t130 _ ?side1 ?side2 A63.out).mono ?_); (case side1 => repeat (first | exact (Kd.R_reads' HO127.out).2.2 | (with_reducible refine Kd.C_alloc ?_ _) | (with_reducible refine Kd.C_drewN ?_ _) | (with_reducible refine Kd.C_drew ?_))); (case side2 => exact (Kd.R_reads' HO127.out).2.1); rintro e w71 ⟨rfl, hb⟩; have n0_ := Aside0.mk (Kd.R_below (by (with_reducible repeat (first | apply Kd.R_alloc | apply Kd.R_drewN | apply Kd.R_drew)); exact HO127.out) hb); have n1_ := Aside0.mk (below_step (by repeat (first | (with_reducible first | exact HB.out | apply below_alloc | apply pw_below_drewN | apply below_drew1) | exact HB.out)) hb); clear HO127; clear HB; have HO127 := n0_; have HB := n1_; clear n0_ n1_; (try clear hb); (try clear hb2); (try clear hk); (try clear hi)) | (go_at_call 19; (with_reducible refine (rules_Act.calls k2 _ _ l0 a3 a4 false t131 _ ?side1 ?side2 A64.out).mono ?_); (case side1 => repeat (first | exact (Kd.C_below HR0.out HB.out) | (with_reducible refine Kd.C_alloc ?_ _) | (with_reducible refine Kd.C_drewN ?_ _) | (with_reducible refine Kd.C_drew ?_))); (case side2 => exact HC0.out); rintro e w72 ⟨rfl, hb⟩; have n0_ := Aside0.mk (Kd.R_below (by (with_reducible repeat (first | apply Kd.R_alloc | apply Kd.R_drewN | apply Kd.R_drew)); exact HO127.out) hb); have n1_ := Aside0.mk (below_step (by repeat (first | (with_reducible first | exact HB.out | apply below_alloc | apply pw_below_drewN | apply below_drew1) | exact HB.out)) hb); clear HO127; clear HB; have HO127 := n0_; have HB := n1_; clear n0_ n1_; (try clear hb); (try clear hb2); (try clear hk); (try clear hi)) | (go_at_call 23; (with_reducible refine (rules_Safe.calls k2 _ _ y125 a3 a4 t132 _ ?side1 ?side2 A66.out).mono ?_); (case side1 => repeat (first | exact (Kd.R_reads' HO127.out).2.2 | (with_reducible refine Kd.C_alloc ?_ _) | (with_reducible refine Kd.C_drewN ?_ _) | (with_reducible refine Kd.C_drew ?_))); (case side2 => exact (Kd.R_reads' HO127.out).2.1); rintro e w73 ⟨rfl, hb⟩; have n0_ := Aside0.mk (Kd.R_below (by (with_reducible repeat (first | apply Kd.R_alloc | apply Kd.R_drewN | apply Kd.R_drew)); exact HO127.out) hb); have n1_ := Aside0.mk (below_step (by repeat (first | (with_reducible first | exact HB.out | apply below_alloc | apply pw_below_drewN | apply below_drew1) | exact HB.out)) hb); clear HO127; clear HB; have HO127 := n0_; have HB := n1_; clear n0_ n1_; (try clear hb); (try clear hb2); (try clear hk); (try clear hi)) | (go_at_call 23; (with_reducible refine (rules_Safe.calls k2 _ _ l0 a3 a4 t133 _ ?side1 ?side2 A67.out).mono ?_); (case side1 => repeat (first | exact (Kd.C_below HR0.out HB.out) | (with_reducible refine Kd.C_alloc ?_ _) | (with_reducible refine Kd.C_drewN ?_ _) | (with_reducible refine Kd.C_drew ?_))); (case side2 => exact HC0.out); rintro e w74 ⟨rfl, hb⟩; have n0_ := Aside0.mk (Kd.R_below (by (with_reducible repeat (first | apply Kd.R_alloc | apply Kd.R_drewN | apply Kd.R_drew)); exact HO127.out) hb); have n1_ := Aside0.mk (below_step (by repeat (first | (with_reducible first | exact HB.out | apply below_alloc | apply pw_below_drewN | apply below_drew1) | exact HB.out)) hb); clear HO127; clear HB; have HO127 := n0_; have HB := n1_; clear n0_ n1_; (try clear hb); (try clear hb2); (try clear hk); (try clear hi)))
                 go_meet
                 case rel => exact ⟨_, ((t132 != t133)), (by first | rfl | (simp; done) | (simp [*]; done)), H', ⟨by have := HJ5.out; have := HK2.out; first | omega | exact Nat.le_refl _⟩, ⟨by repeat (first | (with_reducible first | exact HB.out | apply below_alloc | apply pw_below_drewN | apply below_drew1) | exact HB.out)⟩⟩
                ·rw [if_neg c65] at H
                 have c65b0 : (t130 == t131) = false := beq_eq_false_iff_ne.mpr c65
                 have c65b1 : (t130 != t131) = true := bne_iff_ne.mpr c65
                 have H' := Aside0.mk H
                 clear H
                 obtain ⟨Ao75, co75, eo75⟩ := Kd.R_slice HO127.out
                 subst eo75
                 go_wp2_with (first | ((with_reducible refine gate_callee (f := 19) rfl ?_); refine goesL_ (some 87) rfl rfl Tryd.func19 (by kernel_rfl) rfl #[.slice Ao75 y125.length co75, .string a3, .bool a4, .bool true] rfl (by (try simp only [List.map_toArray, List.map_cons, List.map_nil]); first | done | rfl | (simp only [List.length_drop, List.length_take]; rfl)) ?_; (with_reducible refine (rules_Act.calls k2 _ _ y125 a3 a4 true t128 _ ?side1 ?side2 A60.out).mono ?_); (case side1 => repeat (first | exact (Kd.R_reads' HO127.out).2.2 | (with_reducible refine Kd.C_alloc ?_ _) | (with_reducible refine Kd.C_drewN ?_ _) | (with_reducible refine Kd.C_drew ?_))); (case side2 => exact (Kd.R_reads' HO127.out).2.1); rintro e w76 ⟨rfl, hb⟩; refine ⟨_, rfl, ?_⟩; have n0_ := Aside0.mk (Kd.R_below (by (with_reducible repeat (first | apply Kd.R_alloc | apply Kd.R_drewN | apply Kd.R_drew)); exact HO127.out) hb); have n1_ := Aside0.mk (below_step (by repeat (first | (with_reducible first | exact HB.out | apply below_alloc | apply pw_below_drewN | apply below_drew1) | exact HB.out)) hb); clear HO127; clear HB; have HO127 := n0_; have HB := n1_; clear n0_ n1_; (try clear hb); (try clear hb2); (try clear hk); (try clear hi)) | ((with_reducible refine gate_callee (f := 19) rfl ?_); refine goesL_ (some 91) rfl rfl Tryd.func19 (by kernel_rfl) rfl #[.slice A0 l0.length c0, .string a3, .bool a4, .bool true] rfl (by (try simp only [List.map_toArray, List.map_cons, List.map_nil]); first | done | rfl | (simp only [List.length_drop, List.length_take]; rfl)) ?_; (with_reducible refine (rules_Act.calls k2 _ _ l0 a3 a4 true t129 _ ?side1 ?side2 A61.out).mono ?_); (case side1 => repeat (first | exact (Kd.C_below HR0.out HB.out) | (with_reducible refine Kd.C_alloc ?_ _) | (with_reducible refine Kd.C_drewN ?_ _) | (with_reducible refine Kd.C_drew ?_))); (case side2 => exact HC0.out); rintro e w77 ⟨rfl, hb⟩; refine ⟨_, rfl, ?_⟩; have n0_ := Aside0.mk (Kd.R_below (by (with_reducible repeat (first | apply Kd.R_alloc | apply Kd.R_drewN | apply Kd.R_drew)); exact HO127.out) hb); have n1_ := Aside0.mk (below_step (by repeat (first | (with_reducible first | exact HB.out | apply below_alloc | apply pw_below_drewN | apply below_drew1) | exact HB.out)) hb); clear HO127; clear HB; have HO127 := n0_; have HB := n1_; clear n0_ n1_; (try clear hb); (try clear hb2); (try clear hk); (try clear hi)) | (go_at_call 19; (with_reducible refine (rules_Act.calls k2 _ _ y125 a3 a4 false t130 _ ?side1 ?side2 A63.out).mono ?_); (case side1 => repeat (first | exact (Kd.R_reads' HO127.out).2.2 | (with_reducible refine Kd.C_alloc ?_ _) | (with_reducible refine Kd.C_drewN ?_ _) | (with_reducible refine Kd.C_drew ?_))); (case side2 => exact (Kd.R_reads' HO127.out).2.1); rintro e w78 ⟨rfl, hb⟩; have n0_ := Aside0.mk (Kd.R_below (by (with_reducible repeat (first | apply Kd.R_alloc | apply Kd.R_drewN | apply Kd.R_drew)); exact HO127.out) hb); have n1_ := Aside0.mk (below_step (by repeat (first | (with_reducible first | exact HB.out | apply below_alloc | apply pw_below_drewN | apply below_drew1) | exact HB.out)) hb); clear HO127; clear HB; have HO127 := n0_; have HB := n1_; clear n0_ n1_; (try clear hb); (try clear hb2); (try clear hk); (try clear hi)) | (go_at_call 19; (with_reducible refine (rules_Act.calls k2 _ _ l0 a3 a4 false t131 _ ?side1 ?side2 A64.out).mono ?_); (case side1 => repeat (first | exact (Kd.C_below HR0.out HB.out) | (with_reducible refine Kd.C_alloc ?_ _) | (with_reducible refine Kd.C_drewN ?_ _) | (with_reducible refine Kd.C_drew ?_))); (case side2 => exact HC0.out); rintro e w79 ⟨rfl, hb⟩; have n0_ := Aside0.mk (Kd.R_below (by (with_reducible repeat (first | apply Kd.R_alloc | apply Kd.R_drewN | apply Kd.R_drew)); exact HO127.out) hb); have n1_ := Aside0.mk (below_step (by repeat (first | (with_reducible first | exact HB.out | apply below_alloc | apply pw_below_drewN | apply below_drew1) | exact HB.out)) hb); clear HO127; clear HB; have HO127 := n0_; have HB := n1_; clear n0_ n1_; (try clear hb); (try clear hb2); (try clear hk); (try clear hi)))
                 go_meet
                 case rel => exact ⟨_, (true), (by first | rfl | (simp; done) | (simp [*]; done)), H', ⟨by have := HJ5.out; have := HK2.out; first | omega | exact Nat.le_refl _⟩, ⟨by repeat (first | (with_reducible first | exact HB.out | apply below_alloc | apply pw_below_drewN | apply below_drew1) | exact HB.out)⟩⟩
               ·rw [if_neg c62] at H
                have c62b0 : (t128 == t129) = false := beq_eq_false_iff_ne.mpr c62
                have c62b1 : (t128 != t129) = true := bne_iff_ne.mpr c62
                (first | rw [c62b0] | (simp only [i64_w, i32_w]; rw [c62b0]) | skip)
                have H' := Aside0.mk H
                clear H
                obtain ⟨Ao80, co80, eo80⟩ := Kd.R_slice HO127.out
                subst eo80
                go_wp2_with (first | ((with_reducible refine gate_callee (f := 19) rfl ?_); refine goesL_ (some 87) rfl rfl Tryd.func19 (by kernel_rfl) rfl #[.slice Ao80 y125.length co80, .string a3, .bool a4, .bool true] rfl (by (try simp only [List.map_toArray, List.map_cons, List.map_nil]); first | done | rfl | (simp only [List.length_drop, List.length_take]; rfl)) ?_; (with_reducible refine (rules_Act.calls k2 _ _ y125 a3 a4 true t128 _ ?side1 ?side2 A60.out).mono ?_); (case side1 => repeat (first | exact (Kd.R_reads' HO127.out).2.2 | (with_reducible refine Kd.C_alloc ?_ _) | (with_reducible refine Kd.C_drewN ?_ _) | (with_reducible refine Kd.C_drew ?_))); (case side2 => exact (Kd.R_reads' HO127.out).2.1); rintro e w81 ⟨rfl, hb⟩; refine ⟨_, rfl, ?_⟩; have n0_ := Aside0.mk (Kd.R_below (by (with_reducible repeat (first | apply Kd.R_alloc | apply Kd.R_drewN | apply Kd.R_drew)); exact HO127.out) hb); have n1_ := Aside0.mk (below_step (by repeat (first | (with_reducible first | exact HB.out | apply below_alloc | apply pw_below_drewN | apply below_drew1) | exact HB.out)) hb); clear HO127; clear HB; have HO127 := n0_; have HB := n1_; clear n0_ n1_; (try clear hb); (try clear hb2); (try clear hk); (try clear hi)) | ((with_reducible refine gate_callee (f := 19) rfl ?_); refine goesL_ (some 91) rfl rfl Tryd.func19 (by kernel_rfl) rfl #[.slice A0 l0.length c0, .string a3, .bool a4, .bool true] rfl (by (try simp only [List.map_toArray, List.map_cons, List.map_nil]); first | done | rfl | (simp only [List.length_drop, List.length_take]; rfl)) ?_; (with_reducible refine (rules_Act.calls k2 _ _ l0 a3 a4 true t129 _ ?side1 ?side2 A61.out).mono ?_); (case side1 => repeat (first | exact (Kd.C_below HR0.out HB.out) | (with_reducible refine Kd.C_alloc ?_ _) | (with_reducible refine Kd.C_drewN ?_ _) | (with_reducible refine Kd.C_drew ?_))); (case side2 => exact HC0.out); rintro e w82 ⟨rfl, hb⟩; refine ⟨_, rfl, ?_⟩; have n0_ := Aside0.mk (Kd.R_below (by (with_reducible repeat (first | apply Kd.R_alloc | apply Kd.R_drewN | apply Kd.R_drew)); exact HO127.out) hb); have n1_ := Aside0.mk (below_step (by repeat (first | (with_reducible first | exact HB.out | apply below_alloc | apply pw_below_drewN | apply below_drew1) | exact HB.out)) hb); clear HO127; clear HB; have HO127 := n0_; have HB := n1_; clear n0_ n1_; (try clear hb); (try clear hb2); (try clear hk); (try clear hi)))
                go_meet
                case rel => exact ⟨_, (true), (by first | rfl | (simp; done) | (simp [*]; done)), H', ⟨by have := HJ5.out; have := HK2.out; first | omega | exact Nat.le_refl _⟩, ⟨by repeat (first | (with_reducible first | exact HB.out | apply below_alloc | apply pw_below_drewN | apply below_drew1) | exact HB.out)⟩⟩
              case rest =>
               clear HC57
               try clear c1
               try clear p1
               try clear q1
               try clear hx1
               try clear c2
               try clear p2
               try clear c3
               try clear q3
               try clear c4
               try clear c5
               try clear q5
               try clear c6
               try clear p6
               try clear c8
               try clear c10
               try clear c11
               try clear c11b0
               try clear p11
               try clear q11
               try clear hx11
               try clear c14
               try clear c14b0
               try clear c14b1
               try clear c16
               try clear c17
               try clear c18
               try clear c19
               try clear c28
               try clear c31
               try clear c31b0
               try clear c31b1
               try clear c33
               try clear c33b0
               try clear c33b1
               try clear c34
               try clear c34b0
               try clear c34b1
               try clear c35
               try clear q38
               try clear c40
               try clear c40b0
               try clear c41
               try clear c41b0
               try clear c42
               try clear c42b0
               try clear c44
               try clear c48
               try clear c54
               try clear c54b0
               try clear c54b1
               try clear c55
               try clear c55b0
               try clear c55b1
               try clear c56
               try clear c58
               try clear q58
               try clear c62
               try clear c62b0
               try clear c62b1
               try clear p64
               try clear c65
               try clear c65b0
               try clear c65b1
               try clear hcz46_0
               try clear hcz46_1
               try clear hcz46_2
               try clear hcz46_3
               try clear hcz50_0
               try clear hcz50_1
               try clear hcz50_2
               try clear hcz50_3
               try clear hcz52_0
               try clear hcz52_1
               try clear hcz52_2
               try clear hcz52_3
               try clear hfz46_0
               try clear hfz46_1
               try clear hfz46_2
               try clear hfz46_3
               try clear hfz50_0
               try clear hfz50_1
               try clear hfz50_2
               try clear hfz50_3
               try clear hfz52_0
               try clear hfz52_1
               try clear hfz52_2
               try clear hfz52_3
               try clear hx115_0
               try clear hx115_1
               try clear hx115_2
               try clear hx115_3
               try clear p115
               try clear p2
               try clear p6
               try clear q058
               try clear q115
               try clear q3
               try clear q38
               try clear q58
               obtain ⟨kq, x114_56, rfl, HA, HJ56, HB⟩ := hcut
               cases kq with
               | zero => exact absurd HA.out (by simp [remoralaw15_RulesIdle.j2])
               | succ kj56 =>
                have H := HA.out
                clear HA
                simp only [remoralaw15_RulesIdle.j2] at H
                by_cases c83 : x114_56 = true
                ·subst c83
                 have H1 : (some false) = some r := by rw [if_pos rfl] at H; exact H
                 clear H
                 have H := H1
                 clear H1
                 obtain rfl := Option.some.inj H
                 go_wp2
                 go_ret
                 exact ⟨by first | rfl | (simp [errW_none, errW_some] <;> rfl) | (simp only [← hji32]; first | rfl | (simp [errW_none, errW_some] <;> rfl)) | (simp [*, errW_none, errW_some] <;> rfl), by repeat (first | (with_reducible first | exact HB.out | apply below_alloc | apply pw_below_drewN | apply below_drew1) | exact HB.out)⟩
                ·replace c83 := Bool.eq_false_iff.mpr c83
                 subst c83
                 have H1 : ((some (([] : List (S24)) : List (S24))).bind fun y134 => (if y134.length + l0.length < 4398046511104 then ((some (y134 ++ l0 : List (S24))).bind fun y137 => (if y137.length + l1.length < 4398046511104 then ((rules_Act.f kj56 l0 a3 a4 true).bind fun t143 => (if t143 = 0 then (remoralaw15_RulesIdle.j3 kj56 l0 l1 a3 a4 false) else ((rules_Act.f kj56 (y137 ++ l1) a3 a4 true).bind fun t144 => (remoralaw15_RulesIdle.j3 kj56 l0 l1 a3 a4 (t144 != t143))))) else (none))) else (none))) = some r := by rw [if_neg (show ¬ (false = true) by decide)] at H; exact H
                 clear H
                 have H := H1
                 clear H1
                 obtain ⟨y134, hy134⟩ : ∃ y_ : List (S24), y_ = (([] : List (S24))) := ⟨_, rfl⟩
                 replace H : (if y134.length + l0.length < 4398046511104 then ((some (y134 ++ l0 : List (S24))).bind fun y137 => (if y137.length + l1.length < 4398046511104 then ((rules_Act.f kj56 l0 a3 a4 true).bind fun t143 => (if t143 = 0 then (remoralaw15_RulesIdle.j3 kj56 l0 l1 a3 a4 false) else ((rules_Act.f kj56 (y137 ++ l1) a3 a4 true).bind fun t144 => (remoralaw15_RulesIdle.j3 kj56 l0 l1 a3 a4 (t144 != t143))))) else (none))) else (none)) = some r := by first | (rw [hy134]; with_reducible exact H) | (have H2_ := (Option.bind_some _ _).symm.trans H; rw [hy134]; with_reducible exact H2_) | (have H2_ := (Option.bind_some _ _).symm.trans H; with_reducible exact H2_) | with_reducible exact H | (rw [hy134]; exact H) | exact H
                 have Ny134 := Aside0.mk hy134
                 clear hy134
                 by_cases c84 : y134.length + l0.length < 4398046511104
                 ·rw [if_pos c84] at H
                  have LMc84 := Aside0.mk c84
                  clear c84
                  obtain ⟨y137, hy137⟩ : ∃ y_ : List (S24), y_ = (y134 ++ l0) := ⟨_, rfl⟩
                  replace H : (if y137.length + l1.length < 4398046511104 then ((rules_Act.f kj56 l0 a3 a4 true).bind fun t143 => (if t143 = 0 then (remoralaw15_RulesIdle.j3 kj56 l0 l1 a3 a4 false) else ((rules_Act.f kj56 (y137 ++ l1) a3 a4 true).bind fun t144 => (remoralaw15_RulesIdle.j3 kj56 l0 l1 a3 a4 (t144 != t143))))) else (none)) = some r := by first | (rw [hy137]; with_reducible exact H) | (have H2_ := (Option.bind_some _ _).symm.trans H; rw [hy137]; with_reducible exact H2_) | (have H2_ := (Option.bind_some _ _).symm.trans H; with_reducible exact H2_) | with_reducible exact H | (rw [hy137]; exact H) | exact H
                  have Ny137 := Aside0.mk hy137
                  clear hy137
                  by_cases c85 : y137.length + l1.length < 4398046511104
                  ·rw [if_pos c85] at H
                   have LMc85 := Aside0.mk c85
                   clear c85
                   obtain ⟨y140, hy140⟩ : ∃ y_ : List (S24), y_ = (y137 ++ l1) := ⟨_, rfl⟩
                   replace H : ((rules_Act.f kj56 l0 a3 a4 true).bind fun t143 => (if t143 = 0 then (remoralaw15_RulesIdle.j3 kj56 l0 l1 a3 a4 false) else ((rules_Act.f kj56 y140 a3 a4 true).bind fun t144 => (remoralaw15_RulesIdle.j3 kj56 l0 l1 a3 a4 (t144 != t143))))) = some r := by first | (rw [hy140]; with_reducible exact H) | (have H2_ := (Option.bind_some _ _).symm.trans H; rw [hy140]; with_reducible exact H2_) | (have H2_ := (Option.bind_some _ _).symm.trans H; with_reducible exact H2_) | with_reducible exact H | (rw [hy140]; exact H) | exact H
                   have Ny140 := Aside0.mk hy140
                   clear hy140
                   replace H := Option.bind_eq_some_iff.mp H
                   obtain ⟨t143, A860, H⟩ := H
                   replace H : (if t143 = 0 then (remoralaw15_RulesIdle.j3 kj56 l0 l1 a3 a4 false) else ((rules_Act.f kj56 y140 a3 a4 true).bind fun t144 => (remoralaw15_RulesIdle.j3 kj56 l0 l1 a3 a4 (t144 != t143)))) = some r := H
                   have A86 := Aside0.mk A860
                   clear A860
                   have HC87 := Aside0.mk H
                   clear H
                   go_upto_region 16 with (first | ((with_reducible refine gate_dst (N := 115) rfl ?_); (try (refine gate_guard (by rfl) ?_; dsimp only)); refine Kd.R_lit k24 _ 24 ?hg (N := 115) ?hd (xs := ([] : List (S24))) (inner := []) (ok := fun _ => True) (okp := fun _ => True) ?hr ?hp (fun _ hk => hk) trivial (Below.refl _ _) (Nat.le_refl _) (by simp) ?_; (case hd => rfl); (case hg => rfl); (case hr => first | (go_simp; done) | (go_simp; rfl)); (case hp => exact (Reps.none _ _)); intro v135 w88 ho89 hb hg_ hnew_; clear hg_ hnew_; (first | rw [← Ny134.out] at ho89 | (simp only [Int.reduceToNat] at ho89; rw [← Ny134.out] at ho89)); have n0_ := Aside0.mk (Kd.R_lower ho89 (below_size (by repeat (first | (with_reducible first | exact HB.out | apply below_alloc | apply pw_below_drewN | apply below_drew1) | exact HB.out)))); have n1_ := Aside0.mk (below_step (by repeat (first | (with_reducible first | exact HB.out | apply below_alloc | apply pw_below_drewN | apply below_drew1) | exact HB.out)) hb); clear HB; have HO136 := n0_; have HB := n1_; clear n0_ n1_; clear hb ho89) | ((with_reducible refine gate_builtin (b := .append) (xs := #[.tmp 115, .tmp 116]) rfl ?_); (try (refine gate_guard (by rfl) ?_; dsimp only)); at_builtin; refine Kd.R_append_rows k24 (w0 := w) w.heap.size rfl (.tmp 115) (.tmp 116) 28 24 (.agg #[(.int .i64 0), (.string ⟨#[]⟩), (.bool false), (.bool false)]) 32 rfl Tryd.underlying28 info24 rfl (by decide) (by omega) v135 y134 l0 _ _ _ (fun _ => True) (fun _ => False) rfl rfl ?aO ?aR (fun _ _ h => h) (fun _ h => h.elim) ?aF ?aB ?aS ?aL ?_; (case aR => repeat (first | exact (Kd.C_below HR0.out HB.out) | (with_reducible refine Kd.C_alloc ?_ _) | (with_reducible refine Kd.C_drewN ?_ _) | (with_reducible refine Kd.C_drew ?_))); (case aB => exact (by repeat (first | (with_reducible first | exact HB.out | apply below_alloc | apply pw_below_drewN | apply below_drew1) | exact HB.out))); (case aF => exact (fun _ _ => trivial)); (case aO => exact (by (with_reducible repeat (first | apply Kd.R_alloc | apply Kd.R_drewN | apply Kd.R_drew)); exact HO136.out)); (case aS => exact (below_size (by repeat (first | (with_reducible first | exact HB.out | apply below_alloc | apply pw_below_drewN | apply below_drew1) | exact HB.out)))); (case aL => have := LMc84.out; omega); intro v138 w90 ho hb hg hat; rw [← Ny137.out] at ho; have n0_ := Aside0.mk (hb); have n1_ := Aside0.mk (ho); clear HB; clear HO136; have HB := n0_; have HO139 := n1_; clear n0_ n1_; clear ho hb hg hat) | ((with_reducible refine gate_builtin (b := .append) (xs := #[.tmp 117, .tmp 118]) rfl ?_); (try (refine gate_guard (by rfl) ?_; dsimp only)); at_builtin; refine Kd.R_append_rows k24 (w0 := w) w.heap.size rfl (.tmp 117) (.tmp 118) 28 24 (.agg #[(.int .i64 0), (.string ⟨#[]⟩), (.bool false), (.bool false)]) 32 rfl Tryd.underlying28 info24 rfl (by decide) (by omega) v138 y137 l1 _ _ _ (fun _ => True) (fun _ => False) rfl rfl ?aO ?aR (fun _ _ h => h) (fun _ h => h.elim) ?aF ?aB ?aS ?aL ?_; (case aR => repeat (first | exact (Kd.C_below HR1.out HB.out) | (with_reducible refine Kd.C_alloc ?_ _) | (with_reducible refine Kd.C_drewN ?_ _) | (with_reducible refine Kd.C_drew ?_))); (case aB => exact (by repeat (first | (with_reducible first | exact HB.out | apply below_alloc | apply pw_below_drewN | apply below_drew1) | exact HB.out))); (case aF => exact (fun _ _ => trivial)); (case aO => exact (by (with_reducible repeat (first | apply Kd.R_alloc | apply Kd.R_drewN | apply Kd.R_drew)); exact HO139.out)); (case aS => exact (below_size (by repeat (first | (with_reducible first | exact HB.out | apply below_alloc | apply pw_below_drewN | apply below_drew1) | exact HB.out)))); (case aL => have := LMc85.out; omega); intro v141 w91 ho hb hg hat; rw [← Ny140.out] at ho; have n0_ := Aside0.mk (hb); have n1_ := Aside0.mk (ho); clear HB; clear HO139; have HB := n0_; have HO142 := n1_; clear n0_ n1_; clear ho hb hg hat) | ((with_reducible refine gate_callee (f := 19) rfl ?_); refine goesL_ (some 123) rfl rfl Tryd.func19 (by kernel_rfl) rfl #[.slice A0 l0.length c0, .string a3, .bool a4, .bool true] rfl (by (try simp only [List.map_toArray, List.map_cons, List.map_nil]); first | done | rfl | (simp only [List.length_drop, List.length_take]; rfl)) ?_; (with_reducible refine (rules_Act.calls kj56 _ _ l0 a3 a4 true t143 _ ?side1 ?side2 A86.out).mono ?_); (case side1 => repeat (first | exact (Kd.C_below HR0.out HB.out) | (with_reducible refine Kd.C_alloc ?_ _) | (with_reducible refine Kd.C_drewN ?_ _) | (with_reducible refine Kd.C_drew ?_))); (case side2 => exact HC0.out); rintro e w92 ⟨rfl, hb⟩; refine ⟨_, rfl, ?_⟩; have n0_ := Aside0.mk (Kd.R_below (by (with_reducible repeat (first | apply Kd.R_alloc | apply Kd.R_drewN | apply Kd.R_drew)); exact HO142.out) hb); have n1_ := Aside0.mk (below_step (by repeat (first | (with_reducible first | exact HB.out | apply below_alloc | apply pw_below_drewN | apply below_drew1) | exact HB.out)) hb); clear HO142; clear HB; have HO142 := n0_; have HB := n1_; clear n0_ n1_; (try clear hb); (try clear hb2); (try clear hk); (try clear hi)))
                   (try simp only [Act.put, List.setIfInBounds_toArray, List.set_cons_zero, List.set_cons_succ])
                   go_cut [133] (fun v133 wc => ∃ (kq : Nat) (x133_86 : Bool), v133 = .bool x133_86 ∧ Aside0 (remoralaw15_RulesIdle.j3 kq l0 l1 a3 a4 x133_86 = some r) ∧ Aside0 (kq ≤ kj56) ∧ Aside0 (Below w.heap.size w wc))
                   case first =>
                    have H := HC87.out
                    clear HC87
                    by_cases c93 : t143 = 0
                    ·rw [if_pos c93] at H
                     have c93b0 : (t143 == 0) = true := beq_iff_eq.mpr c93
                     have c93b1 : (t143 != 0) = false := bne_eq_false_iff_eq.mpr c93
                     clear c93
                     (first | rw [c93b0] | (simp only [i64_w, i32_w]; rw [c93b0]) | skip)
                     have H' := Aside0.mk H
                     clear H
                     go_wp2
                     go_meet
                     case rel => exact ⟨_, (false), (by first | rfl | (simp; done) | (simp [*]; done)), H', ⟨by have := HJ5.out; have := HK2.out; have := HJ56.out; first | omega | exact Nat.le_refl _⟩, ⟨by repeat (first | (with_reducible first | exact HB.out | apply below_alloc | apply pw_below_drewN | apply below_drew1) | exact HB.out)⟩⟩
                    ·rw [if_neg c93] at H
                     have c93b0 : (t143 == 0) = false := beq_eq_false_iff_ne.mpr c93
                     have c93b1 : (t143 != 0) = true := bne_iff_ne.mpr c93
                     (first | rw [c93b0] | (simp only [i64_w, i32_w]; rw [c93b0]) | skip)
                     replace H := Option.bind_eq_some_iff.mp H
                     obtain ⟨t144, A940, H⟩ := H
                     replace H : (remoralaw15_RulesIdle.j3 kj56 l0 l1 a3 a4 (t144 != t143)) = some r := H
                     have A94 := Aside0.mk A940
                     clear A940
                     have H' := Aside0.mk H
                     clear H
                     obtain ⟨Ao95, co95, eo95⟩ := Kd.R_slice HO142.out
                     subst eo95
                     go_wp2_with (first | (go_at_call 19; (with_reducible refine (rules_Act.calls kj56 _ _ y140 a3 a4 true t144 _ ?side1 ?side2 A94.out).mono ?_); (case side1 => repeat (first | exact (Kd.R_reads' HO142.out).2.2 | (with_reducible refine Kd.C_alloc ?_ _) | (with_reducible refine Kd.C_drewN ?_ _) | (with_reducible refine Kd.C_drew ?_))); (case side2 => exact (Kd.R_reads' HO142.out).2.1); rintro e w96 ⟨rfl, hb⟩; have n0_ := Aside0.mk (Kd.R_below (by (with_reducible repeat (first | apply Kd.R_alloc | apply Kd.R_drewN | apply Kd.R_drew)); exact HO142.out) hb); have n1_ := Aside0.mk (below_step (by repeat (first | (with_reducible first | exact HB.out | apply below_alloc | apply pw_below_drewN | apply below_drew1) | exact HB.out)) hb); clear HO142; clear HB; have HO142 := n0_; have HB := n1_; clear n0_ n1_; (try clear hb); (try clear hb2); (try clear hk); (try clear hi)))
                     go_meet
                     case rel => exact ⟨_, ((t144 != t143)), (by first | rfl | (simp; done) | (simp [*]; done)), H', ⟨by have := HJ5.out; have := HK2.out; have := HJ56.out; first | omega | exact Nat.le_refl _⟩, ⟨by repeat (first | (with_reducible first | exact HB.out | apply below_alloc | apply pw_below_drewN | apply below_drew1) | exact HB.out)⟩⟩
                   case rest =>
                    clear HC87
                    try clear c1
                    try clear p1
                    try clear q1
                    try clear hx1
                    try clear c2
                    try clear p2
                    try clear c3
                    try clear q3
                    try clear c4
                    try clear c5
                    try clear q5
                    try clear c6
                    try clear p6
                    try clear c8
                    try clear c9
                    try clear c10
                    try clear c11
                    try clear c11b0
                    try clear p11
                    try clear q11
                    try clear hx11
                    try clear c14
                    try clear c14b0
                    try clear c14b1
                    try clear c16
                    try clear c17
                    try clear c18
                    try clear c19
                    try clear c28
                    try clear c31
                    try clear c31b0
                    try clear c31b1
                    try clear c33
                    try clear c33b0
                    try clear c33b1
                    try clear c34
                    try clear c34b0
                    try clear c34b1
                    try clear c35
                    try clear q38
                    try clear c40
                    try clear c40b0
                    try clear c41
                    try clear c41b0
                    try clear c42
                    try clear c42b0
                    try clear c44
                    try clear c48
                    try clear c54
                    try clear c54b0
                    try clear c54b1
                    try clear c55
                    try clear c55b0
                    try clear c55b1
                    try clear c56
                    try clear c58
                    try clear q58
                    try clear c62
                    try clear c62b0
                    try clear c62b1
                    try clear p64
                    try clear c65
                    try clear c65b0
                    try clear c65b1
                    try clear c83
                    try clear c84
                    try clear c85
                    try clear c93
                    try clear c93b0
                    try clear c93b1
                    try clear hcz46_0
                    try clear hcz46_1
                    try clear hcz46_2
                    try clear hcz46_3
                    try clear hcz50_0
                    try clear hcz50_1
                    try clear hcz50_2
                    try clear hcz50_3
                    try clear hcz52_0
                    try clear hcz52_1
                    try clear hcz52_2
                    try clear hcz52_3
                    try clear hfz46_0
                    try clear hfz46_1
                    try clear hfz46_2
                    try clear hfz46_3
                    try clear hfz50_0
                    try clear hfz50_1
                    try clear hfz50_2
                    try clear hfz50_3
                    try clear hfz52_0
                    try clear hfz52_1
                    try clear hfz52_2
                    try clear hfz52_3
                    try clear hx115_0
                    try clear hx115_1
                    try clear hx115_2
                    try clear hx115_3
                    try clear p1
                    try clear p11
                    try clear p115
                    try clear p2
                    try clear p6
                    try clear p64
                    try clear q058
                    try clear q1
                    try clear q11
                    try clear q115
                    try clear q3
                    try clear q38
                    try clear q5
                    try clear q58
                    obtain ⟨kq, x133_86, rfl, HA, HJ86, HB⟩ := hcut
                    cases kq with
                    | zero => exact absurd HA.out (by simp [remoralaw15_RulesIdle.j3])
                    | succ kj86 =>
                     have H := HA.out
                     clear HA
                     simp only [remoralaw15_RulesIdle.j3] at H
                     by_cases c97 : x133_86 = true
                     ·subst c97
                      have H1 : (some false) = some r := by rw [if_pos rfl] at H; exact H
                      clear H
                      have H := H1
                      clear H1
                      obtain rfl := Option.some.inj H
                      go_wp2
                      go_ret
                      exact ⟨by first | rfl | (simp [errW_none, errW_some] <;> rfl) | (simp only [← hji32]; first | rfl | (simp [errW_none, errW_some] <;> rfl)) | (simp [*, errW_none, errW_some] <;> rfl), by repeat (first | (with_reducible first | exact HB.out | apply below_alloc | apply pw_below_drewN | apply below_drew1) | exact HB.out)⟩
                     ·replace c97 := Bool.eq_false_iff.mpr c97
                      subst c97
                      have H1 : ((some (([] : List (S24)) : List (S24))).bind fun y145 => (if y145.length + l0.length < 4398046511104 then (remoralaw15_RulesIdle.l1 kj86 l0 a3 a4 (y145 ++ l0) l1 (l1.length : Int) 0) else (none))) = some r := by rw [if_neg (show ¬ (false = true) by decide)] at H; exact H
                      clear H
                      have H := H1
                      clear H1
                      obtain ⟨y145, hy145⟩ : ∃ y_ : List (S24), y_ = (([] : List (S24))) := ⟨_, rfl⟩
                      replace H : (if y145.length + l0.length < 4398046511104 then (remoralaw15_RulesIdle.l1 kj86 l0 a3 a4 (y145 ++ l0) l1 (l1.length : Int) 0) else (none)) = some r := by first | (rw [hy145]; with_reducible exact H) | (have H2_ := (Option.bind_some _ _).symm.trans H; rw [hy145]; with_reducible exact H2_) | (have H2_ := (Option.bind_some _ _).symm.trans H; with_reducible exact H2_) | with_reducible exact H | (rw [hy145]; exact H) | exact H
                      have Ny145 := Aside0.mk hy145
                      clear hy145
                      by_cases c98 : y145.length + l0.length < 4398046511104
                      ·rw [if_pos c98] at H
                       have LMc98 := Aside0.mk c98
                       clear c98
                       obtain ⟨y148, hy148⟩ : ∃ y_ : List (S24), y_ = (y145 ++ l0) := ⟨_, rfl⟩
                       replace H : (remoralaw15_RulesIdle.l1 kj86 l0 a3 a4 y148 l1 (l1.length : Int) 0) = some r := by first | (rw [hy148]; with_reducible exact H) | (have H2_ := (Option.bind_some _ _).symm.trans H; rw [hy148]; with_reducible exact H2_) | (have H2_ := (Option.bind_some _ _).symm.trans H; with_reducible exact H2_) | with_reducible exact H | (rw [hy148]; exact H) | exact H
                       have Ny148 := Aside0.mk hy148
                       clear hy148
                       have H' := Aside0.mk H
                       clear H
                       go_wp2_with (first | ((with_reducible refine gate_dst (N := 134) rfl ?_); (try (refine gate_guard (by rfl) ?_; dsimp only)); refine Kd.R_lit k24 _ 24 ?hg (N := 134) ?hd (xs := ([] : List (S24))) (inner := []) (ok := fun _ => True) (okp := fun _ => True) ?hr ?hp (fun _ hk => hk) trivial (Below.refl _ _) (Nat.le_refl _) (by simp) ?_; (case hd => rfl); (case hg => rfl); (case hr => first | (go_simp; done) | (go_simp; rfl)); (case hp => exact (Reps.none _ _)); intro v146 w99 ho100 hb hg_ hnew_; clear hg_ hnew_; (first | rw [← Ny145.out] at ho100 | (simp only [Int.reduceToNat] at ho100; rw [← Ny145.out] at ho100)); have n0_ := Aside0.mk (Kd.R_lower ho100 (below_size (by repeat (first | (with_reducible first | exact HB.out | apply below_alloc | apply pw_below_drewN | apply below_drew1) | exact HB.out)))); have n1_ := Aside0.mk (below_step (by repeat (first | (with_reducible first | exact HB.out | apply below_alloc | apply pw_below_drewN | apply below_drew1) | exact HB.out)) hb); clear HB; have HO147 := n0_; have HB := n1_; clear n0_ n1_; clear hb ho100) | ((with_reducible refine gate_builtin (b := .append) (xs := #[.tmp 134, .tmp 135]) rfl ?_); (try (refine gate_guard (by rfl) ?_; dsimp only)); at_builtin; refine Kd.R_append_rows k24 (w0 := w) w.heap.size rfl (.tmp 134) (.tmp 135) 28 24 (.agg #[(.int .i64 0), (.string ⟨#[]⟩), (.bool false), (.bool false)]) 32 rfl Tryd.underlying28 info24 rfl (by decide) (by omega) v146 y145 l0 _ _ _ (fun _ => True) (fun _ => False) rfl rfl ?aO ?aR (fun _ _ h => h) (fun _ h => h.elim) ?aF ?aB ?aS ?aL ?_; (case aR => repeat (first | exact (Kd.C_below HR0.out HB.out) | (with_reducible refine Kd.C_alloc ?_ _) | (with_reducible refine Kd.C_drewN ?_ _) | (with_reducible refine Kd.C_drew ?_))); (case aB => exact (by repeat (first | (with_reducible first | exact HB.out | apply below_alloc | apply pw_below_drewN | apply below_drew1) | exact HB.out))); (case aF => exact (fun _ _ => trivial)); (case aO => exact (by (with_reducible repeat (first | apply Kd.R_alloc | apply Kd.R_drewN | apply Kd.R_drew)); exact HO147.out)); (case aS => exact (below_size (by repeat (first | (with_reducible first | exact HB.out | apply below_alloc | apply pw_below_drewN | apply below_drew1) | exact HB.out)))); (case aL => have := LMc98.out; omega); intro v149 w101 ho hb hg hat; rw [← Ny148.out] at ho; have n0_ := Aside0.mk (hb); have n1_ := Aside0.mk (ho); clear HB; clear HO147; have HB := n0_; have HO150 := n1_; clear n0_ n1_; clear ho hb hg hat))
                       go_loopg [17, 139] kj86 (fun kq v17 v139 w' => ∃ (x17_5 : List (S24)) (x139_5 : Int), v139 = .int .i64 x139_5 ∧ Aside0 (remoralaw15_RulesIdle.l1 kq l0 a3 a4 x17_5 l1 (l1.length : Int) x139_5 = some r) ∧ Aside0 (kq ≤ kj86) ∧ Aside0 (Kd.R k24 24 w' w.heap.size (fun _ => True) v17 x17_5) ∧ Aside0 (Below w.heap.size w w'))
                       case atStart => exact ⟨(y148), (0), (by first | rfl | (simp; done) | (simp [*]; done)), H', ⟨Nat.le_refl _⟩, ⟨by (with_reducible repeat (first | apply Kd.R_alloc | apply Kd.R_drewN | apply Kd.R_drew)); exact HO150.out⟩, ⟨by repeat (first | (with_reducible first | exact HB.out | apply below_alloc | apply pw_below_drewN | apply below_drew1) | exact HB.out)⟩⟩
                       case round =>
                        clear H'
                        try clear c1
                        try clear p1
                        try clear q1
                        try clear hx1
                        try clear c2
                        try clear p2
                        try clear c3
                        try clear q3
                        try clear c4
                        try clear c5
                        try clear q5
                        try clear c6
                        try clear p6
                        try clear c8
                        try clear c9
                        try clear c10
                        try clear c11
                        try clear c11b0
                        try clear p11
                        try clear q11
                        try clear hx11
                        try clear c14
                        try clear c14b0
                        try clear c14b1
                        try clear c16
                        try clear c17
                        try clear c18
                        try clear c19
                        try clear c28
                        try clear c31
                        try clear c31b0
                        try clear c31b1
                        try clear c33
                        try clear c33b0
                        try clear c33b1
                        try clear c34
                        try clear c34b0
                        try clear c34b1
                        try clear c35
                        try clear q38
                        try clear c40
                        try clear c40b0
                        try clear c41
                        try clear c41b0
                        try clear c42
                        try clear c42b0
                        try clear c44
                        try clear c48
                        try clear c54
                        try clear c54b0
                        try clear c54b1
                        try clear c55
                        try clear c55b0
                        try clear c55b1
                        try clear c56
                        try clear c58
                        try clear q58
                        try clear c62
                        try clear c62b0
                        try clear c62b1
                        try clear p64
                        try clear c65
                        try clear c65b0
                        try clear c65b1
                        try clear c83
                        try clear c84
                        try clear c85
                        try clear c93
                        try clear c93b0
                        try clear c93b1
                        try clear c97
                        try clear c98
                        try clear hcz46_0
                        try clear hcz46_1
                        try clear hcz46_2
                        try clear hcz46_3
                        try clear hcz50_0
                        try clear hcz50_1
                        try clear hcz50_2
                        try clear hcz50_3
                        try clear hcz52_0
                        try clear hcz52_1
                        try clear hcz52_2
                        try clear hcz52_3
                        try clear hfz46_0
                        try clear hfz46_1
                        try clear hfz46_2
                        try clear hfz46_3
                        try clear hfz50_0
                        try clear hfz50_1
                        try clear hfz50_2
                        try clear hfz50_3
                        try clear hfz52_0
                        try clear hfz52_1
                        try clear hfz52_2
                        try clear hfz52_3
                        try clear hx115_0
                        try clear hx115_1
                        try clear hx115_2
                        try clear hx115_3
                        try clear p1
                        try clear p11
                        try clear p115
                        try clear p2
                        try clear p6
                        try clear p64
                        try clear q058
                        try clear q1
                        try clear q11
                        try clear q115
                        try clear q3
                        try clear q38
                        try clear q5
                        try clear q58
                        obtain ⟨x17_5, x139_5, rfl, HA, HK5, HO_17, HB⟩ := hrel
                        cases gk with
                        | zero => exact absurd HA.out (by simp [remoralaw15_RulesIdle.l1])
                        | succ k5 =>
                         have H := HA.out
                         clear HA
                         simp only [remoralaw15_RulesIdle.l1] at H
                         by_cases c102 : x139_5 < (l1.length : Int)
                         ·rw [if_pos c102] at H
                          have c102b0 : decide (x139_5 < (l1.length : Int)) = true := decide_eq_true c102
                          clear c102
                          by_cases c103 : 0 ≤ x139_5
                          ·rw [if_pos c103] at H
                           have c103b0 : decide (0 ≤ x139_5) = true := decide_eq_true c103
                           clear c103
                           by_cases c104 : x139_5 < (l1.length : Int)
                           ·rw [if_pos c104] at H
                            have c104b0 : decide (x139_5 < (l1.length : Int)) = true := decide_eq_true c104
                            clear c104
                            obtain ⟨y153, hy153⟩ : ∃ y_ : List (S24), y_ = (([(⟨3, (rd_T24 l1 x139_5).f1, (rd_T24 l1 x139_5).f2, (rd_T24 l1 x139_5).f3⟩ : S24)] : List (S24))) := ⟨_, rfl⟩
                            replace H : (if y153.length + x17_5.length < 4398046511104 then (remoralaw15_RulesIdle.l1 k5 l0 a3 a4 (y153 ++ x17_5) l1 (l1.length : Int) (wrap64 (x139_5 + 1))) else (none)) = some r := by first | (rw [hy153]; with_reducible exact H) | (have H2_ := (Option.bind_some _ _).symm.trans H; rw [hy153]; with_reducible exact H2_) | (have H2_ := (Option.bind_some _ _).symm.trans H; with_reducible exact H2_) | with_reducible exact H | (rw [hy153]; exact H) | exact H
                            have Ny153 := Aside0.mk hy153
                            clear hy153
                            by_cases c105 : y153.length + x17_5.length < 4398046511104
                            ·rw [if_pos c105] at H
                             have LMc105 := Aside0.mk c105
                             clear c105
                             obtain ⟨y156, hy156⟩ : ∃ y_ : List (S24), y_ = (y153 ++ x17_5) := ⟨_, rfl⟩
                             replace H : (remoralaw15_RulesIdle.l1 k5 l0 a3 a4 y156 l1 (l1.length : Int) (wrap64 (x139_5 + 1))) = some r := by first | (rw [hy156]; with_reducible exact H) | (have H2_ := (Option.bind_some _ _).symm.trans H; rw [hy156]; with_reducible exact H2_) | (have H2_ := (Option.bind_some _ _).symm.trans H; with_reducible exact H2_) | with_reducible exact H | (rw [hy156]; exact H) | exact H
                             have Ny156 := Aside0.mk hy156
                             clear hy156
                             have H' := Aside0.mk H
                             clear H
                             have p151 : 0 ≤ (x139_5 : Int) := of_decide_eq_true (by first | (with_reducible assumption) | assumption)
                             have q151 : x139_5 < (l1.length : Int) := of_decide_eq_true (by first | (with_reducible assumption) | assumption)
                             obtain ⟨ad151, e151, hx151_0, hx151_1, hx151_2, hx151_3⟩ := at_T24 HR1.out x139_5 p151 q151
                             cases e151
                             replace hx151_0 := (HB.out.cell (World.block_lt_of_cell? w _ hx151_0)).trans hx151_0
                             replace hx151_1 := (HB.out.cell (World.block_lt_of_cell? w _ hx151_1)).trans hx151_1
                             replace hx151_2 := (HB.out.cell (World.block_lt_of_cell? w _ hx151_2)).trans hx151_2
                             replace hx151_3 := (HB.out.cell (World.block_lt_of_cell? w _ hx151_3)).trans hx151_3
                             replace p151 := eq_true p151
                             replace q151 := eq_true q151
                             go_wp2_with (first | ((with_reducible refine gate_dst (N := 19) rfl ?_); (try (refine gate_guard (by rfl) ?_; dsimp only)); refine box_event ?hg (N := 19) ?hd (cs := #[.int .i64 0, .string (⟨#[]⟩ : ByteArray), .bool false, .bool false]) (t := 24) ?hr ?_; (case hd => rfl); (case hg => rfl); (case hr => first | (go_simp; done) | (go_simp; rfl)); intro gb152 hg w106 hbox hb; have n0_ := Aside0.mk (Kd.R_below (Kd.R_elderB (by (with_reducible repeat (first | apply Kd.R_alloc | apply Kd.R_drewN | apply Kd.R_drew)); exact HO_17.out) gb152 (Nat.le_of_eq hg.symm)) hb); have n1_ := Aside0.mk (below_step (by repeat (first | (with_reducible first | exact HB.out | apply below_alloc | apply pw_below_drewN | apply below_drew1) | exact HB.out)) hb); have n2_ := Aside0.mk (hbox); have n3_ := Aside0.mk ((by rw [hg]; exact (below_size (by repeat (first | (with_reducible first | exact HB.out | apply below_alloc | apply pw_below_drewN | apply below_drew1) | exact HB.out))) : w.heap.size ≤ gb152)); have n4_ := Aside0.mk ((by rw [hg]; exact (below_size (by repeat (first | (with_reducible first | exact HB.out | apply below_alloc | apply pw_below_drewN | apply below_drew1) | exact HB.out))) : w.heap.size ≤ gb152)); clear HO_17; clear HB; have HO_17 := n0_; have HB := n1_; have BK152 := n2_; have GW152 := n3_; have GE152 := n4_; clear n0_ n1_ n2_ n3_ n4_; clear hb hbox hg; have hcz107_0 : w106.cell? ⟨gb152, 0, none⟩ = some (.int .i64 0) := (blk_cell BK152.out 0).trans rfl; have hcz107_1 : w106.cell? ⟨gb152, 1, none⟩ = some (.string (⟨#[]⟩ : ByteArray)) := (blk_cell BK152.out 1).trans rfl; have hcz107_2 : w106.cell? ⟨gb152, 2, none⟩ = some (.bool false) := (blk_cell BK152.out 2).trans rfl; have hcz107_3 : w106.cell? ⟨gb152, 3, none⟩ = some (.bool false) := (blk_cell BK152.out 3).trans rfl; have hfz107_0 := blk_frozen BK152.out 0; have hfz107_1 := blk_frozen BK152.out 1; have hfz107_2 := blk_frozen BK152.out 2; have hfz107_3 := blk_frozen BK152.out 3) | ((with_reducible refine gate_dst (N := 145) rfl ?_); (try (refine gate_guard (by rfl) ?_; dsimp only)); refine Kd.R_lit k24 _ 24 ?hg (N := 145) ?hd (xs := ([(⟨3, (rd_T24 l1 x139_5).f1, (rd_T24 l1 x139_5).f2, (rd_T24 l1 x139_5).f3⟩ : S24)] : List (S24))) (inner := [.int .i64 3, .string ((rd_T24 l1 x139_5).f1), .bool ((rd_T24 l1 x139_5).f2), .bool ((rd_T24 l1 x139_5).f3)]) (ok := fun _ => True) (okp := fun _ => True) ?hr ?hp (fun _ hk => hk) trivial (Below.refl _ _) (Nat.le_refl _) (by simp) ?_; (case hd => rfl); (case hg => rfl); (case hr => first | (go_simp; done) | (go_simp; rfl)); (case hp => exact (Reps.c4 (show Kd.M k24 _ _ _ (⟨3, (rd_T24 l1 x139_5).f1, (rd_T24 l1 x139_5).f2, (rd_T24 l1 x139_5).f3⟩ : S24) [.int .i64 3, .string ((rd_T24 l1 x139_5).f1), .bool ((rd_T24 l1 x139_5).f2), .bool ((rd_T24 l1 x139_5).f3)] from (k24_mkM _ _ _ (⟨3, (rd_T24 l1 x139_5).f1, (rd_T24 l1 x139_5).f2, (rd_T24 l1 x139_5).f3⟩ : S24) )) (Reps.none _ _))); intro v154 w108 ho109 hb hg_ hnew_; clear hg_ hnew_; (first | rw [← Ny153.out] at ho109 | (simp only [Int.reduceToNat] at ho109; rw [← Ny153.out] at ho109)); have n0_ := Aside0.mk (Kd.R_elder' (by (with_reducible repeat (first | apply Kd.R_alloc | apply Kd.R_drewN | apply Kd.R_drew)); exact (Kd.R_mono (Kd.R_far (p := ⟨gb152, 0, none⟩) (Kd.R_far (p := ⟨gb152, 3, none⟩) (Kd.R_far (p := ⟨gb152, 2, none⟩) (Kd.R_far (p := ⟨gb152, 1, none⟩) (Kd.R_far (p := ⟨gb152, 0, none⟩) (Kd.R_mono HO_17.out (fun k_ hk => (⟨hk, hk.2⟩ : _ ∧ k_ ≠ gb152))) (fun _ hk => hk.2) (.int .i64 ((rd_T24 l1 x139_5).f0))) (fun _ hk => hk.2) (.string ((rd_T24 l1 x139_5).f1))) (fun _ hk => hk.2) (.bool ((rd_T24 l1 x139_5).f2))) (fun _ hk => hk.2) (.bool ((rd_T24 l1 x139_5).f3))) (fun _ hk => hk.2) (.int .i64 3)) (fun _ h_ => h_.1))) (Kd.R_base ho109) hb); have n1_ := Aside0.mk (Kd.R_lower (Kd.R_newB (Kd.R_new' ho109 (Kd.R_lt (by (with_reducible repeat (first | apply Kd.R_alloc | apply Kd.R_drewN | apply Kd.R_drew)); exact (Kd.R_mono (Kd.R_far (p := ⟨gb152, 0, none⟩) (Kd.R_far (p := ⟨gb152, 3, none⟩) (Kd.R_far (p := ⟨gb152, 2, none⟩) (Kd.R_far (p := ⟨gb152, 1, none⟩) (Kd.R_far (p := ⟨gb152, 0, none⟩) (Kd.R_mono HO_17.out (fun k_ hk => (⟨hk, hk.2⟩ : _ ∧ k_ ≠ gb152))) (fun _ hk => hk.2) (.int .i64 ((rd_T24 l1 x139_5).f0))) (fun _ hk => hk.2) (.string ((rd_T24 l1 x139_5).f1))) (fun _ hk => hk.2) (.bool ((rd_T24 l1 x139_5).f2))) (fun _ hk => hk.2) (.bool ((rd_T24 l1 x139_5).f3))) (fun _ hk => hk.2) (.int .i64 3)) (fun _ h_ => h_.1))))) (g := gb152) (o := .cells #[.int .i64 3, .string ((rd_T24 l1 x139_5).f1), .bool ((rd_T24 l1 x139_5).f2), .bool ((rd_T24 l1 x139_5).f3)] 24 (0, 0)) (by (with_reducible repeat (first | refine blk_drewN ?_ _ | refine blk_drew ?_ | refine blk_alloc ?_ _)); refine blk_put (cs := #[.int .i64 ((rd_T24 l1 x139_5).f0), .string ((rd_T24 l1 x139_5).f1), .bool ((rd_T24 l1 x139_5).f2), .bool ((rd_T24 l1 x139_5).f3)]) ?_ 0 _ rfl; (with_reducible repeat (first | refine blk_drewN ?_ _ | refine blk_drew ?_ | refine blk_alloc ?_ _)); refine blk_put (cs := #[.int .i64 ((rd_T24 l1 x139_5).f0), .string ((rd_T24 l1 x139_5).f1), .bool ((rd_T24 l1 x139_5).f2), .bool false]) ?_ 3 _ rfl; (with_reducible repeat (first | refine blk_drewN ?_ _ | refine blk_drew ?_ | refine blk_alloc ?_ _)); refine blk_put (cs := #[.int .i64 ((rd_T24 l1 x139_5).f0), .string ((rd_T24 l1 x139_5).f1), .bool false, .bool false]) ?_ 2 _ rfl; (with_reducible repeat (first | refine blk_drewN ?_ _ | refine blk_drew ?_ | refine blk_alloc ?_ _)); refine blk_put (cs := #[.int .i64 ((rd_T24 l1 x139_5).f0), .string (⟨#[]⟩ : ByteArray), .bool false, .bool false]) ?_ 1 _ rfl; (with_reducible repeat (first | refine blk_drewN ?_ _ | refine blk_drew ?_ | refine blk_alloc ?_ _)); refine blk_put (cs := #[.int .i64 0, .string (⟨#[]⟩ : ByteArray), .bool false, .bool false]) ?_ 0 _ rfl; (with_reducible repeat (first | refine blk_drewN ?_ _ | refine blk_drew ?_ | refine blk_alloc ?_ _)); exact BK152.out)) (below_size (by repeat (first | (with_reducible first | exact HB.out | apply below_alloc | apply pw_below_drewN | apply below_drew1 | refine below_set ?_ GE152.out) | exact HB.out)))); have n2_ := Aside0.mk (blk_below (g := gb152) (o := .cells #[.int .i64 3, .string ((rd_T24 l1 x139_5).f1), .bool ((rd_T24 l1 x139_5).f2), .bool ((rd_T24 l1 x139_5).f3)] 24 (0, 0)) (by (with_reducible repeat (first | refine blk_drewN ?_ _ | refine blk_drew ?_ | refine blk_alloc ?_ _)); refine blk_put (cs := #[.int .i64 ((rd_T24 l1 x139_5).f0), .string ((rd_T24 l1 x139_5).f1), .bool ((rd_T24 l1 x139_5).f2), .bool ((rd_T24 l1 x139_5).f3)]) ?_ 0 _ rfl; (with_reducible repeat (first | refine blk_drewN ?_ _ | refine blk_drew ?_ | refine blk_alloc ?_ _)); refine blk_put (cs := #[.int .i64 ((rd_T24 l1 x139_5).f0), .string ((rd_T24 l1 x139_5).f1), .bool ((rd_T24 l1 x139_5).f2), .bool false]) ?_ 3 _ rfl; (with_reducible repeat (first | refine blk_drewN ?_ _ | refine blk_drew ?_ | refine blk_alloc ?_ _)); refine blk_put (cs := #[.int .i64 ((rd_T24 l1 x139_5).f0), .string ((rd_T24 l1 x139_5).f1), .bool false, .bool false]) ?_ 2 _ rfl; (with_reducible repeat (first | refine blk_drewN ?_ _ | refine blk_drew ?_ | refine blk_alloc ?_ _)); refine blk_put (cs := #[.int .i64 ((rd_T24 l1 x139_5).f0), .string (⟨#[]⟩ : ByteArray), .bool false, .bool false]) ?_ 1 _ rfl; (with_reducible repeat (first | refine blk_drewN ?_ _ | refine blk_drew ?_ | refine blk_alloc ?_ _)); refine blk_put (cs := #[.int .i64 0, .string (⟨#[]⟩ : ByteArray), .bool false, .bool false]) ?_ 0 _ rfl; (with_reducible repeat (first | refine blk_drewN ?_ _ | refine blk_drew ?_ | refine blk_alloc ?_ _)); exact BK152.out) hb); have n3_ := Aside0.mk (below_step (by repeat (first | (with_reducible first | exact HB.out | apply below_alloc | apply pw_below_drewN | apply below_drew1 | refine below_set ?_ GE152.out) | exact HB.out)) hb); clear HO_17; clear BK152; clear HB; have HO_17 := n0_; have HO155 := n1_; have BK152 := n2_; have HB := n3_; clear n0_ n1_ n2_ n3_; clear hb ho109; obtain ⟨Ao111, co111, eo111⟩ := Kd.R_slice HO_17.out; subst eo111) | ((with_reducible refine gate_builtin (b := .append) (xs := #[.tmp 145, .tmp 146]) rfl ?_); (try (refine gate_guard (by rfl) ?_; dsimp only)); at_builtin; refine Kd.R_append_rows k24 (w0 := w) w.heap.size rfl (.tmp 145) (.tmp 146) 28 24 (.agg #[(.int .i64 0), (.string ⟨#[]⟩), (.bool false), (.bool false)]) 32 rfl Tryd.underlying28 info24 rfl (by decide) (by omega) v154 y153 x17_5 _ _ _ (fun k_ => some k_ ≠ (.slice Ao111 x17_5.length co111 : Value).ownBlock ∧ k_ ≠ gb152) (fun _ => False) rfl rfl ?aO ?aR (fun _ _ h => h) (fun _ h => h.elim) ?aF ?aB ?aS ?aL ?_; (case aR => repeat (first | exact (Kd.R_reads' HO_17.out).2.2 | (with_reducible refine Kd.C_alloc ?_ _) | (with_reducible refine Kd.C_drewN ?_ _) | (with_reducible refine Kd.C_drew ?_))); (case aB => exact (by repeat (first | (with_reducible first | exact HB.out | apply below_alloc | apply pw_below_drewN | apply below_drew1 | refine below_set ?_ GE152.out) | exact HB.out))); (case aF => exact (fun k_ hk => ⟨Kd.fresh' (Kd.R_lt (by (with_reducible repeat (first | apply Kd.R_alloc | apply Kd.R_drewN | apply Kd.R_drew)); exact HO_17.out)) k_ hk, Kd.freshB (g := gb152) (o := .cells #[.int .i64 3, .string ((rd_T24 l1 x139_5).f1), .bool ((rd_T24 l1 x139_5).f2), .bool ((rd_T24 l1 x139_5).f3)] 24 (0, 0)) (by (with_reducible repeat (first | refine blk_drewN ?_ _ | refine blk_drew ?_ | refine blk_alloc ?_ _)); exact BK152.out) k_ hk⟩)); (case aO => exact (by (with_reducible repeat (first | apply Kd.R_alloc | apply Kd.R_drewN | apply Kd.R_drew)); exact Kd.R_mono HO155.out (fun _ hk => ⟨hk.1.2, hk.2⟩))); (case aS => exact (below_size (by repeat (first | (with_reducible first | exact HB.out | apply below_alloc | apply pw_below_drewN | apply below_drew1 | refine below_set ?_ GE152.out) | exact HB.out)))); (case aL => have := LMc105.out; omega); intro v157 w110 ho hb hg hat; rw [← Ny156.out] at ho; have n0_ := Aside0.mk (Kd.R_after (ok := (fun k_ => k_ ≠ gb152)) (by (with_reducible repeat (first | apply Kd.R_alloc | apply Kd.R_drewN | apply Kd.R_drew)); exact Kd.R_mono HO_17.out (fun _ hk => ⟨hk.1.2, hk.2⟩)) hg hat); have n1_ := Aside0.mk (blk_grown (g := gb152) (o := .cells #[.int .i64 3, .string ((rd_T24 l1 x139_5).f1), .bool ((rd_T24 l1 x139_5).f2), .bool ((rd_T24 l1 x139_5).f3)] 24 (0, 0)) (by (with_reducible repeat (first | refine blk_drewN ?_ _ | refine blk_drew ?_ | refine blk_alloc ?_ _)); exact BK152.out) hg (Kd.R_away HO155.out (fun _ hk => hk.2))); have n2_ := Aside0.mk (hb); have n3_ := Aside0.mk (ho); clear HO_17; clear BK152; clear HB; clear HO155; have HO_17 := n0_; have BK152 := n1_; have HB := n2_; have HO158 := n3_; clear n0_ n1_ n2_ n3_; clear ho hb hg hat))
                             go_roundg k5
                             case measure => have := HJ5.out; have := HK2.out; have := HJ56.out; have := HJ86.out; have := HK5.out; omega
                             case rel => exact ⟨(y156), (wrap64 (x139_5 + 1)), (by first | rfl | (simp; done) | (simp [*]; done)), H', ⟨by have := HJ5.out; have := HK2.out; have := HJ56.out; have := HJ86.out; have := HK5.out; omega⟩, ⟨by (with_reducible repeat (first | apply Kd.R_alloc | apply Kd.R_drewN | apply Kd.R_drew)); exact Kd.R_mono HO158.out (fun _ hk => trivial)⟩, ⟨by repeat (first | (with_reducible first | exact HB.out | apply below_alloc | apply pw_below_drewN | apply below_drew1 | refine below_set ?_ GE152.out) | exact HB.out)⟩⟩
                            ·rw [if_neg c105] at H
                             exact absurd H (by simp)
                           ·rw [if_neg c104] at H
                            exact absurd H (by simp)
                          ·rw [if_neg c103] at H
                           exact absurd H (by simp)
                         ·rw [if_neg c102] at H
                          have c102b0 : decide (x139_5 < (l1.length : Int)) = false := decide_eq_false c102
                          clear c102
                          replace H := Option.bind_eq_some_iff.mp H
                          obtain ⟨t159, A1120, H⟩ := H
                          replace H : ((rules_Hidden.f k5 l0 a3 a4).bind fun t160 => (if (t159 == t160) = true then ((remoralaw15_awake.f).bind fun t161 => (some t161)) else (some false))) = some r := H
                          have A112 := Aside0.mk A1120
                          clear A1120
                          replace H := Option.bind_eq_some_iff.mp H
                          obtain ⟨t160, A1130, H⟩ := H
                          replace H : (if (t159 == t160) = true then ((remoralaw15_awake.f).bind fun t161 => (some t161)) else (some false)) = some r := H
                          have A113 := Aside0.mk A1130
                          clear A1130
                          by_cases c114 : (t159 == t160) = true
                          ·rw [if_pos c114] at H
                           have c114b0 : (t159 == t160) = true := c114
                           (try (have c114b1 : decide (t159 = t160) = true := by simpa using c114))
                           (try (have c114b2 : (t159 == t160) = true := by simpa using c114))
                           clear c114
                           replace H := Option.bind_eq_some_iff.mp H
                           obtain ⟨t161, A1150, H⟩ := H
                           replace H : (some t161) = some r := H
                           have A115 := Aside0.mk A1150
                           clear A1150
                           obtain rfl := Option.some.inj H
                           obtain ⟨Ao116, co116, eo116⟩ := Kd.R_slice HO_17.out
                           subst eo116
                           go_wp2_with (first | ((with_reducible refine gate_callee (f := 21) rfl ?_); refine goesL_ (some 152) rfl rfl Tryd.func21 (by kernel_rfl) rfl #[.slice Ao116 x17_5.length co116, .string a3, .bool a4] rfl (by (try simp only [List.map_toArray, List.map_cons, List.map_nil]); first | done | rfl | (simp only [List.length_drop, List.length_take]; rfl)) ?_; (with_reducible refine (rules_Hidden.calls k5 _ _ x17_5 a3 a4 t159 _ ?side1 ?side2 A112.out).mono ?_); (case side1 => repeat (first | exact (Kd.R_reads' HO_17.out).2.2 | (with_reducible refine Kd.C_alloc ?_ _) | (with_reducible refine Kd.C_drewN ?_ _) | (with_reducible refine Kd.C_drew ?_))); (case side2 => exact (Kd.R_reads' HO_17.out).2.1); rintro e w117 ⟨rfl, hb⟩; refine ⟨_, rfl, ?_⟩; have n0_ := Aside0.mk (Kd.R_below (by (with_reducible repeat (first | apply Kd.R_alloc | apply Kd.R_drewN | apply Kd.R_drew)); exact HO_17.out) hb); have n1_ := Aside0.mk (below_step (by repeat (first | (with_reducible first | exact HB.out | apply below_alloc | apply pw_below_drewN | apply below_drew1) | exact HB.out)) hb); clear HO_17; clear HB; have HO_17 := n0_; have HB := n1_; clear n0_ n1_; (try clear hb); (try clear hb2); (try clear hk); (try clear hi)) | ((with_reducible refine gate_callee (f := 21) rfl ?_); refine goesL_ (some 156) rfl rfl Tryd.func21 (by kernel_rfl) rfl #[.slice A0 l0.length c0, .string a3, .bool a4] rfl (by (try simp only [List.map_toArray, List.map_cons, List.map_nil]); first | done | rfl | (simp only [List.length_drop, List.length_take]; rfl)) ?_; (with_reducible refine (rules_Hidden.calls k5 _ _ l0 a3 a4 t160 _ ?side1 ?side2 A113.out).mono ?_); (case side1 => repeat (first | exact (Kd.C_below HR0.out HB.out) | (with_reducible refine Kd.C_alloc ?_ _) | (with_reducible refine Kd.C_drewN ?_ _) | (with_reducible refine Kd.C_drew ?_))); (case side2 => exact HC0.out); rintro e w118 ⟨rfl, hb⟩; refine ⟨_, rfl, ?_⟩; have n0_ := Aside0.mk (Kd.R_below (by (with_reducible repeat (first | apply Kd.R_alloc | apply Kd.R_drewN | apply Kd.R_drew)); exact HO_17.out) hb); have n1_ := Aside0.mk (below_step (by repeat (first | (with_reducible first | exact HB.out | apply below_alloc | apply pw_below_drewN | apply below_drew1) | exact HB.out)) hb); clear HO_17; clear HB; have HO_17 := n0_; have HB := n1_; clear n0_ n1_; (try clear hb); (try clear hb2); (try clear hk); (try clear hi)) | (go_at_call 10; (with_reducible refine (remoralaw15_awake.calls  t161 _ A115.out).mono ?_); rintro e w119 ⟨rfl, hb⟩; have n0_ := Aside0.mk (Kd.R_below (by (with_reducible repeat (first | apply Kd.R_alloc | apply Kd.R_drewN | apply Kd.R_drew)); exact HO_17.out) hb); have n1_ := Aside0.mk (below_step (by repeat (first | (with_reducible first | exact HB.out | apply below_alloc | apply pw_below_drewN | apply below_drew1) | exact HB.out)) hb); clear HO_17; clear HB; have HO_17 := n0_; have HB := n1_; clear n0_ n1_; (try clear hb); (try clear hb2); (try clear hk); (try clear hi)))
                           go_ret
                           exact ⟨by first | rfl | (simp [errW_none, errW_some] <;> rfl) | (simp only [← hji32]; first | rfl | (simp [errW_none, errW_some] <;> rfl)) | (simp [*, errW_none, errW_some] <;> rfl), by repeat (first | (with_reducible first | exact HB.out | apply below_alloc | apply pw_below_drewN | apply below_drew1) | exact HB.out)⟩
                          ·rw [if_neg c114] at H
                           have c114b0 : (t159 == t160) = false := by simpa using c114
                           (try (have c114b1 : decide (t159 = t160) = false := by simpa using c114))
                           (try (have c114b2 : (t159 == t160) = false := by simpa using c114))
                           (try (have c114b3 : ¬ (t159 = t160) := by simpa using c114))
                           clear c114
                           obtain rfl := Option.some.inj H
                           obtain ⟨Ao120, co120, eo120⟩ := Kd.R_slice HO_17.out
                           subst eo120
                           go_wp2_with (first | ((with_reducible refine gate_callee (f := 21) rfl ?_); refine goesL_ (some 152) rfl rfl Tryd.func21 (by kernel_rfl) rfl #[.slice Ao120 x17_5.length co120, .string a3, .bool a4] rfl (by (try simp only [List.map_toArray, List.map_cons, List.map_nil]); first | done | rfl | (simp only [List.length_drop, List.length_take]; rfl)) ?_; (with_reducible refine (rules_Hidden.calls k5 _ _ x17_5 a3 a4 t159 _ ?side1 ?side2 A112.out).mono ?_); (case side1 => repeat (first | exact (Kd.R_reads' HO_17.out).2.2 | (with_reducible refine Kd.C_alloc ?_ _) | (with_reducible refine Kd.C_drewN ?_ _) | (with_reducible refine Kd.C_drew ?_))); (case side2 => exact (Kd.R_reads' HO_17.out).2.1); rintro e w121 ⟨rfl, hb⟩; refine ⟨_, rfl, ?_⟩; have n0_ := Aside0.mk (Kd.R_below (by (with_reducible repeat (first | apply Kd.R_alloc | apply Kd.R_drewN | apply Kd.R_drew)); exact HO_17.out) hb); have n1_ := Aside0.mk (below_step (by repeat (first | (with_reducible first | exact HB.out | apply below_alloc | apply pw_below_drewN | apply below_drew1) | exact HB.out)) hb); clear HO_17; clear HB; have HO_17 := n0_; have HB := n1_; clear n0_ n1_; (try clear hb); (try clear hb2); (try clear hk); (try clear hi)) | ((with_reducible refine gate_callee (f := 21) rfl ?_); refine goesL_ (some 156) rfl rfl Tryd.func21 (by kernel_rfl) rfl #[.slice A0 l0.length c0, .string a3, .bool a4] rfl (by (try simp only [List.map_toArray, List.map_cons, List.map_nil]); first | done | rfl | (simp only [List.length_drop, List.length_take]; rfl)) ?_; (with_reducible refine (rules_Hidden.calls k5 _ _ l0 a3 a4 t160 _ ?side1 ?side2 A113.out).mono ?_); (case side1 => repeat (first | exact (Kd.C_below HR0.out HB.out) | (with_reducible refine Kd.C_alloc ?_ _) | (with_reducible refine Kd.C_drewN ?_ _) | (with_reducible refine Kd.C_drew ?_))); (case side2 => exact HC0.out); rintro e w122 ⟨rfl, hb⟩; refine ⟨_, rfl, ?_⟩; have n0_ := Aside0.mk (Kd.R_below (by (with_reducible repeat (first | apply Kd.R_alloc | apply Kd.R_drewN | apply Kd.R_drew)); exact HO_17.out) hb); have n1_ := Aside0.mk (below_step (by repeat (first | (with_reducible first | exact HB.out | apply below_alloc | apply pw_below_drewN | apply below_drew1) | exact HB.out)) hb); clear HO_17; clear HB; have HO_17 := n0_; have HB := n1_; clear n0_ n1_; (try clear hb); (try clear hb2); (try clear hk); (try clear hi)))
                           go_ret
                           exact ⟨by first | rfl | (simp [errW_none, errW_some] <;> rfl) | (simp only [← hji32]; first | rfl | (simp [errW_none, errW_some] <;> rfl)) | (simp [*, errW_none, errW_some] <;> rfl), by repeat (first | (with_reducible first | exact HB.out | apply below_alloc | apply pw_below_drewN | apply below_drew1) | exact HB.out)⟩
                      ·rw [if_neg c98] at H
                       exact absurd H (by simp)
                  ·rw [if_neg c85] at H
                   exact absurd H (by simp)
                 ·rw [if_neg c84] at H
                  exact absurd H (by simp)
             ·rw [if_neg c56] at H
              exact absurd H (by simp)
            ·rw [if_neg c55] at H
             exact absurd H (by simp)
           ·rw [if_neg c54] at H
            exact absurd H (by simp)
       ·rw [if_neg c35] at H
        exact absurd H (by simp)
      ·rw [if_neg c34] at H
       exact absurd H (by simp)
     ·rw [if_neg c33] at H
      exact absurd H (by simp)
end Go.Proofs.YtioehkeocddniaaDoor.PA
