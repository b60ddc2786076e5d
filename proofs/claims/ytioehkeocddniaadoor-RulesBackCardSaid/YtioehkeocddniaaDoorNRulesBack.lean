/- RulesBack: for any rules and line the law returns true and leaves its arguments as they were. No condition. -/
import Derived.Test.YtioehkeocddniaaDoorNG1
import Derived.Test.YtioehkeocddniaaDoorNG6
import Derived.Test.YtioehkeocddniaaDoorNG3
import Derived.Test.YtioehkeocddniaaDoorNG8
import Derived.Test.YtioehkeocddniaaDoorNG4
import Derived.Test.YtioehkeocddniaaDoorNG2
import Derived.Test.YtioehkeocddniaaDoorNG12
import Derived.Test.YtioehkeocddniaaDoorNG5
import Derived.Test.YtioehkeocddniaaDoorNG7
import Derived.Test.YtioehkeocddniaaDoorNG11
import Derived.Below
import Derived.Carry
import Derived.ChangeOld
import Derived.LaidMore
import Derived.Lay
import Derived.OpenShut
import Derived.ProofKit
import Derived.SevenTiedAt
import Derived.ShutString
import Derived.SizedLaws
import Derived.Stop.Joined
import Derived.Test.YtioehkeocddniaaDoorCards
import Derived.Test.YtioehkeocddniaaDoorRows
import Derived.Test.YtioehkeocddniaaDoorTie
import Derived.WalkKit
namespace Go.Proofs.YtioehkeocddniaaDoor.PA
open Go.RowKit Go.Proofs.YtioehkeocddniaaDoorW.PrintWords Go.Proofs.YtioehkeocddniaaDoorW.PrintLast Go.Proofs.YtioehkeocddniaaDoorW.PrintMore
attribute [local go_sem] max2_int min2_int max_two min_two max_three min_three max_four min_four   -- for this text's walks alone
set_option linter.unusedVariables false
set_option linter.unusedSimpArgs false
attribute [local go_sem high] eqA24
mutual
def remoralaw15_RulesBack.j0 : Nat → List (S24) → ByteArray → Bool → Option (Bool)
 | 0, _, _, _ => none
 | k + 1, x0, x1, x27 => if x27 = true then ((remoralaw15_awake.f).bind fun t102 => (some t102)) else (remoralaw15_RulesBack.l0 k x0 x1 x0 (x0.length : Int) 0)
def remoralaw15_RulesBack.l0 : Nat → List (S24) → ByteArray → List (S24) → Int → Int → Option (Bool)
 | 0, _, _, _, _, _ => none
 | k + 1, x0, x1, x29, x30, x31 => if x31 < x30 then (if 0 ≤ x31 then (if x31 < (x29.length : Int) then ((rules_Print.f ((rd_T24 x29 x31).f0) ((rd_T24 x29 x31).f1) ((rd_T24 x29 x31).f2) ((rd_T24 x29 x31).f3)).bind fun bt105 => ((rules_Parse.f bt105.1).bind fun bt107 => (if bt105.2 = 0 then (if bt107.2.2.2.2 = 0 then (if (!(bt107.1 == ((rd_T24 x29 x31).f0)) || (!(bt107.2.1.toList == (((rd_T24 x29 x31).f1).toList)) || (!(bt107.2.2.1 == ((rd_T24 x29 x31).f2)) || (!(bt107.2.2.2.1 == ((rd_T24 x29 x31).f3)))))) = true then (some false) else (remoralaw15_RulesBack.l0 k x0 x1 x29 x30 (wrap64 (x31 + 1)))) else (some false)) else (remoralaw15_RulesBack.l0 k x0 x1 x29 x30 (wrap64 (x31 + 1)))))) else (none)) else (none)) else ((rules_Text.f k x0).bind fun bt113 => ((rules_Lines.f k bt113.1).bind fun bt115 => (if bt113.2 = 0 then (if bt115.2.2 = 0 then (if bt115.2.1 = 0 then ((remoralaw15_same.f k x0 bt115.1).bind fun t120 => (remoralaw15_RulesBack.j2 k x1 (!t120))) else (remoralaw15_RulesBack.j2 k x1 true)) else (remoralaw15_RulesBack.j2 k x1 true)) else (remoralaw15_RulesBack.j2 k x1 false))))
def remoralaw15_RulesBack.j2 : Nat → ByteArray → Bool → Option (Bool)
 | 0, _, _ => none
 | k + 1, x1, x83 => if x83 = true then (some false) else ((rules_Parse.f x1).bind fun bt121 => ((rules_Print.f bt121.1 bt121.2.1 bt121.2.2.1 bt121.2.2.2.1).bind fun bt127 => (if bt121.2.2.2.2 = 0 then (if bt127.2 = 0 then (if bt127.1.toList = x1.toList then ((remoralaw15_awake.f).bind fun t129 => (some t129)) else (some false)) else (some false)) else ((remoralaw15_awake.f).bind fun t130 => (some t130)))))
end
def remoralaw15_RulesBack.f (k : Nat) (l0 : List (S24)) (a1 : ByteArray) : Option (Bool) := (remoralaw15_light.f k l0).bind fun t101 => (if t101 = true then (remoralaw15_RulesBack.j0 k l0 a1 (decide ((a1.size : Int) > 300))) else (remoralaw15_RulesBack.j0 k l0 a1 true))
set_option maxHeartbeats 8000000 in
set_option maxRecDepth 100000 in
theorem remoralaw15_RulesBack.calls (k : Nat) (A0 : Option Addr) (c0 : Nat) (l0 : List (S24)) (a1 : ByteArray) (r : Bool) (w : World) (hr0 : Kd.C k24 w A0 l0.length l0) (hc0 : l0.length ≤ c0) (h : remoralaw15_RulesBack.f k l0 a1 = some r) :
  Calls Tryd.prog 8 #[.slice A0 l0.length c0, .string a1] w fun e w' => e = .returned (.bool r) ∧ Below w.heap.size w w' := by
 have hu24 := Tryd.underlying24
 have HR0 := Aside0.mk hr0
 have HC0 := Aside0.mk hc0
 clear hr0 hc0
 have HB := Aside0.mk (Below.refl w.heap.size w)
 have H : ((remoralaw15_light.f k l0).bind fun t101 => (if t101 = true then (remoralaw15_RulesBack.j0 k l0 a1 (decide ((a1.size : Int) > 300))) else (remoralaw15_RulesBack.j0 k l0 a1 true))) = some r := h
 clear h
 have HC3 := Aside0.mk H
 clear H
 go_enter Tryd.func8, Tryd.ntmps8
 go_upto_region 1 with (fail)
 go_cut [27] (fun v27 wc => ∃ (kq : Nat) (x27_2 : Bool), v27 = .bool x27_2 ∧ Aside0 (remoralaw15_RulesBack.j0 kq l0 a1 x27_2 = some r) ∧ Aside0 (kq ≤ k) ∧ Aside0 (Below w.heap.size w wc))
 case first =>
  have H := HC3.out
  clear HC3
  replace H := Option.bind_eq_some_iff.mp H
  obtain ⟨t101, A40, H⟩ := H
  replace H : (if t101 = true then (remoralaw15_RulesBack.j0 k l0 a1 (decide ((a1.size : Int) > 300))) else (remoralaw15_RulesBack.j0 k l0 a1 true)) = some r := H
  have A4 := Aside0.mk A40
  clear A40
  by_cases c5 : t101 = true
  ·subst c5
   have H1 : (remoralaw15_RulesBack.j0 k l0 a1 (decide ((a1.size : Int) > 300))) = some r := by rw [if_pos rfl] at H; exact H
   clear H
   have H := H1
   clear H1
   have H' := Aside0.mk H
   clear H
   go_wp2_with (first | ((with_reducible refine gate_callee (f := 16) rfl ?_); refine goesL_ (some 21) rfl rfl Tryd.func16 (by kernel_rfl) rfl #[.slice A0 l0.length c0] rfl (by (try simp only [List.map_toArray, List.map_cons, List.map_nil]); first | done | rfl | (simp only [List.length_drop, List.length_take]; rfl)) ?_; (with_reducible refine (remoralaw15_light.calls k _ _ l0 true _ ?side1 ?side2 A4.out).mono ?_); (case side1 => repeat (first | exact (Kd.C_below HR0.out HB.out) | (with_reducible refine Kd.C_alloc ?_ _) | (with_reducible refine Kd.C_drewN ?_ _) | (with_reducible refine Kd.C_drew ?_))); (case side2 => exact HC0.out); rintro e w6 ⟨rfl, hb⟩; refine ⟨_, rfl, ?_⟩; have n0_ := Aside0.mk (below_step (by repeat (first | (with_reducible first | exact HB.out | apply below_alloc | apply pw_below_drewN | apply below_drew1) | exact HB.out)) hb); clear HB; have HB := n0_; clear n0_; (try clear hb); (try clear hb2); (try clear hk); (try clear hi)))
   go_meet
   case rel => exact ⟨_, (decide ((a1.size : Int) > 300)), (by first | rfl | (simp; done) | (simp [*]; done)), H', ⟨by first | omega | exact Nat.le_refl _⟩, ⟨by repeat (first | (with_reducible first | exact HB.out | apply below_alloc | apply pw_below_drewN | apply below_drew1) | exact HB.out)⟩⟩
  ·replace c5 := Bool.eq_false_iff.mpr c5
   subst c5
   have H1 : (remoralaw15_RulesBack.j0 k l0 a1 true) = some r := by rw [if_neg (show ¬ (false = true) by decide)] at H; exact H
   clear H
   have H := H1
   clear H1
   have H' := Aside0.mk H
   clear H
   go_wp2_with (first | ((with_reducible refine gate_callee (f := 16) rfl ?_); refine goesL_ (some 21) rfl rfl Tryd.func16 (by kernel_rfl) rfl #[.slice A0 l0.length c0] rfl (by (try simp only [List.map_toArray, List.map_cons, List.map_nil]); first | done | rfl | (simp only [List.length_drop, List.length_take]; rfl)) ?_; (with_reducible refine (remoralaw15_light.calls k _ _ l0 false _ ?side1 ?side2 A4.out).mono ?_); (case side1 => repeat (first | exact (Kd.C_below HR0.out HB.out) | (with_reducible refine Kd.C_alloc ?_ _) | (with_reducible refine Kd.C_drewN ?_ _) | (with_reducible refine Kd.C_drew ?_))); (case side2 => exact HC0.out); rintro e w7 ⟨rfl, hb⟩; refine ⟨_, rfl, ?_⟩; have n0_ := Aside0.mk (below_step (by repeat (first | (with_reducible first | exact HB.out | apply below_alloc | apply pw_below_drewN | apply below_drew1) | exact HB.out)) hb); clear HB; have HB := n0_; clear n0_; (try clear hb); (try clear hb2); (try clear hk); (try clear hi)))
   go_meet
   case rel => exact ⟨_, (true), (by first | rfl | (simp; done) | (simp [*]; done)), H', ⟨by first | omega | exact Nat.le_refl _⟩, ⟨by repeat (first | (with_reducible first | exact HB.out | apply below_alloc | apply pw_below_drewN | apply below_drew1) | exact HB.out)⟩⟩
 case rest =>
  clear HC3
  try clear c1
  try clear p2
  try clear c5
  obtain ⟨kq, x27_2, rfl, HA, HJ2, HB⟩ := hcut
  cases kq with
  | zero => exact absurd HA.out (by simp [remoralaw15_RulesBack.j0])
  | succ kj2 =>
   have H := HA.out
   clear HA
   simp only [remoralaw15_RulesBack.j0] at H
   by_cases c8 : x27_2 = true
   ·subst c8
    have H1 : ((remoralaw15_awake.f).bind fun t102 => (some t102)) = some r := by rw [if_pos rfl] at H; exact H
    clear H
    have H := H1
    clear H1
    replace H := Option.bind_eq_some_iff.mp H
    obtain ⟨t102, A90, H⟩ := H
    replace H : (some t102) = some r := H
    have A9 := Aside0.mk A90
    clear A90
    obtain rfl := Option.some.inj H
    go_wp2_with (first | ((with_reducible refine gate_callee (f := 10) rfl ?_); refine goesL_ (some 28) rfl rfl Tryd.func10 (by kernel_rfl) rfl #[] rfl (by (try simp only [List.map_toArray, List.map_cons, List.map_nil]); first | done | rfl | (simp only [List.length_drop, List.length_take]; rfl)) ?_; (with_reducible refine (remoralaw15_awake.calls  t102 _ A9.out).mono ?_); rintro e w10 ⟨rfl, hb⟩; refine ⟨_, rfl, ?_⟩; have n0_ := Aside0.mk (below_step (by repeat (first | (with_reducible first | exact HB.out | apply below_alloc | apply pw_below_drewN | apply below_drew1) | exact HB.out)) hb); clear HB; have HB := n0_; clear n0_; (try clear hb); (try clear hb2); (try clear hk); (try clear hi)))
    go_ret
    exact ⟨by first | rfl | (simp [errW_none, errW_some] <;> rfl) | (simp [*, errW_none, errW_some] <;> rfl), by repeat (first | (with_reducible first | exact HB.out | apply below_alloc | apply pw_below_drewN | apply below_drew1) | exact HB.out)⟩
   ·replace c8 := Bool.eq_false_iff.mpr c8
    subst c8
    have H1 : (remoralaw15_RulesBack.l0 kj2 l0 a1 l0 (l0.length : Int) 0) = some r := by rw [if_neg (show ¬ (false = true) by decide)] at H; exact H
    clear H
    have H := H1
    clear H1
    have H' := Aside0.mk H
    clear H
    go_wp2
    go_loopg [31] kj2 (fun kq v31 w' => ∃ (x31_2 : Int), v31 = .int .i64 x31_2 ∧ Aside0 (remoralaw15_RulesBack.l0 kq l0 a1 l0 (l0.length : Int) x31_2 = some r) ∧ Aside0 (kq ≤ kj2) ∧ Aside0 (Below w.heap.size w w'))
    case atStart => exact ⟨(0), (by first | rfl | (simp; done) | (simp [*]; done)), H', ⟨Nat.le_refl _⟩, ⟨by repeat (first | (with_reducible first | exact HB.out | apply below_alloc | apply pw_below_drewN | apply below_drew1) | exact HB.out)⟩⟩
    case round =>
     clear H'
     try clear c1
     try clear p2
     try clear c5
     try clear c8
     try clear c10
     try clear p2
     obtain ⟨x31_2, rfl, HA, HK2, HB⟩ := hrel
     cases gk with
     | zero => exact absurd HA.out (by simp [remoralaw15_RulesBack.l0])
     | succ k2 =>
      have H := HA.out
      clear HA
      simp only [remoralaw15_RulesBack.l0] at H
      by_cases c11 : x31_2 < (l0.length : Int)
      ·rw [if_pos c11] at H
       have c11b0 : decide (x31_2 < (l0.length : Int)) = true := decide_eq_true c11
       clear c11
       by_cases c12 : 0 ≤ x31_2
       ·rw [if_pos c12] at H
        have c12b0 : decide (0 ≤ x31_2) = true := decide_eq_true c12
        clear c12
        by_cases c13 : x31_2 < (l0.length : Int)
        ·rw [if_pos c13] at H
         have c13b0 : decide (x31_2 < (l0.length : Int)) = true := decide_eq_true c13
         clear c13
         replace H := Option.bind_eq_some_iff.mp H
         obtain ⟨⟨t105, t106⟩, A140, H⟩ := H
         replace H : ((rules_Parse.f t105).bind fun bt107 => (if t106 = 0 then (if bt107.2.2.2.2 = 0 then (if (!(bt107.1 == ((rd_T24 l0 x31_2).f0)) || (!(bt107.2.1.toList == (((rd_T24 l0 x31_2).f1).toList)) || (!(bt107.2.2.1 == ((rd_T24 l0 x31_2).f2)) || (!(bt107.2.2.2.1 == ((rd_T24 l0 x31_2).f3)))))) = true then (some false) else (remoralaw15_RulesBack.l0 k2 l0 a1 l0 (l0.length : Int) (wrap64 (x31_2 + 1)))) else (some false)) else (remoralaw15_RulesBack.l0 k2 l0 a1 l0 (l0.length : Int) (wrap64 (x31_2 + 1))))) = some r := H
         have A14 := Aside0.mk A140
         clear A140
         replace H := Option.bind_eq_some_iff.mp H
         obtain ⟨⟨t107, t108, t109, t110, t111⟩, A150, H⟩ := H
         replace H : (if t106 = 0 then (if t111 = 0 then (if (!(t107 == ((rd_T24 l0 x31_2).f0)) || (!(t108.toList == (((rd_T24 l0 x31_2).f1).toList)) || (!(t109 == ((rd_T24 l0 x31_2).f2)) || (!(t110 == ((rd_T24 l0 x31_2).f3)))))) = true then (some false) else (remoralaw15_RulesBack.l0 k2 l0 a1 l0 (l0.length : Int) (wrap64 (x31_2 + 1)))) else (some false)) else (remoralaw15_RulesBack.l0 k2 l0 a1 l0 (l0.length : Int) (wrap64 (x31_2 + 1)))) = some r := H
         have A15 := Aside0.mk A150
         clear A150
         by_cases c16 : t106 = 0
         ·rw [if_pos c16] at H
          have c16b0 : (t106 == 0) = true := beq_iff_eq.mpr c16
          have c16b1 : (t106 != 0) = false := bne_eq_false_iff_eq.mpr c16
          clear c16
          by_cases c17 : t111 = 0
          ·rw [if_pos c17] at H
           have c17b0 : (t111 == 0) = true := beq_iff_eq.mpr c17
           have c17b1 : (t111 != 0) = false := bne_eq_false_iff_eq.mpr c17
           clear c17
           by_cases c18 : (!(t107 == ((rd_T24 l0 x31_2).f0)) || (!(t108.toList == (((rd_T24 l0 x31_2).f1).toList)) || (!(t109 == ((rd_T24 l0 x31_2).f2)) || (!(t110 == ((rd_T24 l0 x31_2).f3)))))) = true
           ·rw [if_pos c18] at H
            have c18b0 : (!(t107 == ((rd_T24 l0 x31_2).f0)) || (!(t108.toList == (((rd_T24 l0 x31_2).f1).toList)) || (!(t109 == ((rd_T24 l0 x31_2).f2)) || (!(t110 == ((rd_T24 l0 x31_2).f3)))))) = true := c18
            clear c18
            obtain rfl := Option.some.inj H
            have p103 : 0 ≤ (x31_2 : Int) := of_decide_eq_true (by first | (with_reducible assumption) | assumption)
            have q103 : x31_2 < (l0.length : Int) := of_decide_eq_true (by first | (with_reducible assumption) | assumption)
            obtain ⟨ad103, e103, hx103_0, hx103_1, hx103_2, hx103_3⟩ := at_T24 HR0.out x31_2 p103 q103
            cases e103
            replace hx103_0 := (HB.out.cell (World.block_lt_of_cell? w _ hx103_0)).trans hx103_0
            replace hx103_1 := (HB.out.cell (World.block_lt_of_cell? w _ hx103_1)).trans hx103_1
            replace hx103_2 := (HB.out.cell (World.block_lt_of_cell? w _ hx103_2)).trans hx103_2
            replace hx103_3 := (HB.out.cell (World.block_lt_of_cell? w _ hx103_3)).trans hx103_3
            replace p103 := eq_true p103
            replace q103 := eq_true q103
            go_wp2_with (first | ((with_reducible refine gate_dst (N := 6) rfl ?_); (try (refine gate_guard (by rfl) ?_; dsimp only)); refine box_event ?hg (N := 6) ?hd (cs := #[.int .i64 0, .string (⟨#[]⟩ : ByteArray), .bool false, .bool false]) (t := 24) ?hr ?_; (case hd => rfl); (case hg => rfl); (case hr => first | (go_simp; done) | (go_simp; rfl)); intro gb104 hg w19 hbox hb; have n0_ := Aside0.mk (below_step (by repeat (first | (with_reducible first | exact HB.out | apply below_alloc | apply pw_below_drewN | apply below_drew1) | exact HB.out)) hb); have n1_ := Aside0.mk (hbox); have n2_ := Aside0.mk ((by rw [hg]; exact (below_size (by repeat (first | (with_reducible first | exact HB.out | apply below_alloc | apply pw_below_drewN | apply below_drew1) | exact HB.out))) : w.heap.size ≤ gb104)); have n3_ := Aside0.mk ((by rw [hg]; exact (below_size (by repeat (first | (with_reducible first | exact HB.out | apply below_alloc | apply pw_below_drewN | apply below_drew1) | exact HB.out))) : w.heap.size ≤ gb104)); clear HB; have HB := n0_; have BK104 := n1_; have GW104 := n2_; have GE104 := n3_; clear n0_ n1_ n2_ n3_; clear hb hbox hg; have hcz20_0 : w19.cell? ⟨gb104, 0, none⟩ = some (.int .i64 0) := (blk_cell BK104.out 0).trans rfl; have hcz20_1 : w19.cell? ⟨gb104, 1, none⟩ = some (.string (⟨#[]⟩ : ByteArray)) := (blk_cell BK104.out 1).trans rfl; have hcz20_2 : w19.cell? ⟨gb104, 2, none⟩ = some (.bool false) := (blk_cell BK104.out 2).trans rfl; have hcz20_3 : w19.cell? ⟨gb104, 3, none⟩ = some (.bool false) := (blk_cell BK104.out 3).trans rfl; have hfz20_0 := blk_frozen BK104.out 0; have hfz20_1 := blk_frozen BK104.out 1; have hfz20_2 := blk_frozen BK104.out 2; have hfz20_3 := blk_frozen BK104.out 3) | ((with_reducible refine gate_callee (f := 31) rfl ?_); refine goesL_ (some 37) rfl rfl Tryd.func31 (by kernel_rfl) rfl #[.agg #[.int .i64 ((rd_T24 l0 x31_2).f0), .string ((rd_T24 l0 x31_2).f1), .bool ((rd_T24 l0 x31_2).f2), .bool ((rd_T24 l0 x31_2).f3)]] rfl (by (try simp only [List.map_toArray, List.map_cons, List.map_nil]); first | done | rfl | (simp only [List.length_drop, List.length_take]; rfl)) ?_; (with_reducible refine (rules_Print.calls ((rd_T24 l0 x31_2).f0) ((rd_T24 l0 x31_2).f1) ((rd_T24 l0 x31_2).f2) ((rd_T24 l0 x31_2).f3) t105 t106 _ A14.out).mono ?_); rintro e w21 ⟨rfl, hb⟩; refine ⟨_, rfl, ?_⟩; have n0_ := Aside0.mk (blk_below (g := gb104) (o := .cells #[.int .i64 ((rd_T24 l0 x31_2).f0), .string ((rd_T24 l0 x31_2).f1), .bool ((rd_T24 l0 x31_2).f2), .bool ((rd_T24 l0 x31_2).f3)] 24 (0, 0)) (by (with_reducible repeat (first | refine blk_drewN ?_ _ | refine blk_drew ?_ | refine blk_alloc ?_ _)); refine blk_put (cs := #[.int .i64 ((rd_T24 l0 x31_2).f0), .string ((rd_T24 l0 x31_2).f1), .bool ((rd_T24 l0 x31_2).f2), .bool false]) ?_ 3 _ rfl; (with_reducible repeat (first | refine blk_drewN ?_ _ | refine blk_drew ?_ | refine blk_alloc ?_ _)); refine blk_put (cs := #[.int .i64 ((rd_T24 l0 x31_2).f0), .string ((rd_T24 l0 x31_2).f1), .bool false, .bool false]) ?_ 2 _ rfl; (with_reducible repeat (first | refine blk_drewN ?_ _ | refine blk_drew ?_ | refine blk_alloc ?_ _)); refine blk_put (cs := #[.int .i64 ((rd_T24 l0 x31_2).f0), .string (⟨#[]⟩ : ByteArray), .bool false, .bool false]) ?_ 1 _ rfl; (with_reducible repeat (first | refine blk_drewN ?_ _ | refine blk_drew ?_ | refine blk_alloc ?_ _)); refine blk_put (cs := #[.int .i64 0, .string (⟨#[]⟩ : ByteArray), .bool false, .bool false]) ?_ 0 _ rfl; (with_reducible repeat (first | refine blk_drewN ?_ _ | refine blk_drew ?_ | refine blk_alloc ?_ _)); exact BK104.out) hb); have n1_ := Aside0.mk (below_step (by repeat (first | (with_reducible first | exact HB.out | apply below_alloc | apply pw_below_drewN | apply below_drew1 | refine below_set ?_ GE104.out) | exact HB.out)) hb); clear BK104; clear HB; have BK104 := n0_; have HB := n1_; clear n0_ n1_; (try clear hb); (try clear hb2); (try clear hk); (try clear hi)) | ((with_reducible refine gate_callee (f := 11) rfl ?_); refine goesL_ (some 42) rfl rfl Tryd.func11 (by kernel_rfl) rfl #[.string t105] rfl (by (try simp only [List.map_toArray, List.map_cons, List.map_nil]); first | done | rfl | (simp only [List.length_drop, List.length_take]; rfl)) ?_; (with_reducible refine (rules_Parse.calls t105 t107 t108 t109 t110 t111 _ A15.out).mono ?_); rintro e w22 ⟨rfl, hb⟩; refine ⟨_, rfl, ?_⟩; have n0_ := Aside0.mk (blk_below (g := gb104) (o := .cells #[.int .i64 ((rd_T24 l0 x31_2).f0), .string ((rd_T24 l0 x31_2).f1), .bool ((rd_T24 l0 x31_2).f2), .bool ((rd_T24 l0 x31_2).f3)] 24 (0, 0)) (by (with_reducible repeat (first | refine blk_drewN ?_ _ | refine blk_drew ?_ | refine blk_alloc ?_ _)); exact BK104.out) hb); have n1_ := Aside0.mk (below_step (by repeat (first | (with_reducible first | exact HB.out | apply below_alloc | apply pw_below_drewN | apply below_drew1 | refine below_set ?_ GE104.out) | exact HB.out)) hb); clear BK104; clear HB; have BK104 := n0_; have HB := n1_; clear n0_ n1_; (try clear hb); (try clear hb2); (try clear hk); (try clear hi)) | ((with_reducible refine gate_dst (N := 9) rfl ?_); (try (refine gate_guard (by rfl) ?_; dsimp only)); refine box_event ?hg (N := 9) ?hd (cs := #[.int .i64 0, .string (⟨#[]⟩ : ByteArray), .bool false, .bool false]) (t := 24) ?hr ?_; (case hd => rfl); (case hg => rfl); (case hr => first | (go_simp; done) | (go_simp; rfl)); intro gb112 hg w23 hbox hb; have n0_ := Aside0.mk (blk_below (g := gb104) (o := .cells #[.int .i64 ((rd_T24 l0 x31_2).f0), .string ((rd_T24 l0 x31_2).f1), .bool ((rd_T24 l0 x31_2).f2), .bool ((rd_T24 l0 x31_2).f3)] 24 (0, 0)) (by (with_reducible repeat (first | refine blk_drewN ?_ _ | refine blk_drew ?_ | refine blk_alloc ?_ _)); exact BK104.out) hb); have n1_ := Aside0.mk (below_step (by repeat (first | (with_reducible first | exact HB.out | apply below_alloc | apply pw_below_drewN | apply below_drew1 | refine below_set ?_ GE104.out) | exact HB.out)) hb); have n2_ := Aside0.mk (hbox); have n3_ := Aside0.mk ((by rw [hg]; exact (below_size (by repeat (first | (with_reducible first | exact HB.out | apply below_alloc | apply pw_below_drewN | apply below_drew1 | refine below_set ?_ GE104.out) | exact HB.out))) : w.heap.size ≤ gb112)); have n4_ := Aside0.mk ((by rw [hg]; exact (below_size (by repeat (first | (with_reducible first | exact HB.out | apply below_alloc | apply pw_below_drewN | apply below_drew1 | refine below_set ?_ GE104.out) | exact HB.out))) : w.heap.size ≤ gb112)); have n5_ := Aside0.mk ((by rw [hg]; exact Nat.ne_of_lt (blk_lt (g := gb104) (o := .cells #[.int .i64 ((rd_T24 l0 x31_2).f0), .string ((rd_T24 l0 x31_2).f1), .bool ((rd_T24 l0 x31_2).f2), .bool ((rd_T24 l0 x31_2).f3)] 24 (0, 0)) (by (with_reducible repeat (first | refine blk_drewN ?_ _ | refine blk_drew ?_ | refine blk_alloc ?_ _)); exact BK104.out)) : gb104 ≠ gb112)); have n6_ := Aside0.mk ((by rw [hg]; exact Nat.ne_of_gt (blk_lt (g := gb104) (o := .cells #[.int .i64 ((rd_T24 l0 x31_2).f0), .string ((rd_T24 l0 x31_2).f1), .bool ((rd_T24 l0 x31_2).f2), .bool ((rd_T24 l0 x31_2).f3)] 24 (0, 0)) (by (with_reducible repeat (first | refine blk_drewN ?_ _ | refine blk_drew ?_ | refine blk_alloc ?_ _)); exact BK104.out)) : gb112 ≠ gb104)); clear BK104; clear HB; have BK104 := n0_; have HB := n1_; have BK112 := n2_; have GW112 := n3_; have GE112 := n4_; have NB104_112 := n5_; have NB112_104 := n6_; clear n0_ n1_ n2_ n3_ n4_ n5_ n6_; clear hb hbox hg; have hnb24 := NB112_104.out; have hnc24 := NB104_112.out; have hcz25_0 : w23.cell? ⟨gb112, 0, none⟩ = some (.int .i64 0) := (blk_cell BK112.out 0).trans rfl; have hcz25_1 : w23.cell? ⟨gb112, 1, none⟩ = some (.string (⟨#[]⟩ : ByteArray)) := (blk_cell BK112.out 1).trans rfl; have hcz25_2 : w23.cell? ⟨gb112, 2, none⟩ = some (.bool false) := (blk_cell BK112.out 2).trans rfl; have hcz25_3 : w23.cell? ⟨gb112, 3, none⟩ = some (.bool false) := (blk_cell BK112.out 3).trans rfl; have hfz25_0 := blk_frozen BK112.out 0; have hfz25_1 := blk_frozen BK112.out 1; have hfz25_2 := blk_frozen BK112.out 2; have hfz25_3 := blk_frozen BK112.out 3; have hcz26_0 : w23.cell? ⟨gb104, 0, none⟩ = some (.int .i64 ((rd_T24 l0 x31_2).f0)) := (blk_cell BK104.out 0).trans rfl; have hcz26_1 : w23.cell? ⟨gb104, 1, none⟩ = some (.string ((rd_T24 l0 x31_2).f1)) := (blk_cell BK104.out 1).trans rfl; have hcz26_2 : w23.cell? ⟨gb104, 2, none⟩ = some (.bool ((rd_T24 l0 x31_2).f2)) := (blk_cell BK104.out 2).trans rfl; have hcz26_3 : w23.cell? ⟨gb104, 3, none⟩ = some (.bool ((rd_T24 l0 x31_2).f3)) := (blk_cell BK104.out 3).trans rfl; have hfz26_0 := blk_frozen BK104.out 0; have hfz26_1 := blk_frozen BK104.out 1; have hfz26_2 := blk_frozen BK104.out 2; have hfz26_3 := blk_frozen BK104.out 3))
            go_ret
            exact ⟨by first | rfl | (simp [errW_none, errW_some] <;> rfl) | (simp [*, errW_none, errW_some] <;> rfl), by repeat (first | (with_reducible first | exact HB.out | apply below_alloc | apply pw_below_drewN | apply below_drew1 | refine below_set ?_ GE104.out | refine below_set ?_ GE112.out) | exact HB.out)⟩
           ·rw [if_neg c18] at H
            have c18b0 : (!(t107 == ((rd_T24 l0 x31_2).f0)) || (!(t108.toList == (((rd_T24 l0 x31_2).f1).toList)) || (!(t109 == ((rd_T24 l0 x31_2).f2)) || (!(t110 == ((rd_T24 l0 x31_2).f3)))))) = false := by simpa using c18
            clear c18
            have H' := Aside0.mk H
            clear H
            have p103 : 0 ≤ (x31_2 : Int) := of_decide_eq_true (by first | (with_reducible assumption) | assumption)
            have q103 : x31_2 < (l0.length : Int) := of_decide_eq_true (by first | (with_reducible assumption) | assumption)
            obtain ⟨ad103, e103, hx103_0, hx103_1, hx103_2, hx103_3⟩ := at_T24 HR0.out x31_2 p103 q103
            cases e103
            replace hx103_0 := (HB.out.cell (World.block_lt_of_cell? w _ hx103_0)).trans hx103_0
            replace hx103_1 := (HB.out.cell (World.block_lt_of_cell? w _ hx103_1)).trans hx103_1
            replace hx103_2 := (HB.out.cell (World.block_lt_of_cell? w _ hx103_2)).trans hx103_2
            replace hx103_3 := (HB.out.cell (World.block_lt_of_cell? w _ hx103_3)).trans hx103_3
            replace p103 := eq_true p103
            replace q103 := eq_true q103
            go_wp2_with (first | ((with_reducible refine gate_dst (N := 6) rfl ?_); (try (refine gate_guard (by rfl) ?_; dsimp only)); refine box_event ?hg (N := 6) ?hd (cs := #[.int .i64 0, .string (⟨#[]⟩ : ByteArray), .bool false, .bool false]) (t := 24) ?hr ?_; (case hd => rfl); (case hg => rfl); (case hr => first | (go_simp; done) | (go_simp; rfl)); intro gb104 hg w27 hbox hb; have n0_ := Aside0.mk (below_step (by repeat (first | (with_reducible first | exact HB.out | apply below_alloc | apply pw_below_drewN | apply below_drew1) | exact HB.out)) hb); have n1_ := Aside0.mk (hbox); have n2_ := Aside0.mk ((by rw [hg]; exact (below_size (by repeat (first | (with_reducible first | exact HB.out | apply below_alloc | apply pw_below_drewN | apply below_drew1) | exact HB.out))) : w.heap.size ≤ gb104)); have n3_ := Aside0.mk ((by rw [hg]; exact (below_size (by repeat (first | (with_reducible first | exact HB.out | apply below_alloc | apply pw_below_drewN | apply below_drew1) | exact HB.out))) : w.heap.size ≤ gb104)); clear HB; have HB := n0_; have BK104 := n1_; have GW104 := n2_; have GE104 := n3_; clear n0_ n1_ n2_ n3_; clear hb hbox hg; have hcz28_0 : w27.cell? ⟨gb104, 0, none⟩ = some (.int .i64 0) := (blk_cell BK104.out 0).trans rfl; have hcz28_1 : w27.cell? ⟨gb104, 1, none⟩ = some (.string (⟨#[]⟩ : ByteArray)) := (blk_cell BK104.out 1).trans rfl; have hcz28_2 : w27.cell? ⟨gb104, 2, none⟩ = some (.bool false) := (blk_cell BK104.out 2).trans rfl; have hcz28_3 : w27.cell? ⟨gb104, 3, none⟩ = some (.bool false) := (blk_cell BK104.out 3).trans rfl; have hfz28_0 := blk_frozen BK104.out 0; have hfz28_1 := blk_frozen BK104.out 1; have hfz28_2 := blk_frozen BK104.out 2; have hfz28_3 := blk_frozen BK104.out 3) | ((with_reducible refine gate_callee (f := 31) rfl ?_); refine goesL_ (some 37) rfl rfl Tryd.func31 (by kernel_rfl) rfl #[.agg #[.int .i64 ((rd_T24 l0 x31_2).f0), .string ((rd_T24 l0 x31_2).f1), .bool ((rd_T24 l0 x31_2).f2), .bool ((rd_T24 l0 x31_2).f3)]] rfl (by (try simp only [List.map_toArray, List.map_cons, List.map_nil]); first | done | rfl | (simp only [List.length_drop, List.length_take]; rfl)) ?_; (with_reducible refine (rules_Print.calls ((rd_T24 l0 x31_2).f0) ((rd_T24 l0 x31_2).f1) ((rd_T24 l0 x31_2).f2) ((rd_T24 l0 x31_2).f3) t105 t106 _ A14.out).mono ?_); rintro e w29 ⟨rfl, hb⟩; refine ⟨_, rfl, ?_⟩; have n0_ := Aside0.mk (blk_below (g := gb104) (o := .cells #[.int .i64 ((rd_T24 l0 x31_2).f0), .string ((rd_T24 l0 x31_2).f1), .bool ((rd_T24 l0 x31_2).f2), .bool ((rd_T24 l0 x31_2).f3)] 24 (0, 0)) (by (with_reducible repeat (first | refine blk_drewN ?_ _ | refine blk_drew ?_ | refine blk_alloc ?_ _)); refine blk_put (cs := #[.int .i64 ((rd_T24 l0 x31_2).f0), .string ((rd_T24 l0 x31_2).f1), .bool ((rd_T24 l0 x31_2).f2), .bool false]) ?_ 3 _ rfl; (with_reducible repeat (first | refine blk_drewN ?_ _ | refine blk_drew ?_ | refine blk_alloc ?_ _)); refine blk_put (cs := #[.int .i64 ((rd_T24 l0 x31_2).f0), .string ((rd_T24 l0 x31_2).f1), .bool false, .bool false]) ?_ 2 _ rfl; (with_reducible repeat (first | refine blk_drewN ?_ _ | refine blk_drew ?_ | refine blk_alloc ?_ _)); refine blk_put (cs := #[.int .i64 ((rd_T24 l0 x31_2).f0), .string (⟨#[]⟩ : ByteArray), .bool false, .bool false]) ?_ 1 _ rfl; (with_reducible repeat (first | refine blk_drewN ?_ _ | refine blk_drew ?_ | refine blk_alloc ?_ _)); refine blk_put (cs := #[.int .i64 0, .string (⟨#[]⟩ : ByteArray), .bool false, .bool false]) ?_ 0 _ rfl; (with_reducible repeat (first | refine blk_drewN ?_ _ | refine blk_drew ?_ | refine blk_alloc ?_ _)); exact BK104.out) hb); have n1_ := Aside0.mk (below_step (by repeat (first | (with_reducible first | exact HB.out | apply below_alloc | apply pw_below_drewN | apply below_drew1 | refine below_set ?_ GE104.out) | exact HB.out)) hb); clear BK104; clear HB; have BK104 := n0_; have HB := n1_; clear n0_ n1_; (try clear hb); (try clear hb2); (try clear hk); (try clear hi)) | ((with_reducible refine gate_callee (f := 11) rfl ?_); refine goesL_ (some 42) rfl rfl Tryd.func11 (by kernel_rfl) rfl #[.string t105] rfl (by (try simp only [List.map_toArray, List.map_cons, List.map_nil]); first | done | rfl | (simp only [List.length_drop, List.length_take]; rfl)) ?_; (with_reducible refine (rules_Parse.calls t105 t107 t108 t109 t110 t111 _ A15.out).mono ?_); rintro e w30 ⟨rfl, hb⟩; refine ⟨_, rfl, ?_⟩; have n0_ := Aside0.mk (blk_below (g := gb104) (o := .cells #[.int .i64 ((rd_T24 l0 x31_2).f0), .string ((rd_T24 l0 x31_2).f1), .bool ((rd_T24 l0 x31_2).f2), .bool ((rd_T24 l0 x31_2).f3)] 24 (0, 0)) (by (with_reducible repeat (first | refine blk_drewN ?_ _ | refine blk_drew ?_ | refine blk_alloc ?_ _)); exact BK104.out) hb); have n1_ := Aside0.mk (below_step (by repeat (first | (with_reducible first | exact HB.out | apply below_alloc | apply pw_below_drewN | apply below_drew1 | refine below_set ?_ GE104.out) | exact HB.out)) hb); clear BK104; clear HB; have BK104 := n0_; have HB := n1_; clear n0_ n1_; (try clear hb); (try clear hb2); (try clear hk); (try clear hi)) | ((with_reducible refine gate_dst (N := 9) rfl ?_); (try (refine gate_guard (by rfl) ?_; dsimp only)); refine box_event ?hg (N := 9) ?hd (cs := #[.int .i64 0, .string (⟨#[]⟩ : ByteArray), .bool false, .bool false]) (t := 24) ?hr ?_; (case hd => rfl); (case hg => rfl); (case hr => first | (go_simp; done) | (go_simp; rfl)); intro gb112 hg w31 hbox hb; have n0_ := Aside0.mk (blk_below (g := gb104) (o := .cells #[.int .i64 ((rd_T24 l0 x31_2).f0), .string ((rd_T24 l0 x31_2).f1), .bool ((rd_T24 l0 x31_2).f2), .bool ((rd_T24 l0 x31_2).f3)] 24 (0, 0)) (by (with_reducible repeat (first | refine blk_drewN ?_ _ | refine blk_drew ?_ | refine blk_alloc ?_ _)); exact BK104.out) hb); have n1_ := Aside0.mk (below_step (by repeat (first | (with_reducible first | exact HB.out | apply below_alloc | apply pw_below_drewN | apply below_drew1 | refine below_set ?_ GE104.out) | exact HB.out)) hb); have n2_ := Aside0.mk (hbox); have n3_ := Aside0.mk ((by rw [hg]; exact (below_size (by repeat (first | (with_reducible first | exact HB.out | apply below_alloc | apply pw_below_drewN | apply below_drew1 | refine below_set ?_ GE104.out) | exact HB.out))) : w.heap.size ≤ gb112)); have n4_ := Aside0.mk ((by rw [hg]; exact (below_size (by repeat (first | (with_reducible first | exact HB.out | apply below_alloc | apply pw_below_drewN | apply below_drew1 | refine below_set ?_ GE104.out) | exact HB.out))) : w.heap.size ≤ gb112)); have n5_ := Aside0.mk ((by rw [hg]; exact Nat.ne_of_lt (blk_lt (g := gb104) (o := .cells #[.int .i64 ((rd_T24 l0 x31_2).f0), .string ((rd_T24 l0 x31_2).f1), .bool ((rd_T24 l0 x31_2).f2), .bool ((rd_T24 l0 x31_2).f3)] 24 (0, 0)) (by (with_reducible repeat (first | refine blk_drewN ?_ _ | refine blk_drew ?_ | refine blk_alloc ?_ _)); exact BK104.out)) : gb104 ≠ gb112)); have n6_ := Aside0.mk ((by rw [hg]; exact Nat.ne_of_gt (blk_lt (g := gb104) (o := .cells #[.int .i64 ((rd_T24 l0 x31_2).f0), .string ((rd_T24 l0 x31_2).f1), .bool ((rd_T24 l0 x31_2).f2), .bool ((rd_T24 l0 x31_2).f3)] 24 (0, 0)) (by (with_reducible repeat (first | refine blk_drewN ?_ _ | refine blk_drew ?_ | refine blk_alloc ?_ _)); exact BK104.out)) : gb112 ≠ gb104)); clear BK104; clear HB; have BK104 := n0_; have HB := n1_; have BK112 := n2_; have GW112 := n3_; have GE112 := n4_; have NB104_112 := n5_; have NB112_104 := n6_; clear n0_ n1_ n2_ n3_ n4_ n5_ n6_; clear hb hbox hg; have hnb32 := NB112_104.out; have hnc32 := NB104_112.out; have hcz33_0 : w31.cell? ⟨gb112, 0, none⟩ = some (.int .i64 0) := (blk_cell BK112.out 0).trans rfl; have hcz33_1 : w31.cell? ⟨gb112, 1, none⟩ = some (.string (⟨#[]⟩ : ByteArray)) := (blk_cell BK112.out 1).trans rfl; have hcz33_2 : w31.cell? ⟨gb112, 2, none⟩ = some (.bool false) := (blk_cell BK112.out 2).trans rfl; have hcz33_3 : w31.cell? ⟨gb112, 3, none⟩ = some (.bool false) := (blk_cell BK112.out 3).trans rfl; have hfz33_0 := blk_frozen BK112.out 0; have hfz33_1 := blk_frozen BK112.out 1; have hfz33_2 := blk_frozen BK112.out 2; have hfz33_3 := blk_frozen BK112.out 3; have hcz34_0 : w31.cell? ⟨gb104, 0, none⟩ = some (.int .i64 ((rd_T24 l0 x31_2).f0)) := (blk_cell BK104.out 0).trans rfl; have hcz34_1 : w31.cell? ⟨gb104, 1, none⟩ = some (.string ((rd_T24 l0 x31_2).f1)) := (blk_cell BK104.out 1).trans rfl; have hcz34_2 : w31.cell? ⟨gb104, 2, none⟩ = some (.bool ((rd_T24 l0 x31_2).f2)) := (blk_cell BK104.out 2).trans rfl; have hcz34_3 : w31.cell? ⟨gb104, 3, none⟩ = some (.bool ((rd_T24 l0 x31_2).f3)) := (blk_cell BK104.out 3).trans rfl; have hfz34_0 := blk_frozen BK104.out 0; have hfz34_1 := blk_frozen BK104.out 1; have hfz34_2 := blk_frozen BK104.out 2; have hfz34_3 := blk_frozen BK104.out 3))
            go_roundg k2
            case measure => have := HJ2.out; have := HK2.out; omega
            case rel => exact ⟨(wrap64 (x31_2 + 1)), (by first | rfl | (simp; done) | (simp [*]; done)), H', ⟨by have := HJ2.out; have := HK2.out; omega⟩, ⟨by repeat (first | (with_reducible first | exact HB.out | apply below_alloc | apply pw_below_drewN | apply below_drew1 | refine below_set ?_ GE104.out | refine below_set ?_ GE112.out) | exact HB.out)⟩⟩
          ·rw [if_neg c17] at H
           have c17b0 : (t111 == 0) = false := beq_eq_false_iff_ne.mpr c17
           have c17b1 : (t111 != 0) = true := bne_iff_ne.mpr c17
           obtain rfl := Option.some.inj H
           have p103 : 0 ≤ (x31_2 : Int) := of_decide_eq_true (by first | (with_reducible assumption) | assumption)
           have q103 : x31_2 < (l0.length : Int) := of_decide_eq_true (by first | (with_reducible assumption) | assumption)
           obtain ⟨ad103, e103, hx103_0, hx103_1, hx103_2, hx103_3⟩ := at_T24 HR0.out x31_2 p103 q103
           cases e103
           replace hx103_0 := (HB.out.cell (World.block_lt_of_cell? w _ hx103_0)).trans hx103_0
           replace hx103_1 := (HB.out.cell (World.block_lt_of_cell? w _ hx103_1)).trans hx103_1
           replace hx103_2 := (HB.out.cell (World.block_lt_of_cell? w _ hx103_2)).trans hx103_2
           replace hx103_3 := (HB.out.cell (World.block_lt_of_cell? w _ hx103_3)).trans hx103_3
           replace p103 := eq_true p103
           replace q103 := eq_true q103
           go_wp2_with (first | ((with_reducible refine gate_dst (N := 6) rfl ?_); (try (refine gate_guard (by rfl) ?_; dsimp only)); refine box_event ?hg (N := 6) ?hd (cs := #[.int .i64 0, .string (⟨#[]⟩ : ByteArray), .bool false, .bool false]) (t := 24) ?hr ?_; (case hd => rfl); (case hg => rfl); (case hr => first | (go_simp; done) | (go_simp; rfl)); intro gb104 hg w35 hbox hb; have n0_ := Aside0.mk (below_step (by repeat (first | (with_reducible first | exact HB.out | apply below_alloc | apply pw_below_drewN | apply below_drew1) | exact HB.out)) hb); have n1_ := Aside0.mk (hbox); have n2_ := Aside0.mk ((by rw [hg]; exact (below_size (by repeat (first | (with_reducible first | exact HB.out | apply below_alloc | apply pw_below_drewN | apply below_drew1) | exact HB.out))) : w.heap.size ≤ gb104)); have n3_ := Aside0.mk ((by rw [hg]; exact (below_size (by repeat (first | (with_reducible first | exact HB.out | apply below_alloc | apply pw_below_drewN | apply below_drew1) | exact HB.out))) : w.heap.size ≤ gb104)); clear HB; have HB := n0_; have BK104 := n1_; have GW104 := n2_; have GE104 := n3_; clear n0_ n1_ n2_ n3_; clear hb hbox hg; have hcz36_0 : w35.cell? ⟨gb104, 0, none⟩ = some (.int .i64 0) := (blk_cell BK104.out 0).trans rfl; have hcz36_1 : w35.cell? ⟨gb104, 1, none⟩ = some (.string (⟨#[]⟩ : ByteArray)) := (blk_cell BK104.out 1).trans rfl; have hcz36_2 : w35.cell? ⟨gb104, 2, none⟩ = some (.bool false) := (blk_cell BK104.out 2).trans rfl; have hcz36_3 : w35.cell? ⟨gb104, 3, none⟩ = some (.bool false) := (blk_cell BK104.out 3).trans rfl; have hfz36_0 := blk_frozen BK104.out 0; have hfz36_1 := blk_frozen BK104.out 1; have hfz36_2 := blk_frozen BK104.out 2; have hfz36_3 := blk_frozen BK104.out 3) | ((with_reducible refine gate_callee (f := 31) rfl ?_); refine goesL_ (some 37) rfl rfl Tryd.func31 (by kernel_rfl) rfl #[.agg #[.int .i64 ((rd_T24 l0 x31_2).f0), .string ((rd_T24 l0 x31_2).f1), .bool ((rd_T24 l0 x31_2).f2), .bool ((rd_T24 l0 x31_2).f3)]] rfl (by (try simp only [List.map_toArray, List.map_cons, List.map_nil]); first | done | rfl | (simp only [List.length_drop, List.length_take]; rfl)) ?_; (with_reducible refine (rules_Print.calls ((rd_T24 l0 x31_2).f0) ((rd_T24 l0 x31_2).f1) ((rd_T24 l0 x31_2).f2) ((rd_T24 l0 x31_2).f3) t105 t106 _ A14.out).mono ?_); rintro e w37 ⟨rfl, hb⟩; refine ⟨_, rfl, ?_⟩; have n0_ := Aside0.mk (blk_below (g := gb104) (o := .cells #[.int .i64 ((rd_T24 l0 x31_2).f0), .string ((rd_T24 l0 x31_2).f1), .bool ((rd_T24 l0 x31_2).f2), .bool ((rd_T24 l0 x31_2).f3)] 24 (0, 0)) (by (with_reducible repeat (first | refine blk_drewN ?_ _ | refine blk_drew ?_ | refine blk_alloc ?_ _)); refine blk_put (cs := #[.int .i64 ((rd_T24 l0 x31_2).f0), .string ((rd_T24 l0 x31_2).f1), .bool ((rd_T24 l0 x31_2).f2), .bool false]) ?_ 3 _ rfl; (with_reducible repeat (first | refine blk_drewN ?_ _ | refine blk_drew ?_ | refine blk_alloc ?_ _)); refine blk_put (cs := #[.int .i64 ((rd_T24 l0 x31_2).f0), .string ((rd_T24 l0 x31_2).f1), .bool false, .bool false]) ?_ 2 _ rfl; (with_reducible repeat (first | refine blk_drewN ?_ _ | refine blk_drew ?_ | refine blk_alloc ?_ _)); refine blk_put (cs := #[.int .i64 ((rd_T24 l0 x31_2).f0), .string (⟨#[]⟩ : ByteArray), .bool false, .bool false]) ?_ 1 _ rfl; (with_reducible repeat (first | refine blk_drewN ?_ _ | refine blk_drew ?_ | refine blk_alloc ?_ _)); refine blk_put (cs := #[.int .i64 0, .string (⟨#[]⟩ : ByteArray), .bool false, .bool false]) ?_ 0 _ rfl; (with_reducible repeat (first | refine blk_drewN ?_ _ | refine blk_drew ?_ | refine blk_alloc ?_ _)); exact BK104.out) hb); have n1_ := Aside0.mk (below_step (by repeat (first | (with_reducible first | exact HB.out | apply below_alloc | apply pw_below_drewN | apply below_drew1 | refine below_set ?_ GE104.out) | exact HB.out)) hb); clear BK104; clear HB; have BK104 := n0_; have HB := n1_; clear n0_ n1_; (try clear hb); (try clear hb2); (try clear hk); (try clear hi)) | ((with_reducible refine gate_callee (f := 11) rfl ?_); refine goesL_ (some 42) rfl rfl Tryd.func11 (by kernel_rfl) rfl #[.string t105] rfl (by (try simp only [List.map_toArray, List.map_cons, List.map_nil]); first | done | rfl | (simp only [List.length_drop, List.length_take]; rfl)) ?_; (with_reducible refine (rules_Parse.calls t105 t107 t108 t109 t110 t111 _ A15.out).mono ?_); rintro e w38 ⟨rfl, hb⟩; refine ⟨_, rfl, ?_⟩; have n0_ := Aside0.mk (blk_below (g := gb104) (o := .cells #[.int .i64 ((rd_T24 l0 x31_2).f0), .string ((rd_T24 l0 x31_2).f1), .bool ((rd_T24 l0 x31_2).f2), .bool ((rd_T24 l0 x31_2).f3)] 24 (0, 0)) (by (with_reducible repeat (first | refine blk_drewN ?_ _ | refine blk_drew ?_ | refine blk_alloc ?_ _)); exact BK104.out) hb); have n1_ := Aside0.mk (below_step (by repeat (first | (with_reducible first | exact HB.out | apply below_alloc | apply pw_below_drewN | apply below_drew1 | refine below_set ?_ GE104.out) | exact HB.out)) hb); clear BK104; clear HB; have BK104 := n0_; have HB := n1_; clear n0_ n1_; (try clear hb); (try clear hb2); (try clear hk); (try clear hi)) | ((with_reducible refine gate_dst (N := 9) rfl ?_); (try (refine gate_guard (by rfl) ?_; dsimp only)); refine box_event ?hg (N := 9) ?hd (cs := #[.int .i64 0, .string (⟨#[]⟩ : ByteArray), .bool false, .bool false]) (t := 24) ?hr ?_; (case hd => rfl); (case hg => rfl); (case hr => first | (go_simp; done) | (go_simp; rfl)); intro gb112 hg w39 hbox hb; have n0_ := Aside0.mk (blk_below (g := gb104) (o := .cells #[.int .i64 ((rd_T24 l0 x31_2).f0), .string ((rd_T24 l0 x31_2).f1), .bool ((rd_T24 l0 x31_2).f2), .bool ((rd_T24 l0 x31_2).f3)] 24 (0, 0)) (by (with_reducible repeat (first | refine blk_drewN ?_ _ | refine blk_drew ?_ | refine blk_alloc ?_ _)); exact BK104.out) hb); have n1_ := Aside0.mk (below_step (by repeat (first | (with_reducible first | exact HB.out | apply below_alloc | apply pw_below_drewN | apply below_drew1 | refine below_set ?_ GE104.out) | exact HB.out)) hb); have n2_ := Aside0.mk (hbox); have n3_ := Aside0.mk ((by rw [hg]; exact (below_size (by repeat (first | (with_reducible first | exact HB.out | apply below_alloc | apply pw_below_drewN | apply below_drew1 | refine below_set ?_ GE104.out) | exact HB.out))) : w.heap.size ≤ gb112)); have n4_ := Aside0.mk ((by rw [hg]; exact (below_size (by repeat (first | (with_reducible first | exact HB.out | apply below_alloc | apply pw_below_drewN | apply below_drew1 | refine below_set ?_ GE104.out) | exact HB.out))) : w.heap.size ≤ gb112)); have n5_ := Aside0.mk ((by rw [hg]; exact Nat.ne_of_lt (blk_lt (g := gb104) (o := .cells #[.int .i64 ((rd_T24 l0 x31_2).f0), .string ((rd_T24 l0 x31_2).f1), .bool ((rd_T24 l0 x31_2).f2), .bool ((rd_T24 l0 x31_2).f3)] 24 (0, 0)) (by (with_reducible repeat (first | refine blk_drewN ?_ _ | refine blk_drew ?_ | refine blk_alloc ?_ _)); exact BK104.out)) : gb104 ≠ gb112)); have n6_ := Aside0.mk ((by rw [hg]; exact Nat.ne_of_gt (blk_lt (g := gb104) (o := .cells #[.int .i64 ((rd_T24 l0 x31_2).f0), .string ((rd_T24 l0 x31_2).f1), .bool ((rd_T24 l0 x31_2).f2), .bool ((rd_T24 l0 x31_2).f3)] 24 (0, 0)) (by (with_reducible repeat (first | refine blk_drewN ?_ _ | refine blk_drew ?_ | refine blk_alloc ?_ _)); exact BK104.out)) : gb112 ≠ gb104)); clear BK104; clear HB; have BK104 := n0_; have HB := n1_; have BK112 := n2_; have GW112 := n3_; have GE112 := n4_; have NB104_112 := n5_; have NB112_104 := n6_; clear n0_ n1_ n2_ n3_ n4_ n5_ n6_; clear hb hbox hg; have hnb40 := NB112_104.out; have hnc40 := NB104_112.out; have hcz41_0 : w39.cell? ⟨gb112, 0, none⟩ = some (.int .i64 0) := (blk_cell BK112.out 0).trans rfl; have hcz41_1 : w39.cell? ⟨gb112, 1, none⟩ = some (.string (⟨#[]⟩ : ByteArray)) := (blk_cell BK112.out 1).trans rfl; have hcz41_2 : w39.cell? ⟨gb112, 2, none⟩ = some (.bool false) := (blk_cell BK112.out 2).trans rfl; have hcz41_3 : w39.cell? ⟨gb112, 3, none⟩ = some (.bool false) := (blk_cell BK112.out 3).trans rfl; have hfz41_0 := blk_frozen BK112.out 0; have hfz41_1 := blk_frozen BK112.out 1; have hfz41_2 := blk_frozen BK112.out 2; have hfz41_3 := blk_frozen BK112.out 3))
           go_ret
           exact ⟨by first | rfl | (simp [errW_none, errW_some] <;> rfl) | (simp [*, errW_none, errW_some] <;> rfl), by repeat (first | (with_reducible first | exact HB.out | apply below_alloc | apply pw_below_drewN | apply below_drew1 | refine below_set ?_ GE104.out | refine below_set ?_ GE112.out) | exact HB.out)⟩
         ·rw [if_neg c16] at H
          have c16b0 : (t106 == 0) = false := beq_eq_false_iff_ne.mpr c16
          have c16b1 : (t106 != 0) = true := bne_iff_ne.mpr c16
          have H' := Aside0.mk H
          clear H
          have p103 : 0 ≤ (x31_2 : Int) := of_decide_eq_true (by first | (with_reducible assumption) | assumption)
          have q103 : x31_2 < (l0.length : Int) := of_decide_eq_true (by first | (with_reducible assumption) | assumption)
          obtain ⟨ad103, e103, hx103_0, hx103_1, hx103_2, hx103_3⟩ := at_T24 HR0.out x31_2 p103 q103
          cases e103
          replace hx103_0 := (HB.out.cell (World.block_lt_of_cell? w _ hx103_0)).trans hx103_0
          replace hx103_1 := (HB.out.cell (World.block_lt_of_cell? w _ hx103_1)).trans hx103_1
          replace hx103_2 := (HB.out.cell (World.block_lt_of_cell? w _ hx103_2)).trans hx103_2
          replace hx103_3 := (HB.out.cell (World.block_lt_of_cell? w _ hx103_3)).trans hx103_3
          replace p103 := eq_true p103
          replace q103 := eq_true q103
          go_wp2_with (first | ((with_reducible refine gate_dst (N := 6) rfl ?_); (try (refine gate_guard (by rfl) ?_; dsimp only)); refine box_event ?hg (N := 6) ?hd (cs := #[.int .i64 0, .string (⟨#[]⟩ : ByteArray), .bool false, .bool false]) (t := 24) ?hr ?_; (case hd => rfl); (case hg => rfl); (case hr => first | (go_simp; done) | (go_simp; rfl)); intro gb104 hg w42 hbox hb; have n0_ := Aside0.mk (below_step (by repeat (first | (with_reducible first | exact HB.out | apply below_alloc | apply pw_below_drewN | apply below_drew1) | exact HB.out)) hb); have n1_ := Aside0.mk (hbox); have n2_ := Aside0.mk ((by rw [hg]; exact (below_size (by repeat (first | (with_reducible first | exact HB.out | apply below_alloc | apply pw_below_drewN | apply below_drew1) | exact HB.out))) : w.heap.size ≤ gb104)); have n3_ := Aside0.mk ((by rw [hg]; exact (below_size (by repeat (first | (with_reducible first | exact HB.out | apply below_alloc | apply pw_below_drewN | apply below_drew1) | exact HB.out))) : w.heap.size ≤ gb104)); clear HB; have HB := n0_; have BK104 := n1_; have GW104 := n2_; have GE104 := n3_; clear n0_ n1_ n2_ n3_; clear hb hbox hg; have hcz43_0 : w42.cell? ⟨gb104, 0, none⟩ = some (.int .i64 0) := (blk_cell BK104.out 0).trans rfl; have hcz43_1 : w42.cell? ⟨gb104, 1, none⟩ = some (.string (⟨#[]⟩ : ByteArray)) := (blk_cell BK104.out 1).trans rfl; have hcz43_2 : w42.cell? ⟨gb104, 2, none⟩ = some (.bool false) := (blk_cell BK104.out 2).trans rfl; have hcz43_3 : w42.cell? ⟨gb104, 3, none⟩ = some (.bool false) := (blk_cell BK104.out 3).trans rfl; have hfz43_0 := blk_frozen BK104.out 0; have hfz43_1 := blk_frozen BK104.out 1; have hfz43_2 := blk_frozen BK104.out 2; have hfz43_3 := blk_frozen BK104.out 3) | ((with_reducible refine gate_callee (f := 31) rfl ?_); refine goesL_ (some 37) rfl rfl Tryd.func31 (by kernel_rfl) rfl #[.agg #[.int .i64 ((rd_T24 l0 x31_2).f0), .string ((rd_T24 l0 x31_2).f1), .bool ((rd_T24 l0 x31_2).f2), .bool ((rd_T24 l0 x31_2).f3)]] rfl (by (try simp only [List.map_toArray, List.map_cons, List.map_nil]); first | done | rfl | (simp only [List.length_drop, List.length_take]; rfl)) ?_; (with_reducible refine (rules_Print.calls ((rd_T24 l0 x31_2).f0) ((rd_T24 l0 x31_2).f1) ((rd_T24 l0 x31_2).f2) ((rd_T24 l0 x31_2).f3) t105 t106 _ A14.out).mono ?_); rintro e w44 ⟨rfl, hb⟩; refine ⟨_, rfl, ?_⟩; have n0_ := Aside0.mk (blk_below (g := gb104) (o := .cells #[.int .i64 ((rd_T24 l0 x31_2).f0), .string ((rd_T24 l0 x31_2).f1), .bool ((rd_T24 l0 x31_2).f2), .bool ((rd_T24 l0 x31_2).f3)] 24 (0, 0)) (by (with_reducible repeat (first | refine blk_drewN ?_ _ | refine blk_drew ?_ | refine blk_alloc ?_ _)); refine blk_put (cs := #[.int .i64 ((rd_T24 l0 x31_2).f0), .string ((rd_T24 l0 x31_2).f1), .bool ((rd_T24 l0 x31_2).f2), .bool false]) ?_ 3 _ rfl; (with_reducible repeat (first | refine blk_drewN ?_ _ | refine blk_drew ?_ | refine blk_alloc ?_ _)); refine blk_put (cs := #[.int .i64 ((rd_T24 l0 x31_2).f0), .string ((rd_T24 l0 x31_2).f1), .bool false, .bool false]) ?_ 2 _ rfl; (with_reducible repeat (first | refine blk_drewN ?_ _ | refine blk_drew ?_ | refine blk_alloc ?_ _)); refine blk_put (cs := #[.int .i64 ((rd_T24 l0 x31_2).f0), .string (⟨#[]⟩ : ByteArray), .bool false, .bool false]) ?_ 1 _ rfl; (with_reducible repeat (first | refine blk_drewN ?_ _ | refine blk_drew ?_ | refine blk_alloc ?_ _)); refine blk_put (cs := #[.int .i64 0, .string (⟨#[]⟩ : ByteArray), .bool false, .bool false]) ?_ 0 _ rfl; (with_reducible repeat (first | refine blk_drewN ?_ _ | refine blk_drew ?_ | refine blk_alloc ?_ _)); exact BK104.out) hb); have n1_ := Aside0.mk (below_step (by repeat (first | (with_reducible first | exact HB.out | apply below_alloc | apply pw_below_drewN | apply below_drew1 | refine below_set ?_ GE104.out) | exact HB.out)) hb); clear BK104; clear HB; have BK104 := n0_; have HB := n1_; clear n0_ n1_; (try clear hb); (try clear hb2); (try clear hk); (try clear hi)) | ((with_reducible refine gate_callee (f := 11) rfl ?_); refine goesL_ (some 42) rfl rfl Tryd.func11 (by kernel_rfl) rfl #[.string t105] rfl (by (try simp only [List.map_toArray, List.map_cons, List.map_nil]); first | done | rfl | (simp only [List.length_drop, List.length_take]; rfl)) ?_; (with_reducible refine (rules_Parse.calls t105 t107 t108 t109 t110 t111 _ A15.out).mono ?_); rintro e w45 ⟨rfl, hb⟩; refine ⟨_, rfl, ?_⟩; have n0_ := Aside0.mk (blk_below (g := gb104) (o := .cells #[.int .i64 ((rd_T24 l0 x31_2).f0), .string ((rd_T24 l0 x31_2).f1), .bool ((rd_T24 l0 x31_2).f2), .bool ((rd_T24 l0 x31_2).f3)] 24 (0, 0)) (by (with_reducible repeat (first | refine blk_drewN ?_ _ | refine blk_drew ?_ | refine blk_alloc ?_ _)); exact BK104.out) hb); have n1_ := Aside0.mk (below_step (by repeat (first | (with_reducible first | exact HB.out | apply below_alloc | apply pw_below_drewN | apply below_drew1 | refine below_set ?_ GE104.out) | exact HB.out)) hb); clear BK104; clear HB; have BK104 := n0_; have HB := n1_; clear n0_ n1_; (try clear hb); (try clear hb2); (try clear hk); (try clear hi)) | ((with_reducible refine gate_dst (N := 9) rfl ?_); (try (refine gate_guard (by rfl) ?_; dsimp only)); refine box_event ?hg (N := 9) ?hd (cs := #[.int .i64 0, .string (⟨#[]⟩ : ByteArray), .bool false, .bool false]) (t := 24) ?hr ?_; (case hd => rfl); (case hg => rfl); (case hr => first | (go_simp; done) | (go_simp; rfl)); intro gb112 hg w46 hbox hb; have n0_ := Aside0.mk (blk_below (g := gb104) (o := .cells #[.int .i64 ((rd_T24 l0 x31_2).f0), .string ((rd_T24 l0 x31_2).f1), .bool ((rd_T24 l0 x31_2).f2), .bool ((rd_T24 l0 x31_2).f3)] 24 (0, 0)) (by (with_reducible repeat (first | refine blk_drewN ?_ _ | refine blk_drew ?_ | refine blk_alloc ?_ _)); exact BK104.out) hb); have n1_ := Aside0.mk (below_step (by repeat (first | (with_reducible first | exact HB.out | apply below_alloc | apply pw_below_drewN | apply below_drew1 | refine below_set ?_ GE104.out) | exact HB.out)) hb); have n2_ := Aside0.mk (hbox); have n3_ := Aside0.mk ((by rw [hg]; exact (below_size (by repeat (first | (with_reducible first | exact HB.out | apply below_alloc | apply pw_below_drewN | apply below_drew1 | refine below_set ?_ GE104.out) | exact HB.out))) : w.heap.size ≤ gb112)); have n4_ := Aside0.mk ((by rw [hg]; exact (below_size (by repeat (first | (with_reducible first | exact HB.out | apply below_alloc | apply pw_below_drewN | apply below_drew1 | refine below_set ?_ GE104.out) | exact HB.out))) : w.heap.size ≤ gb112)); have n5_ := Aside0.mk ((by rw [hg]; exact Nat.ne_of_lt (blk_lt (g := gb104) (o := .cells #[.int .i64 ((rd_T24 l0 x31_2).f0), .string ((rd_T24 l0 x31_2).f1), .bool ((rd_T24 l0 x31_2).f2), .bool ((rd_T24 l0 x31_2).f3)] 24 (0, 0)) (by (with_reducible repeat (first | refine blk_drewN ?_ _ | refine blk_drew ?_ | refine blk_alloc ?_ _)); exact BK104.out)) : gb104 ≠ gb112)); have n6_ := Aside0.mk ((by rw [hg]; exact Nat.ne_of_gt (blk_lt (g := gb104) (o := .cells #[.int .i64 ((rd_T24 l0 x31_2).f0), .string ((rd_T24 l0 x31_2).f1), .bool ((rd_T24 l0 x31_2).f2), .bool ((rd_T24 l0 x31_2).f3)] 24 (0, 0)) (by (with_reducible repeat (first | refine blk_drewN ?_ _ | refine blk_drew ?_ | refine blk_alloc ?_ _)); exact BK104.out)) : gb112 ≠ gb104)); clear BK104; clear HB; have BK104 := n0_; have HB := n1_; have BK112 := n2_; have GW112 := n3_; have GE112 := n4_; have NB104_112 := n5_; have NB112_104 := n6_; clear n0_ n1_ n2_ n3_ n4_ n5_ n6_; clear hb hbox hg; have hnb47 := NB112_104.out; have hnc47 := NB104_112.out; have hcz48_0 : w46.cell? ⟨gb112, 0, none⟩ = some (.int .i64 0) := (blk_cell BK112.out 0).trans rfl; have hcz48_1 : w46.cell? ⟨gb112, 1, none⟩ = some (.string (⟨#[]⟩ : ByteArray)) := (blk_cell BK112.out 1).trans rfl; have hcz48_2 : w46.cell? ⟨gb112, 2, none⟩ = some (.bool false) := (blk_cell BK112.out 2).trans rfl; have hcz48_3 : w46.cell? ⟨gb112, 3, none⟩ = some (.bool false) := (blk_cell BK112.out 3).trans rfl; have hfz48_0 := blk_frozen BK112.out 0; have hfz48_1 := blk_frozen BK112.out 1; have hfz48_2 := blk_frozen BK112.out 2; have hfz48_3 := blk_frozen BK112.out 3))
          go_roundg k2
          case measure => have := HJ2.out; have := HK2.out; omega
          case rel => exact ⟨(wrap64 (x31_2 + 1)), (by first | rfl | (simp; done) | (simp [*]; done)), H', ⟨by have := HJ2.out; have := HK2.out; omega⟩, ⟨by repeat (first | (with_reducible first | exact HB.out | apply below_alloc | apply pw_below_drewN | apply below_drew1 | refine below_set ?_ GE104.out | refine below_set ?_ GE112.out) | exact HB.out)⟩⟩
        ·rw [if_neg c13] at H
         exact absurd H (by simp)
       ·rw [if_neg c12] at H
        exact absurd H (by simp)
      ·rw [if_neg c11] at H
       have c11b0 : decide (x31_2 < (l0.length : Int)) = false := decide_eq_false c11
       clear c11
       replace H := Option.bind_eq_some_iff.mp H
       obtain ⟨⟨t113, t114⟩, A490, H⟩ := H
       replace H : ((rules_Lines.f k2 t113).bind fun bt115 => (if t114 = 0 then (if bt115.2.2 = 0 then (if bt115.2.1 = 0 then ((remoralaw15_same.f k2 l0 bt115.1).bind fun t120 => (remoralaw15_RulesBack.j2 k2 a1 (!t120))) else (remoralaw15_RulesBack.j2 k2 a1 true)) else (remoralaw15_RulesBack.j2 k2 a1 true)) else (remoralaw15_RulesBack.j2 k2 a1 false))) = some r := H
       have A49 := Aside0.mk A490
       clear A490
       replace H := Option.bind_eq_some_iff.mp H
       obtain ⟨⟨t115, t116, t117⟩, A500, H⟩ := H
       replace H : (if t114 = 0 then (if t117 = 0 then (if t116 = 0 then ((remoralaw15_same.f k2 l0 t115).bind fun t120 => (remoralaw15_RulesBack.j2 k2 a1 (!t120))) else (remoralaw15_RulesBack.j2 k2 a1 true)) else (remoralaw15_RulesBack.j2 k2 a1 true)) else (remoralaw15_RulesBack.j2 k2 a1 false)) = some r := H
       have A50 := Aside0.mk A500
       clear A500
       have HC51 := Aside0.mk H
       clear H
       go_upto_region 13 with (first | ((with_reducible refine gate_callee (f := 29) rfl ?_); refine goesL_ (some 59) rfl rfl Tryd.func29 (by kernel_rfl) rfl #[.slice A0 l0.length c0] rfl (by (try simp only [List.map_toArray, List.map_cons, List.map_nil]); first | done | rfl | (simp only [List.length_drop, List.length_take]; rfl)) ?_; (with_reducible refine (rules_Text.calls k2 _ _ l0 t113 t114 _ ?side1 ?side2 A49.out).mono ?_); (case side1 => repeat (first | exact (Kd.C_below HR0.out HB.out) | (with_reducible refine Kd.C_alloc ?_ _) | (with_reducible refine Kd.C_drewN ?_ _) | (with_reducible refine Kd.C_drew ?_))); (case side2 => exact HC0.out); rintro e w52 ⟨rfl, hb⟩; refine ⟨_, rfl, ?_⟩; have n0_ := Aside0.mk (below_step (by repeat (first | (with_reducible first | exact HB.out | apply below_alloc | apply pw_below_drewN | apply below_drew1) | exact HB.out)) hb); clear HB; have HB := n0_; clear n0_; (try clear hb); (try clear hb2); (try clear hk); (try clear hi)) | ((with_reducible refine gate_callee (f := 13) rfl ?_); refine goesL_ (some 64) rfl rfl Tryd.func13 (by kernel_rfl) rfl #[.string t113] rfl (by (try simp only [List.map_toArray, List.map_cons, List.map_nil]); first | done | rfl | (simp only [List.length_drop, List.length_take]; rfl)) ?_; (with_reducible refine (rules_Lines.calls k2 t113 t115 t116 t117 _ A50.out).mono ?_); rintro e w53 ⟨v118, rfl, ho0, hb⟩; refine ⟨_, rfl, ?_⟩; have n0_ := Aside0.mk (Kd.R_lower ho0 (below_size (by repeat (first | (with_reducible first | exact HB.out | apply below_alloc | apply pw_below_drewN | apply below_drew1) | exact HB.out)))); have n1_ := Aside0.mk (below_step (by repeat (first | (with_reducible first | exact HB.out | apply below_alloc | apply pw_below_drewN | apply below_drew1) | exact HB.out)) hb); clear HB; have HO119 := n0_; have HB := n1_; clear n0_ n1_; (try clear hb); (try clear hb2); (try clear hk); (try clear hi); (try clear ho0)))
       (try simp only [Act.put, List.setIfInBounds_toArray, List.set_cons_zero, List.set_cons_succ])
       go_cut [83] (fun v83 wc => ∃ (kq : Nat) (x83_50 : Bool), v83 = .bool x83_50 ∧ Aside0 (remoralaw15_RulesBack.j2 kq a1 x83_50 = some r) ∧ Aside0 (kq ≤ k2) ∧ Aside0 (Below w.heap.size w wc))
       case first =>
        have H := HC51.out
        clear HC51
        by_cases c54 : t114 = 0
        ·rw [if_pos c54] at H
         have c54b0 : (t114 == 0) = true := beq_iff_eq.mpr c54
         have c54b1 : (t114 != 0) = false := bne_eq_false_iff_eq.mpr c54
         clear c54
         (first | rw [c54b0] | (simp only [i64_w, i32_w]; rw [c54b0]) | skip)
         by_cases c55 : t117 = 0
         ·rw [if_pos c55] at H
          have c55b0 : (t117 == 0) = true := beq_iff_eq.mpr c55
          have c55b1 : (t117 != 0) = false := bne_eq_false_iff_eq.mpr c55
          clear c55
          by_cases c56 : t116 = 0
          ·rw [if_pos c56] at H
           have c56b0 : (t116 == 0) = true := beq_iff_eq.mpr c56
           have c56b1 : (t116 != 0) = false := bne_eq_false_iff_eq.mpr c56
           clear c56
           replace H := Option.bind_eq_some_iff.mp H
           obtain ⟨t120, A570, H⟩ := H
           replace H : (remoralaw15_RulesBack.j2 k2 a1 (!t120)) = some r := H
           have A57 := Aside0.mk A570
           clear A570
           have H' := Aside0.mk H
           clear H
           obtain ⟨Ao58, co58, eo58⟩ := Kd.R_slice HO119.out
           subst eo58
           go_wp2_with (first | (go_at_call 15; (with_reducible refine (remoralaw15_same.calls k2 _ _ l0 _ _ t115 t120 _ ?side1 ?side2 ?side3 ?side4 A57.out).mono ?_); (case side1 => repeat (first | exact (Kd.C_below HR0.out HB.out) | (with_reducible refine Kd.C_alloc ?_ _) | (with_reducible refine Kd.C_drewN ?_ _) | (with_reducible refine Kd.C_drew ?_))); (case side2 => exact HC0.out); (case side3 => repeat (first | exact (Kd.R_reads' HO119.out).2.2 | (with_reducible refine Kd.C_alloc ?_ _) | (with_reducible refine Kd.C_drewN ?_ _) | (with_reducible refine Kd.C_drew ?_))); (case side4 => exact (Kd.R_reads' HO119.out).2.1); rintro e w' ⟨rfl, ⟨nd, rfl⟩⟩))
           go_meet
           case rel => exact ⟨_, (!t120), (by first | rfl | (simp; done) | (simp [*]; done)), H', ⟨by have := HJ2.out; have := HK2.out; first | omega | exact Nat.le_refl _⟩, ⟨by repeat (first | (with_reducible first | exact HB.out | apply below_alloc | apply pw_below_drewN | apply below_drew1) | exact HB.out)⟩⟩
          ·rw [if_neg c56] at H
           have c56b0 : (t116 == 0) = false := beq_eq_false_iff_ne.mpr c56
           have c56b1 : (t116 != 0) = true := bne_iff_ne.mpr c56
           have H' := Aside0.mk H
           clear H
           go_wp2
           go_meet
           case rel => exact ⟨_, (true), (by first | rfl | (simp; done) | (simp [*]; done)), H', ⟨by have := HJ2.out; have := HK2.out; first | omega | exact Nat.le_refl _⟩, ⟨by repeat (first | (with_reducible first | exact HB.out | apply below_alloc | apply pw_below_drewN | apply below_drew1) | exact HB.out)⟩⟩
         ·rw [if_neg c55] at H
          have c55b0 : (t117 == 0) = false := beq_eq_false_iff_ne.mpr c55
          have c55b1 : (t117 != 0) = true := bne_iff_ne.mpr c55
          have H' := Aside0.mk H
          clear H
          go_wp2
          go_meet
          case rel => exact ⟨_, (true), (by first | rfl | (simp; done) | (simp [*]; done)), H', ⟨by have := HJ2.out; have := HK2.out; first | omega | exact Nat.le_refl _⟩, ⟨by repeat (first | (with_reducible first | exact HB.out | apply below_alloc | apply pw_below_drewN | apply below_drew1) | exact HB.out)⟩⟩
        ·rw [if_neg c54] at H
         have c54b0 : (t114 == 0) = false := beq_eq_false_iff_ne.mpr c54
         have c54b1 : (t114 != 0) = true := bne_iff_ne.mpr c54
         (first | rw [c54b0] | (simp only [i64_w, i32_w]; rw [c54b0]) | skip)
         have H' := Aside0.mk H
         clear H
         go_wp2
         go_meet
         case rel => exact ⟨_, (false), (by first | rfl | (simp; done) | (simp [*]; done)), H', ⟨by have := HJ2.out; have := HK2.out; first | omega | exact Nat.le_refl _⟩, ⟨by repeat (first | (with_reducible first | exact HB.out | apply below_alloc | apply pw_below_drewN | apply below_drew1) | exact HB.out)⟩⟩
       case rest =>
        clear HC51
        try clear c1
        try clear p1
        try clear q1
        try clear hx1
        try clear c2
        try clear p2
        try clear c3
        try clear c4
        try clear c5
        try clear p6
        try clear c8
        try clear c10
        try clear p10
        try clear q10
        try clear hx10
        try clear c11
        try clear c11b0
        try clear c12
        try clear c12b0
        try clear c13
        try clear c13b0
        try clear c16
        try clear c16b0
        try clear c16b1
        try clear c17
        try clear c17b0
        try clear c17b1
        try clear c18
        try clear c18b0
        try clear c24
        try clear c29
        try clear c31
        try clear c32
        try clear c40
        try clear c47
        try clear c54
        try clear c54b0
        try clear c54b1
        try clear c55
        try clear c55b0
        try clear c55b1
        try clear c56
        try clear c56b0
        try clear c56b1
        try clear hcz20_0
        try clear hcz20_1
        try clear hcz20_2
        try clear hcz20_3
        try clear hcz25_0
        try clear hcz25_1
        try clear hcz25_2
        try clear hcz25_3
        try clear hcz26_0
        try clear hcz26_1
        try clear hcz26_2
        try clear hcz26_3
        try clear hcz28_0
        try clear hcz28_1
        try clear hcz28_2
        try clear hcz28_3
        try clear hcz33_0
        try clear hcz33_1
        try clear hcz33_2
        try clear hcz33_3
        try clear hcz34_0
        try clear hcz34_1
        try clear hcz34_2
        try clear hcz34_3
        try clear hcz36_0
        try clear hcz36_1
        try clear hcz36_2
        try clear hcz36_3
        try clear hcz41_0
        try clear hcz41_1
        try clear hcz41_2
        try clear hcz41_3
        try clear hcz43_0
        try clear hcz43_1
        try clear hcz43_2
        try clear hcz43_3
        try clear hcz48_0
        try clear hcz48_1
        try clear hcz48_2
        try clear hcz48_3
        try clear hfz20_0
        try clear hfz20_1
        try clear hfz20_2
        try clear hfz20_3
        try clear hfz25_0
        try clear hfz25_1
        try clear hfz25_2
        try clear hfz25_3
        try clear hfz26_0
        try clear hfz26_1
        try clear hfz26_2
        try clear hfz26_3
        try clear hfz28_0
        try clear hfz28_1
        try clear hfz28_2
        try clear hfz28_3
        try clear hfz33_0
        try clear hfz33_1
        try clear hfz33_2
        try clear hfz33_3
        try clear hfz34_0
        try clear hfz34_1
        try clear hfz34_2
        try clear hfz34_3
        try clear hfz36_0
        try clear hfz36_1
        try clear hfz36_2
        try clear hfz36_3
        try clear hfz41_0
        try clear hfz41_1
        try clear hfz41_2
        try clear hfz41_3
        try clear hfz43_0
        try clear hfz43_1
        try clear hfz43_2
        try clear hfz43_3
        try clear hfz48_0
        try clear hfz48_1
        try clear hfz48_2
        try clear hfz48_3
        try clear hx103_0
        try clear hx103_1
        try clear hx103_2
        try clear hx103_3
        try clear p103
        try clear p2
        try clear q103
        obtain ⟨kq, x83_50, rfl, HA, HJ50, HB⟩ := hcut
        cases kq with
        | zero => exact absurd HA.out (by simp [remoralaw15_RulesBack.j2])
        | succ kj50 =>
         have H := HA.out
         clear HA
         simp only [remoralaw15_RulesBack.j2] at H
         by_cases c59 : x83_50 = true
         ·subst c59
          have H1 : (some false) = some r := by rw [if_pos rfl] at H; exact H
          clear H
          have H := H1
          clear H1
          obtain rfl := Option.some.inj H
          go_wp2
          go_ret
          exact ⟨by first | rfl | (simp [errW_none, errW_some] <;> rfl) | (simp [*, errW_none, errW_some] <;> rfl), by repeat (first | (with_reducible first | exact HB.out | apply below_alloc | apply pw_below_drewN | apply below_drew1) | exact HB.out)⟩
         ·replace c59 := Bool.eq_false_iff.mpr c59
          subst c59
          have H1 : ((rules_Parse.f a1).bind fun bt121 => ((rules_Print.f bt121.1 bt121.2.1 bt121.2.2.1 bt121.2.2.2.1).bind fun bt127 => (if bt121.2.2.2.2 = 0 then (if bt127.2 = 0 then (if bt127.1.toList = a1.toList then ((remoralaw15_awake.f).bind fun t129 => (some t129)) else (some false)) else (some false)) else ((remoralaw15_awake.f).bind fun t130 => (some t130))))) = some r := by rw [if_neg (show ¬ (false = true) by decide)] at H; exact H
          clear H
          have H := H1
          clear H1
          replace H := Option.bind_eq_some_iff.mp H
          obtain ⟨⟨t121, t122, t123, t124, t125⟩, A600, H⟩ := H
          replace H : ((rules_Print.f t121 t122 t123 t124).bind fun bt127 => (if t125 = 0 then (if bt127.2 = 0 then (if bt127.1.toList = a1.toList then ((remoralaw15_awake.f).bind fun t129 => (some t129)) else (some false)) else (some false)) else ((remoralaw15_awake.f).bind fun t130 => (some t130)))) = some r := H
          have A60 := Aside0.mk A600
          clear A600
          replace H := Option.bind_eq_some_iff.mp H
          obtain ⟨⟨t127, t128⟩, A610, H⟩ := H
          replace H : (if t125 = 0 then (if t128 = 0 then (if t127.toList = a1.toList then ((remoralaw15_awake.f).bind fun t129 => (some t129)) else (some false)) else (some false)) else ((remoralaw15_awake.f).bind fun t130 => (some t130))) = some r := H
          have A61 := Aside0.mk A610
          clear A610
          by_cases c62 : t125 = 0
          ·rw [if_pos c62] at H
           have c62b0 : (t125 == 0) = true := beq_iff_eq.mpr c62
           have c62b1 : (t125 != 0) = false := bne_eq_false_iff_eq.mpr c62
           clear c62
           by_cases c63 : t128 = 0
           ·rw [if_pos c63] at H
            have c63b0 : (t128 == 0) = true := beq_iff_eq.mpr c63
            have c63b1 : (t128 != 0) = false := bne_eq_false_iff_eq.mpr c63
            clear c63
            by_cases c64 : t127.toList = a1.toList
            ·rw [if_pos c64] at H
             have c64b0 : (t127.toList == a1.toList) = true := beq_iff_eq.mpr c64
             have c64b1 : (t127.toList != a1.toList) = false := bne_eq_false_iff_eq.mpr c64
             clear c64
             replace H := Option.bind_eq_some_iff.mp H
             obtain ⟨t129, A650, H⟩ := H
             replace H : (some t129) = some r := H
             have A65 := Aside0.mk A650
             clear A650
             obtain rfl := Option.some.inj H
             go_wp2_with (first | ((with_reducible refine gate_callee (f := 11) rfl ?_); refine goesL_ (some 86) rfl rfl Tryd.func11 (by kernel_rfl) rfl #[.string a1] rfl (by (try simp only [List.map_toArray, List.map_cons, List.map_nil]); first | done | rfl | (simp only [List.length_drop, List.length_take]; rfl)) ?_; (with_reducible refine (rules_Parse.calls a1 t121 t122 t123 t124 t125 _ A60.out).mono ?_); rintro e w66 ⟨rfl, hb⟩; refine ⟨_, rfl, ?_⟩; have n0_ := Aside0.mk (below_step (by repeat (first | (with_reducible first | exact HB.out | apply below_alloc | apply pw_below_drewN | apply below_drew1) | exact HB.out)) hb); clear HB; have HB := n0_; clear n0_; (try clear hb); (try clear hb2); (try clear hk); (try clear hi)) | ((with_reducible refine gate_dst (N := 16) rfl ?_); (try (refine gate_guard (by rfl) ?_; dsimp only)); refine box_event ?hg (N := 16) ?hd (cs := #[.int .i64 0, .string (⟨#[]⟩ : ByteArray), .bool false, .bool false]) (t := 24) ?hr ?_; (case hd => rfl); (case hg => rfl); (case hr => first | (go_simp; done) | (go_simp; rfl)); intro gb126 hg w67 hbox hb; have n0_ := Aside0.mk (below_step (by repeat (first | (with_reducible first | exact HB.out | apply below_alloc | apply pw_below_drewN | apply below_drew1) | exact HB.out)) hb); have n1_ := Aside0.mk (hbox); have n2_ := Aside0.mk ((by rw [hg]; exact (below_size (by repeat (first | (with_reducible first | exact HB.out | apply below_alloc | apply pw_below_drewN | apply below_drew1) | exact HB.out))) : w.heap.size ≤ gb126)); have n3_ := Aside0.mk ((by rw [hg]; exact (below_size (by repeat (first | (with_reducible first | exact HB.out | apply below_alloc | apply pw_below_drewN | apply below_drew1) | exact HB.out))) : w.heap.size ≤ gb126)); clear HB; have HB := n0_; have BK126 := n1_; have GW126 := n2_; have GE126 := n3_; clear n0_ n1_ n2_ n3_; clear hb hbox hg; have hcz68_0 : w67.cell? ⟨gb126, 0, none⟩ = some (.int .i64 0) := (blk_cell BK126.out 0).trans rfl; have hcz68_1 : w67.cell? ⟨gb126, 1, none⟩ = some (.string (⟨#[]⟩ : ByteArray)) := (blk_cell BK126.out 1).trans rfl; have hcz68_2 : w67.cell? ⟨gb126, 2, none⟩ = some (.bool false) := (blk_cell BK126.out 2).trans rfl; have hcz68_3 : w67.cell? ⟨gb126, 3, none⟩ = some (.bool false) := (blk_cell BK126.out 3).trans rfl; have hfz68_0 := blk_frozen BK126.out 0; have hfz68_1 := blk_frozen BK126.out 1; have hfz68_2 := blk_frozen BK126.out 2; have hfz68_3 := blk_frozen BK126.out 3) | ((with_reducible refine gate_callee (f := 31) rfl ?_); refine goesL_ (some 91) rfl rfl Tryd.func31 (by kernel_rfl) rfl #[.agg #[.int .i64 t121, .string t122, .bool t123, .bool t124]] rfl (by (try simp only [List.map_toArray, List.map_cons, List.map_nil]); first | done | rfl | (simp only [List.length_drop, List.length_take]; rfl)) ?_; (with_reducible refine (rules_Print.calls t121 t122 t123 t124 t127 t128 _ A61.out).mono ?_); rintro e w69 ⟨rfl, hb⟩; refine ⟨_, rfl, ?_⟩; have n0_ := Aside0.mk (blk_below (g := gb126) (o := .cells #[.int .i64 t121, .string t122, .bool t123, .bool t124] 24 (0, 0)) (by (with_reducible repeat (first | refine blk_drewN ?_ _ | refine blk_drew ?_ | refine blk_alloc ?_ _)); refine blk_put (cs := #[.int .i64 t121, .string t122, .bool t123, .bool false]) ?_ 3 _ rfl; (with_reducible repeat (first | refine blk_drewN ?_ _ | refine blk_drew ?_ | refine blk_alloc ?_ _)); refine blk_put (cs := #[.int .i64 t121, .string t122, .bool false, .bool false]) ?_ 2 _ rfl; (with_reducible repeat (first | refine blk_drewN ?_ _ | refine blk_drew ?_ | refine blk_alloc ?_ _)); refine blk_put (cs := #[.int .i64 t121, .string (⟨#[]⟩ : ByteArray), .bool false, .bool false]) ?_ 1 _ rfl; (with_reducible repeat (first | refine blk_drewN ?_ _ | refine blk_drew ?_ | refine blk_alloc ?_ _)); refine blk_put (cs := #[.int .i64 0, .string (⟨#[]⟩ : ByteArray), .bool false, .bool false]) ?_ 0 _ rfl; (with_reducible repeat (first | refine blk_drewN ?_ _ | refine blk_drew ?_ | refine blk_alloc ?_ _)); exact BK126.out) hb); have n1_ := Aside0.mk (below_step (by repeat (first | (with_reducible first | exact HB.out | apply below_alloc | apply pw_below_drewN | apply below_drew1 | refine below_set ?_ GE126.out) | exact HB.out)) hb); clear BK126; clear HB; have BK126 := n0_; have HB := n1_; clear n0_ n1_; (try clear hb); (try clear hb2); (try clear hk); (try clear hi)) | (go_at_call 10; (with_reducible refine (remoralaw15_awake.calls  t129 _ A65.out).mono ?_); rintro e w70 ⟨rfl, hb⟩; have n0_ := Aside0.mk (blk_below (g := gb126) (o := .cells #[.int .i64 t121, .string t122, .bool t123, .bool t124] 24 (0, 0)) (by (with_reducible repeat (first | refine blk_drewN ?_ _ | refine blk_drew ?_ | refine blk_alloc ?_ _)); exact BK126.out) hb); have n1_ := Aside0.mk (below_step (by repeat (first | (with_reducible first | exact HB.out | apply below_alloc | apply pw_below_drewN | apply below_drew1 | refine below_set ?_ GE126.out) | exact HB.out)) hb); clear BK126; clear HB; have BK126 := n0_; have HB := n1_; clear n0_ n1_; (try clear hb); (try clear hb2); (try clear hk); (try clear hi)))
             go_ret
             exact ⟨by first | rfl | (simp [errW_none, errW_some] <;> rfl) | (simp [*, errW_none, errW_some] <;> rfl), by repeat (first | (with_reducible first | exact HB.out | apply below_alloc | apply pw_below_drewN | apply below_drew1 | refine below_set ?_ GE126.out) | exact HB.out)⟩
            ·rw [if_neg c64] at H
             have c64b0 : (t127.toList == a1.toList) = false := beq_eq_false_iff_ne.mpr c64
             have c64b1 : (t127.toList != a1.toList) = true := bne_iff_ne.mpr c64
             obtain rfl := Option.some.inj H
             go_wp2_with (first | ((with_reducible refine gate_callee (f := 11) rfl ?_); refine goesL_ (some 86) rfl rfl Tryd.func11 (by kernel_rfl) rfl #[.string a1] rfl (by (try simp only [List.map_toArray, List.map_cons, List.map_nil]); first | done | rfl | (simp only [List.length_drop, List.length_take]; rfl)) ?_; (with_reducible refine (rules_Parse.calls a1 t121 t122 t123 t124 t125 _ A60.out).mono ?_); rintro e w71 ⟨rfl, hb⟩; refine ⟨_, rfl, ?_⟩; have n0_ := Aside0.mk (below_step (by repeat (first | (with_reducible first | exact HB.out | apply below_alloc | apply pw_below_drewN | apply below_drew1) | exact HB.out)) hb); clear HB; have HB := n0_; clear n0_; (try clear hb); (try clear hb2); (try clear hk); (try clear hi)) | ((with_reducible refine gate_dst (N := 16) rfl ?_); (try (refine gate_guard (by rfl) ?_; dsimp only)); refine box_event ?hg (N := 16) ?hd (cs := #[.int .i64 0, .string (⟨#[]⟩ : ByteArray), .bool false, .bool false]) (t := 24) ?hr ?_; (case hd => rfl); (case hg => rfl); (case hr => first | (go_simp; done) | (go_simp; rfl)); intro gb126 hg w72 hbox hb; have n0_ := Aside0.mk (below_step (by repeat (first | (with_reducible first | exact HB.out | apply below_alloc | apply pw_below_drewN | apply below_drew1) | exact HB.out)) hb); have n1_ := Aside0.mk (hbox); have n2_ := Aside0.mk ((by rw [hg]; exact (below_size (by repeat (first | (with_reducible first | exact HB.out | apply below_alloc | apply pw_below_drewN | apply below_drew1) | exact HB.out))) : w.heap.size ≤ gb126)); have n3_ := Aside0.mk ((by rw [hg]; exact (below_size (by repeat (first | (with_reducible first | exact HB.out | apply below_alloc | apply pw_below_drewN | apply below_drew1) | exact HB.out))) : w.heap.size ≤ gb126)); clear HB; have HB := n0_; have BK126 := n1_; have GW126 := n2_; have GE126 := n3_; clear n0_ n1_ n2_ n3_; clear hb hbox hg; have hcz73_0 : w72.cell? ⟨gb126, 0, none⟩ = some (.int .i64 0) := (blk_cell BK126.out 0).trans rfl; have hcz73_1 : w72.cell? ⟨gb126, 1, none⟩ = some (.string (⟨#[]⟩ : ByteArray)) := (blk_cell BK126.out 1).trans rfl; have hcz73_2 : w72.cell? ⟨gb126, 2, none⟩ = some (.bool false) := (blk_cell BK126.out 2).trans rfl; have hcz73_3 : w72.cell? ⟨gb126, 3, none⟩ = some (.bool false) := (blk_cell BK126.out 3).trans rfl; have hfz73_0 := blk_frozen BK126.out 0; have hfz73_1 := blk_frozen BK126.out 1; have hfz73_2 := blk_frozen BK126.out 2; have hfz73_3 := blk_frozen BK126.out 3) | ((with_reducible refine gate_callee (f := 31) rfl ?_); refine goesL_ (some 91) rfl rfl Tryd.func31 (by kernel_rfl) rfl #[.agg #[.int .i64 t121, .string t122, .bool t123, .bool t124]] rfl (by (try simp only [List.map_toArray, List.map_cons, List.map_nil]); first | done | rfl | (simp only [List.length_drop, List.length_take]; rfl)) ?_; (with_reducible refine (rules_Print.calls t121 t122 t123 t124 t127 t128 _ A61.out).mono ?_); rintro e w74 ⟨rfl, hb⟩; refine ⟨_, rfl, ?_⟩; have n0_ := Aside0.mk (blk_below (g := gb126) (o := .cells #[.int .i64 t121, .string t122, .bool t123, .bool t124] 24 (0, 0)) (by (with_reducible repeat (first | refine blk_drewN ?_ _ | refine blk_drew ?_ | refine blk_alloc ?_ _)); refine blk_put (cs := #[.int .i64 t121, .string t122, .bool t123, .bool false]) ?_ 3 _ rfl; (with_reducible repeat (first | refine blk_drewN ?_ _ | refine blk_drew ?_ | refine blk_alloc ?_ _)); refine blk_put (cs := #[.int .i64 t121, .string t122, .bool false, .bool false]) ?_ 2 _ rfl; (with_reducible repeat (first | refine blk_drewN ?_ _ | refine blk_drew ?_ | refine blk_alloc ?_ _)); refine blk_put (cs := #[.int .i64 t121, .string (⟨#[]⟩ : ByteArray), .bool false, .bool false]) ?_ 1 _ rfl; (with_reducible repeat (first | refine blk_drewN ?_ _ | refine blk_drew ?_ | refine blk_alloc ?_ _)); refine blk_put (cs := #[.int .i64 0, .string (⟨#[]⟩ : ByteArray), .bool false, .bool false]) ?_ 0 _ rfl; (with_reducible repeat (first | refine blk_drewN ?_ _ | refine blk_drew ?_ | refine blk_alloc ?_ _)); exact BK126.out) hb); have n1_ := Aside0.mk (below_step (by repeat (first | (with_reducible first | exact HB.out | apply below_alloc | apply pw_below_drewN | apply below_drew1 | refine below_set ?_ GE126.out) | exact HB.out)) hb); clear BK126; clear HB; have BK126 := n0_; have HB := n1_; clear n0_ n1_; (try clear hb); (try clear hb2); (try clear hk); (try clear hi)))
             go_ret
             exact ⟨by first | rfl | (simp [errW_none, errW_some] <;> rfl) | (simp [*, errW_none, errW_some] <;> rfl), by repeat (first | (with_reducible first | exact HB.out | apply below_alloc | apply pw_below_drewN | apply below_drew1 | refine below_set ?_ GE126.out) | exact HB.out)⟩
           ·rw [if_neg c63] at H
            have c63b0 : (t128 == 0) = false := beq_eq_false_iff_ne.mpr c63
            have c63b1 : (t128 != 0) = true := bne_iff_ne.mpr c63
            obtain rfl := Option.some.inj H
            go_wp2_with (first | ((with_reducible refine gate_callee (f := 11) rfl ?_); refine goesL_ (some 86) rfl rfl Tryd.func11 (by kernel_rfl) rfl #[.string a1] rfl (by (try simp only [List.map_toArray, List.map_cons, List.map_nil]); first | done | rfl | (simp only [List.length_drop, List.length_take]; rfl)) ?_; (with_reducible refine (rules_Parse.calls a1 t121 t122 t123 t124 t125 _ A60.out).mono ?_); rintro e w75 ⟨rfl, hb⟩; refine ⟨_, rfl, ?_⟩; have n0_ := Aside0.mk (below_step (by repeat (first | (with_reducible first | exact HB.out | apply below_alloc | apply pw_below_drewN | apply below_drew1) | exact HB.out)) hb); clear HB; have HB := n0_; clear n0_; (try clear hb); (try clear hb2); (try clear hk); (try clear hi)) | ((with_reducible refine gate_dst (N := 16) rfl ?_); (try (refine gate_guard (by rfl) ?_; dsimp only)); refine box_event ?hg (N := 16) ?hd (cs := #[.int .i64 0, .string (⟨#[]⟩ : ByteArray), .bool false, .bool false]) (t := 24) ?hr ?_; (case hd => rfl); (case hg => rfl); (case hr => first | (go_simp; done) | (go_simp; rfl)); intro gb126 hg w76 hbox hb; have n0_ := Aside0.mk (below_step (by repeat (first | (with_reducible first | exact HB.out | apply below_alloc | apply pw_below_drewN | apply below_drew1) | exact HB.out)) hb); have n1_ := Aside0.mk (hbox); have n2_ := Aside0.mk ((by rw [hg]; exact (below_size (by repeat (first | (with_reducible first | exact HB.out | apply below_alloc | apply pw_below_drewN | apply below_drew1) | exact HB.out))) : w.heap.size ≤ gb126)); have n3_ := Aside0.mk ((by rw [hg]; exact (below_size (by repeat (first | (with_reducible first | exact HB.out | apply below_alloc | apply pw_below_drewN | apply below_drew1) | exact HB.out))) : w.heap.size ≤ gb126)); clear HB; have HB := n0_; have BK126 := n1_; have GW126 := n2_; have GE126 := n3_; clear n0_ n1_ n2_ n3_; clear hb hbox hg; have hcz77_0 : w76.cell? ⟨gb126, 0, none⟩ = some (.int .i64 0) := (blk_cell BK126.out 0).trans rfl; have hcz77_1 : w76.cell? ⟨gb126, 1, none⟩ = some (.string (⟨#[]⟩ : ByteArray)) := (blk_cell BK126.out 1).trans rfl; have hcz77_2 : w76.cell? ⟨gb126, 2, none⟩ = some (.bool false) := (blk_cell BK126.out 2).trans rfl; have hcz77_3 : w76.cell? ⟨gb126, 3, none⟩ = some (.bool false) := (blk_cell BK126.out 3).trans rfl; have hfz77_0 := blk_frozen BK126.out 0; have hfz77_1 := blk_frozen BK126.out 1; have hfz77_2 := blk_frozen BK126.out 2; have hfz77_3 := blk_frozen BK126.out 3) | ((with_reducible refine gate_callee (f := 31) rfl ?_); refine goesL_ (some 91) rfl rfl Tryd.func31 (by kernel_rfl) rfl #[.agg #[.int .i64 t121, .string t122, .bool t123, .bool t124]] rfl (by (try simp only [List.map_toArray, List.map_cons, List.map_nil]); first | done | rfl | (simp only [List.length_drop, List.length_take]; rfl)) ?_; (with_reducible refine (rules_Print.calls t121 t122 t123 t124 t127 t128 _ A61.out).mono ?_); rintro e w78 ⟨rfl, hb⟩; refine ⟨_, rfl, ?_⟩; have n0_ := Aside0.mk (blk_below (g := gb126) (o := .cells #[.int .i64 t121, .string t122, .bool t123, .bool t124] 24 (0, 0)) (by (with_reducible repeat (first | refine blk_drewN ?_ _ | refine blk_drew ?_ | refine blk_alloc ?_ _)); refine blk_put (cs := #[.int .i64 t121, .string t122, .bool t123, .bool false]) ?_ 3 _ rfl; (with_reducible repeat (first | refine blk_drewN ?_ _ | refine blk_drew ?_ | refine blk_alloc ?_ _)); refine blk_put (cs := #[.int .i64 t121, .string t122, .bool false, .bool false]) ?_ 2 _ rfl; (with_reducible repeat (first | refine blk_drewN ?_ _ | refine blk_drew ?_ | refine blk_alloc ?_ _)); refine blk_put (cs := #[.int .i64 t121, .string (⟨#[]⟩ : ByteArray), .bool false, .bool false]) ?_ 1 _ rfl; (with_reducible repeat (first | refine blk_drewN ?_ _ | refine blk_drew ?_ | refine blk_alloc ?_ _)); refine blk_put (cs := #[.int .i64 0, .string (⟨#[]⟩ : ByteArray), .bool false, .bool false]) ?_ 0 _ rfl; (with_reducible repeat (first | refine blk_drewN ?_ _ | refine blk_drew ?_ | refine blk_alloc ?_ _)); exact BK126.out) hb); have n1_ := Aside0.mk (below_step (by repeat (first | (with_reducible first | exact HB.out | apply below_alloc | apply pw_below_drewN | apply below_drew1 | refine below_set ?_ GE126.out) | exact HB.out)) hb); clear BK126; clear HB; have BK126 := n0_; have HB := n1_; clear n0_ n1_; (try clear hb); (try clear hb2); (try clear hk); (try clear hi)))
            go_ret
            exact ⟨by first | rfl | (simp [errW_none, errW_some] <;> rfl) | (simp [*, errW_none, errW_some] <;> rfl), by repeat (first | (with_reducible first | exact HB.out | apply below_alloc | apply pw_below_drewN | apply below_drew1 | refine below_set ?_ GE126.out) | exact HB.out)⟩
          ·rw [if_neg c62] at H
           have c62b0 : (t125 == 0) = false := beq_eq_false_iff_ne.mpr c62
           have c62b1 : (t125 != 0) = true := bne_iff_ne.mpr c62
           replace H := Option.bind_eq_some_iff.mp H
           obtain ⟨t130, A790, H⟩ := H
           replace H : (some t130) = some r := H
           have A79 := Aside0.mk A790
           clear A790
           obtain rfl := Option.some.inj H
           go_wp2_with (first | ((with_reducible refine gate_callee (f := 11) rfl ?_); refine goesL_ (some 86) rfl rfl Tryd.func11 (by kernel_rfl) rfl #[.string a1] rfl (by (try simp only [List.map_toArray, List.map_cons, List.map_nil]); first | done | rfl | (simp only [List.length_drop, List.length_take]; rfl)) ?_; (with_reducible refine (rules_Parse.calls a1 t121 t122 t123 t124 t125 _ A60.out).mono ?_); rintro e w80 ⟨rfl, hb⟩; refine ⟨_, rfl, ?_⟩; have n0_ := Aside0.mk (below_step (by repeat (first | (with_reducible first | exact HB.out | apply below_alloc | apply pw_below_drewN | apply below_drew1) | exact HB.out)) hb); clear HB; have HB := n0_; clear n0_; (try clear hb); (try clear hb2); (try clear hk); (try clear hi)) | ((with_reducible refine gate_dst (N := 16) rfl ?_); (try (refine gate_guard (by rfl) ?_; dsimp only)); refine box_event ?hg (N := 16) ?hd (cs := #[.int .i64 0, .string (⟨#[]⟩ : ByteArray), .bool false, .bool false]) (t := 24) ?hr ?_; (case hd => rfl); (case hg => rfl); (case hr => first | (go_simp; done) | (go_simp; rfl)); intro gb126 hg w81 hbox hb; have n0_ := Aside0.mk (below_step (by repeat (first | (with_reducible first | exact HB.out | apply below_alloc | apply pw_below_drewN | apply below_drew1) | exact HB.out)) hb); have n1_ := Aside0.mk (hbox); have n2_ := Aside0.mk ((by rw [hg]; exact (below_size (by repeat (first | (with_reducible first | exact HB.out | apply below_alloc | apply pw_below_drewN | apply below_drew1) | exact HB.out))) : w.heap.size ≤ gb126)); have n3_ := Aside0.mk ((by rw [hg]; exact (below_size (by repeat (first | (with_reducible first | exact HB.out | apply below_alloc | apply pw_below_drewN | apply below_drew1) | exact HB.out))) : w.heap.size ≤ gb126)); clear HB; have HB := n0_; have BK126 := n1_; have GW126 := n2_; have GE126 := n3_; clear n0_ n1_ n2_ n3_; clear hb hbox hg; have hcz82_0 : w81.cell? ⟨gb126, 0, none⟩ = some (.int .i64 0) := (blk_cell BK126.out 0).trans rfl; have hcz82_1 : w81.cell? ⟨gb126, 1, none⟩ = some (.string (⟨#[]⟩ : ByteArray)) := (blk_cell BK126.out 1).trans rfl; have hcz82_2 : w81.cell? ⟨gb126, 2, none⟩ = some (.bool false) := (blk_cell BK126.out 2).trans rfl; have hcz82_3 : w81.cell? ⟨gb126, 3, none⟩ = some (.bool false) := (blk_cell BK126.out 3).trans rfl; have hfz82_0 := blk_frozen BK126.out 0; have hfz82_1 := blk_frozen BK126.out 1; have hfz82_2 := blk_frozen BK126.out 2; have hfz82_3 := blk_frozen BK126.out 3) | ((with_reducible refine gate_callee (f := 31) rfl ?_); refine goesL_ (some 91) rfl rfl Tryd.func31 (by kernel_rfl) rfl #[.agg #[.int .i64 t121, .string t122, .bool t123, .bool t124]] rfl (by (try simp only [List.map_toArray, List.map_cons, List.map_nil]); first | done | rfl | (simp only [List.length_drop, List.length_take]; rfl)) ?_; (with_reducible refine (rules_Print.calls t121 t122 t123 t124 t127 t128 _ A61.out).mono ?_); rintro e w83 ⟨rfl, hb⟩; refine ⟨_, rfl, ?_⟩; have n0_ := Aside0.mk (blk_below (g := gb126) (o := .cells #[.int .i64 t121, .string t122, .bool t123, .bool t124] 24 (0, 0)) (by (with_reducible repeat (first | refine blk_drewN ?_ _ | refine blk_drew ?_ | refine blk_alloc ?_ _)); refine blk_put (cs := #[.int .i64 t121, .string t122, .bool t123, .bool false]) ?_ 3 _ rfl; (with_reducible repeat (first | refine blk_drewN ?_ _ | refine blk_drew ?_ | refine blk_alloc ?_ _)); refine blk_put (cs := #[.int .i64 t121, .string t122, .bool false, .bool false]) ?_ 2 _ rfl; (with_reducible repeat (first | refine blk_drewN ?_ _ | refine blk_drew ?_ | refine blk_alloc ?_ _)); refine blk_put (cs := #[.int .i64 t121, .string (⟨#[]⟩ : ByteArray), .bool false, .bool false]) ?_ 1 _ rfl; (with_reducible repeat (first | refine blk_drewN ?_ _ | refine blk_drew ?_ | refine blk_alloc ?_ _)); refine blk_put (cs := #[.int .i64 0, .string (⟨#[]⟩ : ByteArray), .bool false, .bool false]) ?_ 0 _ rfl; (with_reducible repeat (first | refine blk_drewN ?_ _ | refine blk_drew ?_ | refine blk_alloc ?_ _)); exact BK126.out) hb); have n1_ := Aside0.mk (below_step (by repeat (first | (with_reducible first | exact HB.out | apply below_alloc | apply pw_below_drewN | apply below_drew1 | refine below_set ?_ GE126.out) | exact HB.out)) hb); clear BK126; clear HB; have BK126 := n0_; have HB := n1_; clear n0_ n1_; (try clear hb); (try clear hb2); (try clear hk); (try clear hi)) | (go_at_call 10; (with_reducible refine (remoralaw15_awake.calls  t130 _ A79.out).mono ?_); rintro e w84 ⟨rfl, hb⟩; have n0_ := Aside0.mk (blk_below (g := gb126) (o := .cells #[.int .i64 t121, .string t122, .bool t123, .bool t124] 24 (0, 0)) (by (with_reducible repeat (first | refine blk_drewN ?_ _ | refine blk_drew ?_ | refine blk_alloc ?_ _)); exact BK126.out) hb); have n1_ := Aside0.mk (below_step (by repeat (first | (with_reducible first | exact HB.out | apply below_alloc | apply pw_below_drewN | apply below_drew1 | refine below_set ?_ GE126.out) | exact HB.out)) hb); clear BK126; clear HB; have BK126 := n0_; have HB := n1_; clear n0_ n1_; (try clear hb); (try clear hb2); (try clear hk); (try clear hi)))
           go_ret
           exact ⟨by first | rfl | (simp [errW_none, errW_some] <;> rfl) | (simp [*, errW_none, errW_some] <;> rfl), by repeat (first | (with_reducible first | exact HB.out | apply below_alloc | apply pw_below_drewN | apply below_drew1 | refine below_set ?_ GE126.out) | exact HB.out)⟩
end Go.Proofs.YtioehkeocddniaaDoor.PA
namespace Go.Proofs.YtioehkeocddniaaDoor.PA
open Go.RowKit Go.Proofs.YtioehkeocddniaaDoorW.PrintWords Go.Proofs.YtioehkeocddniaaDoorW.PrintLast Go.Proofs.YtioehkeocddniaaDoorW.PrintMore
attribute [local go_sem] max2_int min2_int max_two min_two max_three min_three max_four min_four
set_option linter.unusedVariables false
set_option linter.unusedSimpArgs false
theorem bt_getD (s : ByteArray) (i : Nat) : bt s (i : Int) = (((tL s).getD i 0).toNat : Int) := by
 by_cases h : i < s.size
 ·have hl : i < (tL s).length := by rw [tL_size]; exact h
  rw [bt, dif_pos (by simpa using h), List.getD_eq_getElem?_getD, List.getElem?_eq_getElem hl]
  simp [tL]
  rfl
 ·have hl : (tL s).length ≤ i := by rw [tL_size]; omega
  rw [bt, dif_neg (by simpa using h), List.getD_eq_getElem?_getD, List.getElem?_eq_none hl]
  rfl
def cPL : List UInt8 → List UInt8 × Bool
 | [] => ([], false)
 | x :: r => if x = 47 then (r, true) else (x :: r, false)
def cSL (l : List UInt8) : List UInt8 × Bool := if l.getLast? = some 47 then (l.dropLast, true) else (l, false)
theorem u8_nat47 (x : UInt8) : (x.toNat : Int) = 47 ↔ x = 47 := by
 constructor
 ·intro h
  exact UInt8.toNat_inj.1 (show x.toNat = 47 by omega)
 ·intro h
  rw [h]
  rfl
theorem cutP_tL (t : ByteArray) : tL (cutP t).1 = (cPL (tL t)).1 ∧ (cutP t).2 = (cPL (tL t)).2 := by
 cases h : tL t with
 | nil =>
  have hz : t.size = 0 := by rw [← tL_size, h]; rfl
  rw [cutP_empty hz]
  exact ⟨h, rfl⟩
 | cons x r =>
  have hs : 0 < t.size := by rw [← tL_size, h]; exact Nat.succ_pos _
  have hb : bt t 0 = (x.toNat : Int) := by
   have := bt_getD t 0
   rw [h] at this
   exact this
  by_cases hx : x = 47
  ·rw [cutP_yes hs (by rw [hb]; exact (u8_nat47 x).2 hx)]
   show tL (t.extract 1 t.size) = (if x = 47 then (r, true) else (x :: r, false)).1 ∧ true = (if x = 47 then (r, true) else (x :: r, false)).2
   rw [if_pos hx]
   refine ⟨?_, rfl⟩
   have e := toL_extract t 1 t.size
   have e2 : toL t = x :: r := h
   rw [e2] at e
   have e3 : (x :: r).take t.size = x :: r := List.take_of_length_le (by rw [← h, tL_size]; exact Nat.le_refl _)
   rw [e3] at e
   exact e
  ·rw [cutP_no (by rw [hb]; exact fun e => hx ((u8_nat47 x).1 e))]
   show tL t = (if x = 47 then (r, true) else (x :: r, false)).1 ∧ false = (if x = 47 then (r, true) else (x :: r, false)).2
   rw [if_neg hx]
   exact ⟨h, rfl⟩
theorem last_tL (t : ByteArray) (hs : 0 < t.size) : (tL t).getLast? = some 47 ↔ bt t ((t.size - 1 : Nat) : Int) = 47 := by
 have hl : t.size - 1 < (tL t).length := by rw [tL_size]; omega
 rw [bt_getD, u8_nat47, List.getLast?_eq_getElem?, tL_size, List.getElem?_eq_getElem hl, List.getD_eq_getElem?_getD, List.getElem?_eq_getElem hl]
 simp
theorem cutS_tL (t : ByteArray) : tL (cutS t).1 = (cSL (tL t)).1 ∧ (cutS t).2 = (cSL (tL t)).2 := by
 unfold cSL
 by_cases hs : 0 < t.size
 ·by_cases hb : bt t ((t.size - 1 : Nat) : Int) = 47
  ·rw [cutS_yes hs hb, if_pos ((last_tL t hs).2 hb)]
   refine ⟨?_, rfl⟩
   have e := toL_extract t 0 (t.size - 1)
   rw [List.drop_zero] at e
   refine e.trans ?_
   rw [List.dropLast_eq_take, tL_size]
   rfl
  ·rw [cutS_no hb, if_neg (fun e => hb ((last_tL t hs).1 e))]
   exact ⟨rfl, rfl⟩
 ·have hz : t.size = 0 := by omega
  have h : tL t = [] := List.eq_nil_of_length_eq_zero (by rw [tL_size]; exact hz)
  rw [cutS_empty hz, h, if_neg (by simp)]
  exact ⟨rfl, rfl⟩
def sl (b : Bool) : List UInt8 := if b = true then [47] else []
theorem tL_app (a b : ByteArray) : tL (a ++ b) = tL a ++ tL b := by simp [tL]
theorem tL_line (a : Int) (p : ByteArray) (d h : Bool) : tL (lineR a p d h) = UInt8.ofNat (actB a).toNat :: 32 :: (sl h ++ tL p ++ sl d) := by
 have e : tL (strOfNums [actB a, 32] : ByteArray) = [UInt8.ofNat (actB a).toNat, 32] := rfl
 have e2 : tL (⟨#[47]⟩ : ByteArray) = [47] := rfl
 cases d <;> cases h
 ·rw [lineR_false_false, tL_app, e]; simp [sl]
 ·rw [lineR_false_true, tL_app, tL_app, e, e2]; simp [sl]
 ·rw [lineR_true_false, tL_app, tL_app, e, e2]; simp [sl]
 ·rw [lineR_true_true, tL_app, tL_app, tL_app, e, e2]; simp [sl]
theorem bad_facts {p : ByteArray} (h : badP p = false) : (∃ x r, tL p = x :: r ∧ x ≠ 47) ∧ (tL p).getLast? ≠ some 47 ∧ hasB p 10 = false := by
 unfold badP at h
 rw [Bool.or_eq_false_iff, Bool.or_eq_false_iff, Bool.or_eq_false_iff, decide_eq_false_iff_not, decide_eq_false_iff_not, decide_eq_false_iff_not] at h
 obtain ⟨h0, h1, h2, h3⟩ := h
 have hs : 0 < p.size := by omega
 refine ⟨?_, fun e => h2 ((last_tL p hs).1 e), h3⟩
 cases hp : tL p with
 | nil =>
  have : p.size = 0 := by rw [← tL_size, hp]; rfl
  exact absurd this h0
 | cons x r =>
  refine ⟨x, r, rfl, fun e => h1 ?_⟩
  have := bt_getD p 0
  rw [hp] at this
  exact this.trans ((u8_nat47 x).2 e)
theorem chk_facts {a : Int} {p : ByteArray} (h : chkI a p = 0) : (a = 1 ∨ a = 2 ∨ a = 3 ∨ a = 4) ∧ badP p = false := by
 unfold chkI at h
 by_cases h1 : actB a = 0
 ·rw [if_pos h1] at h
  exact absurd h (by decide)
 ·rw [if_neg h1] at h
  refine ⟨?_, ?_⟩
  ·unfold actB at h1
   by_cases a1 : a = 1
   ·exact .inl a1
   ·by_cases a2 : a = 2
    ·exact .inr (.inl a2)
    ·by_cases a3 : a = 3
     ·exact .inr (.inr (.inl a3))
     ·by_cases a4 : a = 4
      ·exact .inr (.inr (.inr a4))
      ·rw [if_neg a1, if_neg a2, if_neg a3, if_neg a4] at h1
       exact absurd rfl h1
  ·by_cases hb : badP p = true
   ·rw [if_pos hb] at h
    exact absurd h (by decide)
   ·simpa using hb
theorem tL_ex2 (s : ByteArray) (x y : UInt8) (l : List UInt8) (h : tL s = x :: y :: l) : tL (s.extract 2 s.size) = l := by
 have e := toL_extract s 2 s.size
 have e2 : toL s = x :: y :: l := h
 rw [e2] at e
 have e3 : (x :: y :: l).take s.size = x :: y :: l := List.take_of_length_le (by rw [← h, tL_size]; exact Nat.le_refl _)
 rw [e3] at e
 exact e
theorem parse_line (a : Int) (p : ByteArray) (d h : Bool) (hc : chkI a p = 0) : parseR (lineR a p d h) = (a, p, d, h, 0) := by
 obtain ⟨ha, hb⟩ := chk_facts hc
 obtain ⟨⟨x, r, hx, hx47⟩, hl, _⟩ := bad_facts hb
 have hL := tL_line a p d h
 obtain ⟨s, hs⟩ : ∃ s, s = lineR a p d h := ⟨_, rfl⟩
 rw [← hs] at hL ⊢
 have hsz : s.size = (sl h ++ tL p ++ sl d).length + 2 := by rw [← tL_size, hL]; rfl
 have b0 : bt s 0 = actB a := by
  have := bt_getD s 0
  rw [hL] at this
  refine this.trans ?_
  rcases ha with rfl | rfl | rfl | rfl <;> rfl
 have b1 : bt s 1 = 32 := by
  have := bt_getD s 1
  rw [hL] at this
  exact this
 have sg : signA (actB a) = a := by rcases ha with rfl | rfl | rfl | rfl <;> rfl
 have ht := tL_ex2 s _ _ _ hL
 have c1 := cutP_tL (s.extract 2 s.size)
 rw [ht] at c1
 have e1 : cPL (sl h ++ tL p ++ sl d) = (tL p ++ sl d, h) := by
  cases h with
  | true => rfl
  | false =>
   show cPL (tL p ++ sl d) = _
   rw [hx]
   show (if x = 47 then _ else _) = _
   rw [if_neg hx47]
   rfl
 rw [e1] at c1
 have c2 := cutS_tL (cutP (s.extract 2 s.size)).1
 rw [c1.1] at c2
 have e2 : cSL (tL p ++ sl d) = (tL p, d) := by
  unfold cSL
  cases d with
  | true =>
   rw [if_pos (by simp [sl])]
   simp [sl]
  | false =>
   have : tL p ++ sl false = tL p := by simp [sl]
   rw [this, if_neg hl]
 rw [e2] at c2
 have hp := tL_inj c2.1
 unfold parseR
 rw [b0, b1, sg, hp, c2.2, c1.2, if_neg, if_pos hc]
 rintro (h | h | h)
 ·omega
 ·exact h rfl
 ·rw [h] at ha
  rcases ha with h | h | h | h <;> exact absurd h (by decide)
theorem cSL_back (m : List UInt8) : (cSL m).1 ++ sl (cSL m).2 = m := by
 unfold cSL
 by_cases hm : m.getLast? = some 47
 ·rw [if_pos hm]
  show m.dropLast ++ [47] = m
  obtain ⟨q, hq⟩ := List.getLast?_eq_some_iff.1 hm
  rw [hq]
  simp
 ·rw [if_neg hm]
  simp [sl]
theorem cPL_back (m : List UInt8) : sl (cPL m).2 ++ (cPL m).1 = m := by
 cases m with
 | nil => rfl
 | cons z r =>
  show sl (if z = 47 then (r, true) else (z :: r, false)).2 ++ (if z = 47 then (r, true) else (z :: r, false)).1 = _
  by_cases hz : z = 47
  ·rw [if_pos hz, hz]; rfl
  ·rw [if_neg hz]; rfl
theorem glue_tL (t : ByteArray) : sl (cutP t).2 ++ tL (cutS (cutP t).1).1 ++ sl (cutS (cutP t).1).2 = tL t := by
 have c1 := cutP_tL t
 have c2 := cutS_tL (cutP t).1
 rw [c2.1, c2.2, c1.1, c1.2, List.append_assoc, cSL_back, cPL_back]
theorem parseR_err (s : ByteArray) (h : (parseR s).2.2.2.2 = 0) : chkI (parseR s).1 (parseR s).2.1 = 0 ∧ lineR (parseR s).1 (parseR s).2.1 (parseR s).2.2.1 (parseR s).2.2.2.1 = s := by
 obtain ⟨P, hP⟩ : ∃ P, P = parseR s := ⟨_, rfl⟩
 rw [← hP] at h ⊢
 unfold parseR at hP
 by_cases hg : s.size < 2 ∨ bt s 1 ≠ 32 ∨ signA (bt s 0) = 0
 ·rw [if_pos hg] at hP
  rw [hP] at h
  exact absurd h (by decide)
 ·rw [if_neg hg] at hP
  by_cases hc : chkI (signA (bt s 0)) (cutS (cutP (s.extract 2 s.size)).1).1 = 0
  ·rw [if_pos hc] at hP
   rw [hP]
   refine ⟨hc, tL_inj ?_⟩
   have h2 : ¬ s.size < 2 := fun h => hg (.inl h)
   have h32 : bt s 1 = 32 := Classical.not_not.1 (fun h => hg (.inr (.inl h)))
   have hsg : signA (bt s 0) ≠ 0 := fun h => hg (.inr (.inr h))
   rw [tL_line]
   cases hs : tL s with
   | nil => rw [← tL_size, hs] at h2; exact absurd (by decide) h2
   | cons x l =>
    cases l with
    | nil => rw [← tL_size, hs] at h2; exact absurd (show 1 < 2 by decide) h2
    | cons y l =>
     have ht := tL_ex2 s x y l hs
     have b0 := bt_getD s 0
     have b1 := bt_getD s 1
     rw [hs] at b0 b1
     have b0' : bt s 0 = (x.toNat : Int) := b0
     have b1' : bt s 1 = (y.toNat : Int) := b1
     have hy : y = 32 := UInt8.toNat_inj.1 (show y.toNat = 32 by omega)
     have ax : actB (signA (bt s 0)) = bt s 0 := by
      unfold signA at hsg ⊢
      by_cases q1 : bt s 0 = 43
      ·rw [if_pos q1, q1]; rfl
      ·by_cases q2 : bt s 0 = 45
       ·rw [if_neg q1, if_pos q2, q2]; rfl
       ·by_cases q3 : bt s 0 = 80
        ·rw [if_neg q1, if_neg q2, if_pos q3, q3]; rfl
        ·by_cases q4 : bt s 0 = 82
         ·rw [if_neg q1, if_neg q2, if_neg q3, if_pos q4, q4]; rfl
         ·rw [if_neg q1, if_neg q2, if_neg q3, if_neg q4] at hsg
          exact absurd rfl hsg
     have hx : UInt8.ofNat (actB (signA (bt s 0))).toNat = x := by
      rw [ax, b0']
      simp
     rw [hx, hy]
     have hg := glue_tL (s.extract 2 s.size)
     rw [ht] at hg
     rw [hg]
  ·rw [if_neg hc] at hP
   rw [hP] at h
   exact absurd h hc
theorem index_mem (c : UInt8) : ∀ l : List UInt8, ¬ 0 ≤ Lib.indexByte l c → c ∉ l
 | [], _ => by simp
 | b :: l, h => by
  have hg := index_ge c l
  unfold Lib.indexByte at h
  by_cases hb : (b == c) = true
  ·rw [if_pos hb] at h
   exact absurd (Int.le_refl 0) h
  ·rw [if_neg hb] at h
   have hl : ¬ 0 ≤ Lib.indexByte l c := fun h0 => h (by
    rw [if_neg (by simp; omega)]
    omega)
   have := index_mem c l hl
   intro hm
   rcases List.mem_cons.1 hm with e | e
   ·exact hb (by rw [e]; simp)
   ·exact this e
theorem line_no10 (a : Int) (p : ByteArray) (d h : Bool) (hc : chkI a p = 0) : (10 : UInt8) ∉ tL (lineR a p d h) := by
 obtain ⟨ha, hb⟩ := chk_facts hc
 obtain ⟨_, _, h10⟩ := bad_facts hb
 have hn : (10 : UInt8) ∉ tL p := index_mem 10 _ (of_decide_eq_false h10)
 rw [tL_line]
 intro hm
 rcases List.mem_cons.1 hm with e | e
 ·rcases ha with rfl | rfl | rfl | rfl <;> exact absurd e (by decide)
 ·rcases List.mem_cons.1 e with e | e
  ·exact absurd e (by decide)
  ·rcases List.mem_append.1 e with e | e
   ·rcases List.mem_append.1 e with e | e
    ·cases h
     ·cases e
     ·rcases List.mem_cons.1 e with e | e
      ·exact absurd e (by decide)
      ·cases e
    ·exact hn e
   ·cases d
    ·cases e
    ·rcases List.mem_cons.1 e with e | e
     ·exact absurd e (by decide)
     ·cases e
theorem split_text : ∀ L : List S24, (∀ x ∈ L, chkR x = 0) → splitSB (textB L) ⟨#[10]⟩ = L.map (fun x => lineR x.f0 x.f1 x.f2 x.f3) ++ [⟨#[]⟩] := fun L hz => by
 apply map_tL_inj
 rw [splitSB_sps]
 induction L with
 | nil => rfl
 | cons x l ih =>
  have h1 := ih (fun y hy => hz y (List.mem_cons_of_mem _ hy))
  have hx := line_no10 x.f0 x.f1 x.f2 x.f3 (hz x (List.mem_cons_self ..))
  have e10 : tL (⟨#[10]⟩ : ByteArray) = [10] := rfl
  rw [textB, tL_app, tL_app, e10, List.append_assoc, List.singleton_append, sps_front 10 _ _ hx, h1]
  rfl
theorem lines_good (L : List S24) (hz : ∀ x ∈ L, chkR x = 0) : ∀ (acc : List S24) (i : Int), acc.length + L.length ≤ 64 → linesR (L.map (fun x => lineR x.f0 x.f1 x.f2 x.f3) ++ [⟨#[]⟩]) i acc = (acc ++ L, 0, 0) := by
 induction L with
 | nil =>
  intro acc i h
  rw [List.append_nil]
  rfl
 | cons x l ih =>
  intro acc i h
  have hc : chkI x.f0 x.f1 = 0 := hz x (List.mem_cons_self ..)
  obtain ⟨ha, hb⟩ := chk_facts hc
  have hL := tL_line x.f0 x.f1 x.f2 x.f3
  have hp := parse_line x.f0 x.f1 x.f2 x.f3 hc
  rw [List.length_cons] at h
  rw [List.map_cons, List.cons_append, linesR_cons, hp, if_neg, if_neg (fun e => e rfl), if_neg (by omega), ih (fun y hy => hz y (List.mem_cons_of_mem _ hy)) _ _ (by simp; omega), List.append_assoc]
  ·rfl
  ·rintro (e | e)
   ·rw [← tL_size, hL] at e
    cases e
   ·have b0 := bt_getD (lineR x.f0 x.f1 x.f2 x.f3) 0
    rw [hL] at b0
    have b1 : bt (lineR x.f0 x.f1 x.f2 x.f3) 0 = ((UInt8.ofNat (actB x.f0).toNat).toNat : Int) := b0
    rw [e] at b1
    rcases ha with h | h | h | h <;> rw [h] at b1 <;> exact absurd b1 (by decide)
theorem lines_text (L : List S24) (h : chkL L = 0) : linesR (splitSB (textB L) ⟨#[10]⟩) 0 [] = (L, 0, 0) := by
 obtain ⟨h1, h2⟩ := chkL_zero h
 rw [split_text L h2, lines_good L h2 [] 0 (by simpa using h1)]
 rfl
end Go.Proofs.YtioehkeocddniaaDoor.PA
namespace Go.Proofs.YtioehkeocddniaaDoor.PA
open Go.RowKit Go.Proofs.YtioehkeocddniaaDoorW.PrintWords Go.Proofs.YtioehkeocddniaaDoorW.PrintLast Go.Proofs.YtioehkeocddniaaDoorW.PrintMore
attribute [local go_sem] max2_int min2_int max_two min_two max_three min_three max_four min_four
set_option linter.unusedVariables false
set_option linter.unusedSimpArgs false
def wf24 (n : Nat) (x : S24) : Prop := ((Lit.int .i64 x.f0).wf = true) ∧ (x.f1.size < n ∧ x.f1.size ≤ maxLen) ∧ (True) ∧ (True)
theorem opn24 : Opn Tryd.prog 24 k24 wf24 := opn_struct (fun x : S24 => (x.f0, x.f1, x.f2, x.f3)) (fun a => (⟨a.1, a.2.1, a.2.2.1, a.2.2.2⟩ : S24)) (fun _ => rfl) Tryd.underlying24 (opnF_cons rfl (opn_int Tryd.underlying3 (by kernel_rfl)) rfl (opnF_cons rfl (opn_string Tryd.underlying9 (by kernel_rfl)) rfl (opnF_cons rfl (opn_bool Tryd.underlying4 (by kernel_rfl)) rfl (opnF_one rfl (opn_bool Tryd.underlying4 (by kernel_rfl)))))) (by kernel_rfl)
theorem parse_small (a : ByteArray) : (parseR a).2.1.size ≤ a.size := by
 unfold parseR
 split
 ·exact Nat.zero_le _
 ·split
  ·exact ex2_size a
  ·exact Nat.zero_le _
theorem back_j2 (a : ByteArray) (ha : a.size ≤ 300) (k : Nat) (hk : 1 ≤ k) : remoralaw15_RulesBack.j2 k a false = some true := by
 obtain ⟨k, rfl⟩ : ∃ j, k = j + 1 := ⟨k - 1, by omega⟩
 have hs := parse_small a
 have hp := print_f ⟨(parseR a).1, (parseR a).2.1, (parseR a).2.2.1, (parseR a).2.2.2.1⟩ (show (parseR a).2.1.size < 1000000 by omega)
 rw [remoralaw15_RulesBack.j2, if_neg (by decide), parse_f15 a (by omega), Option.bind_some]
 rw [show rules_Print.f (parseR a).1 (parseR a).2.1 (parseR a).2.2.1 (parseR a).2.2.2.1 = _ from hp, Option.bind_some, awake15]
 simp only [Option.bind_some]
 by_cases h : (parseR a).2.2.2.2 = 0
 ·obtain ⟨h1, h2⟩ := parseR_err a h
  have e : prnR ⟨(parseR a).1, (parseR a).2.1, (parseR a).2.2.1, (parseR a).2.2.2.1⟩ = (a, 0) := by
   have e1 : prnR ⟨(parseR a).1, (parseR a).2.1, (parseR a).2.2.1, (parseR a).2.2.2.1⟩ = (lineR (parseR a).1 (parseR a).2.1 (parseR a).2.2.1 (parseR a).2.2.2.1, (0 : Int)) := if_pos h1
   rw [e1, h2]
  rw [if_pos h, e, if_pos rfl, if_pos rfl]
 ·rw [if_neg h]
theorem textB_small (L : List S24) (h : ∀ x ∈ L, x.f1.size ≤ 200) (hn : L.length ≤ 80) : (textR L).1.size ≤ 17000 := by
 have := textB_size L h
 unfold textR
 split
 ·show (textB L).size ≤ 17000
  omega
 ·exact Nat.zero_le _
theorem back_l (L : List S24) (a : ByteArray) (ha : a.size ≤ 300) (hL : ∀ x ∈ L, x.f1.size ≤ 200) (hn : L.length ≤ 80) : ∀ (m i k : Nat), L.length - i = m → i ≤ L.length → m + 3000100 ≤ k → remoralaw15_RulesBack.l0 k L a L (L.length : Int) (i : Int) = some true := by
 intro m
 induction m with
 | zero =>
  intro i k hm hi hk
  obtain ⟨k, rfl⟩ : ∃ j, k = j + 1 := ⟨k - 1, by omega⟩
  obtain rfl : i = L.length := by omega
  have hsm := textB_small L hL hn
  have hj := back_j2 a ha k (by omega)
  rw [remoralaw15_RulesBack.l0, if_neg (by omega), text_f L hL hn k (by omega), Option.bind_some, lines_f15 _ (by omega) k (by omega), Option.bind_some]
  by_cases h : chkL L = 0
  ·have e : textR L = (textB L, 0) := if_pos h
   rw [e, lines_text L h, if_pos rfl, if_pos rfl, if_pos rfl, same_self L (by omega) k (by omega), Option.bind_some]
   exact hj
  ·have e : textR L = (⟨#[]⟩, chkL L) := if_neg h
   rw [e, if_neg h]
   exact hj
 | succ m ih =>
  intro i k hm hi hk
  obtain ⟨k, rfl⟩ : ∃ j, k = j + 1 := ⟨k - 1, by omega⟩
  have hlt : i < L.length := by omega
  have e1 : wrap64 ((i : Int) + 1) = ((i + 1 : Nat) : Int) := by rw [wr64 _ (by omega) (by omega)]; rfl
  have hx := hL _ (List.getElem_mem hlt)
  have hih := ih (i + 1) k (by omega) (by omega) (by omega)
  have hls := lineR_size (L[i]).f0 (L[i]).f1 (L[i]).f2 (L[i]).f3
  have hps : (prnR (L[i])).1.size < 1000000 := by
   unfold prnR
   split
   ·show (lineR (L[i]).f0 (L[i]).f1 (L[i]).f2 (L[i]).f3).size < 1000000
    omega
   ·exact Nat.zero_lt_succ _
  rw [remoralaw15_RulesBack.l0, if_pos (by omega), if_pos (by omega), if_pos (by omega), rd24_get L i hlt, e1, print_f (L[i]) (by omega), Option.bind_some, parse_f15 _ hps, Option.bind_some, hih]
  by_cases h : chkR (L[i]) = 0
  ·have e : prnR (L[i]) = (lineR (L[i]).f0 (L[i]).f1 (L[i]).f2 (L[i]).f3, 0) := if_pos h
   have hp := parse_line (L[i]).f0 (L[i]).f1 (L[i]).f2 (L[i]).f3 h
   rw [e, hp, if_pos rfl, if_pos rfl]
   simp only [beq_self_eq_true, Bool.not_true, Bool.or_false]
   rw [if_neg (by decide)]
  ·have e : prnR (L[i]) = (⟨#[]⟩, chkR (L[i])) := if_neg h
   rw [e, if_neg h]
theorem rulesBack_f (L : List S24) (a : ByteArray) : ∃ k, remoralaw15_RulesBack.f k L a = some true := by
 obtain ⟨k, hk⟩ : ∃ k, k = 4000000 := ⟨_, rfl⟩
 refine ⟨k + 1, ?_⟩
 have jt : remoralaw15_RulesBack.j0 (k + 1) L a true = some true := by
  rw [remoralaw15_RulesBack.j0, if_pos rfl, awake15, Option.bind_some]
 unfold remoralaw15_RulesBack.f
 rw [light15_f L _ (by omega), Option.bind_some]
 by_cases hl : lightB L = true
 ·rw [if_pos hl]
  by_cases h : (a.size : Int) > 300
  ·rw [decide_eq_true h, jt]
  ·obtain ⟨h1, h2⟩ := lightB_facts hl
   rw [decide_eq_false h, remoralaw15_RulesBack.j0, if_neg (by decide)]
   exact back_l L a (by omega) h2 h1 L.length 0 k (by omega) (by omega) (by omega)
 ·rw [if_neg hl, jt]
theorem rulesBack_law (w : World) (A0 : Option Addr) (c0 : Nat) (x0 : List S24) (hC : Kd.C k24 w A0 x0.length x0) (hL : x0.length ≤ c0) (hw : ∃ n, x0.length < n ∧ ∀ a ∈ x0, wf24 n a) (p : ByteArray) (hw1 : ∃ n, p.size < n ∧ p.size ≤ maxLen) :
  Calls Tryd.prog 8 #[.slice A0 x0.length c0, .string p] w fun e w' => e = .returned (.bool true) ∧ Below w.heap.size w w' := by
 obtain ⟨k, hk⟩ := rulesBack_f x0 p
 exact remoralaw15_RulesBack.calls k A0 c0 x0 p true w hC hL hk
end Go.Proofs.YtioehkeocddniaaDoor.PA
namespace Go.Proofs.YtioehkeocddniaaDoor.rulesBackRow
open Go.ChangeShapes Go.WideShapes Go.ChangeAt Go.RowKit Go.Proofs.YtioehkeocddniaaDoor.PA Go.Proofs.YtioehkeocddniaaDoorW.PrintWords Go.Proofs.YtioehkeocddniaaDoorW.PrintLast Go.Proofs.YtioehkeocddniaaDoorW.PrintMore
open Go.ChangeMaps (open_string shut_string)
theorem own : ownKnob Tryd.prog.godebug = none := by kernel_rfl
theorem laidOut : laidOutB Tryd.prog = true := by kernel_rfl
set_option linter.unusedSimpArgs false in
set_option maxHeartbeats 1000000 in
set_option maxRecDepth 100000 in
theorem lifted (os : Os) (started : os.Started) (H : Type) (enc : TypeId × Value → H) :
  ReturnsInHanded {} Tryd.checked os 8 .any (fun w args => (Rows.rulesBackSpec.pre enc Tryd.prog Tryd.f8 Rows.rulesBackRow.domain false w args ∧ laidMetH Tryd.prog Rows.rulesBackRow.laid w) ∧ sizedMet enc Tryd.prog Tryd.f8 (OpenSpec.ofChange Rows.rulesBackSpec) false w args)
   (Rows.rulesBackSpec.post enc Tryd.prog Tryd.f8 false true false false) := by
 refine returnsInHanded_of_change_and (C := Tryd.checked) (X := fun w _ => laidMetH Tryd.prog Rows.rulesBackRow.laid w) (fun _ _ _ hh h => h.of_heap hh) own started (by kernel_rfl) Tryd.func8
  (ChangeSpec.witness_shaped (enc := enc) (C := Tryd.checked) (os := os) (X := fun w _ => laidMetH Tryd.prog Rows.rulesBackRow.laid w) false (World.laidAll Tryd.prog os Rows.rulesBackRow.laid) #[.slice none 0 0, .string ByteArray.empty] 8 (World.laidAll_os _ _ _)
   (World.shaped_of_ZipB (by kernel_rfl) (by kernel_rfl)) (by kernel_rfl) (by kernel_rfl) (by kernel_rfl)
   (by rw [MakeChecks.laidMetH_plain _ _ _ (by kernel_rfl)]; exact laidMet_laidAll _ (by kernel_rfl) (by kernel_rfl))) ?_
 intro W base args ds gs before hval0 hW hcnd _ hL_ _
 have hval : ∀ (j : Nat) t v, Tryd.f8.params[j]? = some t → args[j]? = some v → Value.okWide Tryd.prog W .any base t v := hval0
 have hW' := hW
 obtain ⟨p, q, hA0, hV, rfl, hfz, hnd⟩ := hW
 have hA : DataW.TrodAll enc Tryd.prog W 0 (fun _ => true) true Tryd.f8.params.toList args.toList ds p := hA0
 rw [Tryd.params8] at hA hval
 obtain ⟨v0, vs0, d0, ds0, p0, q0, hargs, rfl, rfl, h0, r0⟩ := trodAll_cons hA
 obtain ⟨v1, vs1, d1, ds1, p1, q1, rfl, rfl, rfl, h1, r1⟩ := trodAll_cons r0
 obtain ⟨rfl, rfl, rfl⟩ := trodAll_nil r1
 obtain rfl : args = #[v0, v1] := by cases args; simp_all
 obtain ⟨rfl, rfl⟩ := trodVars_none hV
 obtain ⟨A0, l0, c0, rfl⟩ := okWide_slice Tryd.underlying28 (hval 0 28 v0 rfl rfl)
 have k0 := h0
 have lt0 : ∀ x ∈ p0, x.block < W.heap.size := by obtain ⟨m, hm⟩ := k0; exact DataW.trod_lt m _ _ _ hm
 obtain ⟨fu0, hf0⟩ := h0
 obtain ⟨x0, hk0, hw0⟩ := (show Opn Tryd.prog 28 (Kd.slice 24 k24) (fun n x => x.length < n ∧ ∀ a ∈ x, wf24 n a) from (opn_slice Tryd.underlying28 (by kernel_rfl) opn24)).op enc W 0 _ true fu0 _ _ hf0
 obtain ⟨A_, c_, e0, hL0, hC0⟩ := hk0
 simp only [Value.cells, Array.toList, List.cons.injEq, Value.slice.injEq, and_true] at e0
 obtain ⟨rfl, rfl, rfl⟩ := e0
 obtain ⟨y1, rfl⟩ := okWide_string Tryd.underlying9 (hval 1 9 v1 rfl rfl)
 have k1 := h1
 have lt1 : ∀ x ∈ p1, x.block < W.heap.size := by obtain ⟨m, hm⟩ := k1; exact DataW.trod_lt m _ _ _ hm
 obtain ⟨fu1, hf1⟩ := h1
 obtain ⟨x1, hk1, hw1⟩ := (show Opn Tryd.prog 9 Kd.string (fun n x => x.size < n ∧ x.size ≤ maxLen) from (opn_string Tryd.underlying9 (by kernel_rfl))).op enc W 0 _ true fu1 _ _ hf1
 have e1 := (List.cons.inj hk1).1
 injection e1 with e1
 have e1 := e1.symm
 subst e1
 refine (rulesBack_law W A0 c0 x0 hC0 hL0 ⟨Rows.uptoBulk d0, hw0⟩ x1 ⟨Rows.uptoBulk d1, hw1⟩).mono fun e W' ⟨he, bel⟩ => ?_
 subst he
 exact ⟨_, rfl, _, _, _, [], _, [], hW', trodAll_mk1 (shut_bool Tryd.underlying4 _), (trodAll_cons_mk (Below.trod laidOut (by kernel_rfl) (of_decide_eq_true (by kernel_rfl)) k0 bel lt0) (trodAll_cons_mk (Below.trod laidOut (by kernel_rfl) (of_decide_eq_true (by kernel_rfl)) k1 bel lt1) trodAll_mk0)), rfl, bel.frame _, fun h => by cases h⟩
theorem over : Rows.rulesBackRow.holds Tryd.pinned (OpenSpec.ofChange Rows.rulesBackSpec) :=
 OpenClaim.holds_of_wide 8 Tryd.f8 rfl rfl rfl rfl rfl rfl rfl ⟨rfl, rfl, rfl, rfl, rfl⟩ rfl rfl rfl rfl rfl (by kernel_rfl) Tryd.func8 (by kernel_rfl)
  (of_decide_eq_true (by kernel_rfl)) (by unfold Func.isWrapper; first | (rw [if_pos (by decide +kernel)]; kernel_rfl) | (rw [if_neg (by decide +kernel)]; exact ⟨rfl, rfl⟩))
  (fun os started H enc _ => lifted os started H enc)
theorem proved : Rows.RulesBackSaid := over
theorem card : Rows.RulesBackCardSaid :=
 Claim7.holds_tied_plain_at .later [] _ _ _ _ proved (fun _ h => by cases h) (by kernel_rfl) (fun _ h => by cases h) rulesBack_row_tie rfl ⟨rfl, rfl⟩ (by kernel_rfl) rfl
  (fun f fn hf hfn => by
   obtain rfl : f = 8 := Option.some.inj ((show Tryd.prog.funcNamed "remora/remoralaw15.RulesBack" = some 8 by kernel_rfl).symm.trans hf) |>.symm
   obtain rfl : fn = Tryd.f8 := (Option.some.inj (Tryd.func8.symm.trans hfn)).symm
   exact ⟨by kernel_rfl, fun j t ht => by
    rw [Tryd.params8] at ht
    have hm : t ∈ [28, 9] := by simpa using Array.mem_of_getElem? ht
    have hall : ([28, 9].all fun u => !Tryd.prog.wantsStandIn u) = true := by kernel_rfl
    exact (show Tryd.prog.wantsStandIn t = false by simpa using List.all_eq_true.1 hall t hm)⟩)
  (by kernel_rfl)
#print axioms card
end Go.Proofs.YtioehkeocddniaaDoor.rulesBackRow
namespace Go.Proofs.YtioehkeocddniaaDoor
theorem rulesBack_holds : Rows.RulesBackCardSaid := rulesBackRow.card
end Go.Proofs.YtioehkeocddniaaDoor
namespace Go.Proofs.YtioehkeocddniaaDoor.PA
end Go.Proofs.YtioehkeocddniaaDoor.PA
