/- Plain: a line parsed, and lines, by the code and by the reference. -/
import Derived.Test.YtioehkeocddniaaDoorNG1
import Derived.Test.YtioehkeocddniaaDoorNG10
import Derived.Test.YtioehkeocddniaaDoorNG11
import Derived.Lib.CountLaws
import Derived.Lib.SplitLaws
import Derived.Test.YtioehkeocddniaaDoorNG2
import Derived.Test.YtioehkeocddniaaDoorNG3
import Derived.Test.YtioehkeocddniaaDoorNG7
import Derived.Test.YtioehkeocddniaaDoorNG5
namespace Go.Proofs.YtioehkeocddniaaDoor.PA
open Go.RowKit Go.Proofs.YtioehkeocddniaaDoorW.PrintWords Go.Proofs.YtioehkeocddniaaDoorW.PrintLast Go.Proofs.YtioehkeocddniaaDoorW.PrintMore
attribute [local go_sem] max2_int min2_int max_two min_two max_three min_three max_four min_four   -- for this text's walks alone
set_option linter.unusedVariables false
set_option linter.unusedSimpArgs false
mutual
def remoraref15_Lines.l0 : Nat → List (S24) → List ByteArray → Int → Int → Option ((List (S24)) × Int × Int)
 | 0, _, _, _, _ => none
 | k + 1, x5, x11, x12, x13 => if x13 < x12 then (if 0 ≤ x13 then (if x13 < (x11.length : Int) then (if (rdOf ByteArray.empty x11 x13).toList = ([] : List UInt8) then (remoraref15_Lines.j1 k x5 x13 (rdOf ByteArray.empty x11 x13) x11 x12 x13 true) else (if 0 < ((rdOf ByteArray.empty x11 x13).size : Int) then (remoraref15_Lines.j1 k x5 x13 (rdOf ByteArray.empty x11 x13) x11 x12 x13 ((bt (rdOf ByteArray.empty x11 x13) 0) == 35)) else (none))) else (none)) else (none)) else (some (x5, 0, 0))
def remoraref15_Lines.j1 : Nat → List (S24) → Int → ByteArray → List ByteArray → Int → Int → Bool → Option ((List (S24)) × Int × Int)
 | 0, _, _, _, _, _, _, _ => none
 | k + 1, x5, x6, x7, x11, x12, x13, x24 => if x24 = true then (remoraref15_Lines.l0 k x5 x11 x12 (wrap64 (x13 + 1))) else ((remoraref15_Parse.f x7).bind fun bt105 => (if bt105.2.2.2.2 = 0 then (remoraref15_Lines.j2 k x5 x6 bt105.2.2.2.2 x11 x12 x13 ((x5.length : Int) == 64) bt105.1 bt105.2.1 bt105.2.2.1 bt105.2.2.2.1) else (remoraref15_Lines.j2 k x5 x6 bt105.2.2.2.2 x11 x12 x13 false bt105.1 bt105.2.1 bt105.2.2.1 bt105.2.2.2.1)))
def remoraref15_Lines.j2 : Nat → List (S24) → Int → Int → List ByteArray → Int → Int → Bool → Int → ByteArray → Bool → Bool → Option ((List (S24)) × Int × Int)
 | 0, _, _, _, _, _, _, _, _, _, _, _ => none
 | k + 1, x5, x6, x9, x11, x12, x13, x36, x111000, x111001, x111002, x111003 => if x36 = true then (if 7 = 0 then (if x5.length < 4398046511104 then (remoraref15_Lines.l0 k (x5 ++ [(⟨x111000, x111001, x111002, x111003⟩ : S24)]) x11 x12 (wrap64 (x13 + 1))) else (none)) else (some (([] : List (S24)), wrap64 (x6 + 1), 7))) else (if x9 = 0 then (if x5.length < 4398046511104 then (remoraref15_Lines.l0 k (x5 ++ [(⟨x111000, x111001, x111002, x111003⟩ : S24)]) x11 x12 (wrap64 (x13 + 1))) else (none)) else (some (([] : List (S24)), wrap64 (x6 + 1), x9)))
end
def remoraref15_Lines.f (k : Nat) (a0 : ByteArray) : Option ((List (S24)) × Int × Int) := (remoraref15_cut.f k a0).bind fun t101 => (remoraref15_Lines.l0 k ([] : List (S24)) t101 (t101.length : Int) 0)
set_option maxHeartbeats 8000000 in
set_option maxRecDepth 100000 in
theorem remoraref15_Lines.calls (k : Nat) (a0 : ByteArray) (r1 : List (S24)) (r2 : Int) (r3 : Int) (w : World) (h : remoraref15_Lines.f k a0 = some (r1, r2, r3)) :
  Calls Tryd.prog 14 #[.string a0] w fun e w' => ∃ v0_ : Value, e = .returned (.tuple #[v0_, .int .i64 r2, .int .i64 r3]) ∧ Kd.R k24 24 w' w.heap.size (fun _ => True) v0_ r1 ∧ Below w.heap.size w w' := by
 have hu24 := Tryd.underlying24
 have HB := Aside0.mk (Below.refl w.heap.size w)
 have H : ((remoraref15_cut.f k a0).bind fun t101 => (remoraref15_Lines.l0 k ([] : List (S24)) t101 (t101.length : Int) 0)) = some (r1, r2, r3) := h
 clear h
 replace H := Option.bind_eq_some_iff.mp H
 obtain ⟨t101, A20, H⟩ := H
 replace H : (remoraref15_Lines.l0 k ([] : List (S24)) t101 (t101.length : Int) 0) = some (r1, r2, r3) := H
 have A2 := Aside0.mk A20
 clear A20
 have H' := Aside0.mk H
 clear H
 go_enter Tryd.func14, Tryd.ntmps14
 go_wp2_with (first | ((with_reducible refine gate_callee (f := 42) rfl ?_); refine goesL_ (some 11) rfl rfl Tryd.func42 (by kernel_rfl) rfl #[.string a0] rfl (by (try simp only [List.map_toArray, List.map_cons, List.map_nil]); first | done | rfl | (simp only [List.length_drop, List.length_take]; rfl)) ?_; (with_reducible refine (remoraref15_cut.calls k a0 t101 _ A2.out).mono ?_); rintro e w3 ⟨v102, rfl, ho0, hb⟩; refine ⟨_, rfl, ?_⟩; have n0_ := Aside0.mk (Kd.R_lower ho0 (below_size (by repeat (first | (with_reducible first | exact HB.out | apply below_alloc | apply pw_below_drewN | apply below_drew1) | exact HB.out)))); have n1_ := Aside0.mk (below_step (by repeat (first | (with_reducible first | exact HB.out | apply below_alloc | apply pw_below_drewN | apply below_drew1) | exact HB.out)) hb); clear HB; have HO103 := n0_; have HB := n1_; clear n0_ n1_; (try clear hb); (try clear hb2); (try clear hk); (try clear hi); (try clear ho0); obtain ⟨Ao4, co4, eo4⟩ := Kd.R_slice HO103.out; subst eo4))
 go_loopg [5, 13] k (fun kq v5 v13 w' => ∃ (x5_1 : List (S24)) (x13_1 : Int), v13 = .int .i64 x13_1 ∧ Aside0 (remoraref15_Lines.l0 kq x5_1 t101 (t101.length : Int) x13_1 = some (r1, r2, r3)) ∧ Aside0 (kq ≤ k) ∧ Aside0 (Kd.R k24 24 w' w.heap.size (fun _ => True) v5 x5_1) ∧ Aside0 (Kd.R Kd.string 9 w' w.heap.size (fun _ => True) (.slice Ao4 t101.length co4) t101) ∧ Aside0 (Below w.heap.size w w'))
 case atStart => exact ⟨(([] : List (S24))), (0), (by first | rfl | (simp; done) | (simp [*]; done)), H', ⟨Nat.le_refl _⟩, ⟨by first | exact Kd.R_nil _ _ _ _ _ | exact Kd.N_nil _ _ _ _ _ | exact Kd.V_nil _ _ _ _ _ | exact Kd.Q_nil _ _ _ _ _ | exact Kd.S_nil _ _ _ _ _⟩, ⟨by (with_reducible repeat (first | apply Kd.R_alloc | apply Kd.R_drewN | apply Kd.R_drew)); exact HO103.out⟩, ⟨by repeat (first | (with_reducible first | exact HB.out | apply below_alloc | apply pw_below_drewN | apply below_drew1) | exact HB.out)⟩⟩
 case round =>
  clear H'
  try clear c1
  try clear p2
  try clear c4
  obtain ⟨x5_1, x13_1, rfl, HA, HK1, HO_5, HO_11, HB⟩ := hrel
  cases gk with
  | zero => exact absurd HA.out (by simp [remoraref15_Lines.l0])
  | succ k1 =>
   have H := HA.out
   clear HA
   simp only [remoraref15_Lines.l0] at H
   by_cases c5 : x13_1 < (t101.length : Int)
   ·rw [if_pos c5] at H
    have c5b0 : decide (x13_1 < (t101.length : Int)) = true := decide_eq_true c5
    clear c5
    by_cases c6 : 0 ≤ x13_1
    ·rw [if_pos c6] at H
     have c6b0 : decide (0 ≤ x13_1) = true := decide_eq_true c6
     clear c6
     by_cases c7 : x13_1 < (t101.length : Int)
     ·rw [if_pos c7] at H
      have c7b0 : decide (x13_1 < (t101.length : Int)) = true := decide_eq_true c7
      clear c7
      have HC8 := Aside0.mk H
      clear H
      have p104 : 0 ≤ (x13_1 : Int) := of_decide_eq_true (by first | (with_reducible assumption) | assumption)
      have q104 : x13_1 < (t101.length : Int) := of_decide_eq_true (by first | (with_reducible assumption) | assumption)
      obtain ⟨ad104, e104, hx104_0⟩ := Kd.at_string (Kd.R_reads' HO_11.out).2.2 x13_1 p104 q104
      cases e104
      replace p104 := eq_true p104
      replace q104 := eq_true q104
      go_upto_region 5 with (fail)
      go_cut [24] (fun v24 wc => ∃ (kq : Nat) (x24_7 : Bool), v24 = .bool x24_7 ∧ Aside0 (remoraref15_Lines.j1 kq x5_1 x13_1 (rdOf ByteArray.empty t101 x13_1) t101 (t101.length : Int) x13_1 x24_7 = some (r1, r2, r3)) ∧ Aside0 (kq ≤ k1) ∧ Aside0 (Kd.R k24 24 wc w.heap.size (fun _ => True) u5 x5_1) ∧ Aside0 (Kd.R Kd.string 9 wc w.heap.size (fun _ => True) (.slice (some ad104) t101.length co4) t101) ∧ Aside0 (Below w.heap.size w wc))
      case first =>
       have H := HC8.out
       clear HC8
       by_cases c9 : (rdOf ByteArray.empty t101 x13_1).toList = ([] : List UInt8)
       ·rw [if_pos c9] at H
        have c9b0 : ((rdOf ByteArray.empty t101 x13_1).toList == ([] : List UInt8)) = true := beq_iff_eq.mpr c9
        have c9b1 : ((rdOf ByteArray.empty t101 x13_1).toList != ([] : List UInt8)) = false := bne_eq_false_iff_eq.mpr c9
        clear c9
        (first | rw [c9b0] | (simp only [i64_w, i32_w]; rw [c9b0]) | skip)
        have H' := Aside0.mk H
        clear H
        go_wp2
        go_meet
        case rel => exact ⟨_, (true), (by first | rfl | (simp; done) | (simp [*]; done)), H', ⟨by have := HK1.out; first | omega | exact Nat.le_refl _⟩, ⟨by (with_reducible repeat (first | apply Kd.R_alloc | apply Kd.R_drewN | apply Kd.R_drew)); exact HO_5.out⟩, ⟨by (with_reducible repeat (first | apply Kd.R_alloc | apply Kd.R_drewN | apply Kd.R_drew)); exact HO_11.out⟩, ⟨by repeat (first | (with_reducible first | exact HB.out | apply below_alloc | apply pw_below_drewN | apply below_drew1) | exact HB.out)⟩⟩
       ·rw [if_neg c9] at H
        have c9b0 : ((rdOf ByteArray.empty t101 x13_1).toList == ([] : List UInt8)) = false := beq_eq_false_iff_ne.mpr c9
        have c9b1 : ((rdOf ByteArray.empty t101 x13_1).toList != ([] : List UInt8)) = true := bne_iff_ne.mpr c9
        (first | rw [c9b0] | (simp only [i64_w, i32_w]; rw [c9b0]) | skip)
        by_cases c10 : 0 < ((rdOf ByteArray.empty t101 x13_1).size : Int)
        ·rw [if_pos c10] at H
         have c10b0 : decide (0 < ((rdOf ByteArray.empty t101 x13_1).size : Int)) = true := decide_eq_true c10
         have c10b1 : decide (0 < (rdOf ByteArray.empty t101 x13_1).size) = true := decide_eq_true (by omega)
         clear c10
         have H' := Aside0.mk H
         clear H
         have p11 : 0 ≤ (0 : Int) := (by omega)
         have q11 : 0 < (rdOf ByteArray.empty t101 x13_1).size := (by have : (0 : Int) < ((rdOf ByteArray.empty t101 x13_1).size : Int) := of_decide_eq_true (by first | (with_reducible assumption) | assumption); omega)
         have hx11 : ∀ h : 0 < (rdOf ByteArray.empty t101 x13_1).size, (((rdOf ByteArray.empty t101 x13_1)[0]'h).toNat : Int) = bt (rdOf ByteArray.empty t101 x13_1) 0 := bt_at (rdOf ByteArray.empty t101 x13_1) 0
         clear p11
         have qi11 : (0 < ((rdOf ByteArray.empty t101 x13_1).size : Int)) = True := eq_true (of_decide_eq_true (by first | (with_reducible assumption) | assumption))
         replace q11 := eq_true q11
         go_wp2
         go_meet
         case rel => exact ⟨_, (((bt (rdOf ByteArray.empty t101 x13_1) 0) == 35)), (by first | rfl | (simp; done) | (simp [*]; done)), H', ⟨by have := HK1.out; first | omega | exact Nat.le_refl _⟩, ⟨by (with_reducible repeat (first | apply Kd.R_alloc | apply Kd.R_drewN | apply Kd.R_drew)); exact HO_5.out⟩, ⟨by (with_reducible repeat (first | apply Kd.R_alloc | apply Kd.R_drewN | apply Kd.R_drew)); exact HO_11.out⟩, ⟨by repeat (first | (with_reducible first | exact HB.out | apply below_alloc | apply pw_below_drewN | apply below_drew1) | exact HB.out)⟩⟩
        ·rw [if_neg c10] at H
         exact absurd H (by simp)
      case rest =>
       clear HC8
       try clear c1
       try clear p1
       try clear q1
       try clear hx1
       try clear qi1
       try clear p2
       try clear c4
       try clear c5
       try clear c5b0
       try clear c6
       try clear c6b0
       try clear c7
       try clear c7b0
       try clear c9
       try clear c9b0
       try clear c9b1
       try clear c10
       try clear c10b0
       try clear c10b1
       try clear p10
       try clear q10
       try clear hx10
       try clear p11
       try clear q11
       try clear hx11
       try clear qi11
       try clear hx104_0
       try clear p104
       try clear p11
       try clear p2
       try clear q104
       try clear q11
       obtain ⟨kq, x24_7, rfl, HA, HJ7, HO_5, HO_11, HB⟩ := hcut
       cases kq with
       | zero => exact absurd HA.out (by simp [remoraref15_Lines.j1])
       | succ kj7 =>
        have H := HA.out
        clear HA
        simp only [remoraref15_Lines.j1] at H
        by_cases c12 : x24_7 = true
        ·subst c12
         have H1 : (remoraref15_Lines.l0 kj7 x5_1 t101 (t101.length : Int) (wrap64 (x13_1 + 1))) = some (r1, r2, r3) := by rw [if_pos rfl] at H; exact H
         clear H
         have H := H1
         clear H1
         have H' := Aside0.mk H
         clear H
         go_wp2
         go_roundg kj7
         case measure => have := HK1.out; have := HJ7.out; omega
         case rel => exact ⟨(x5_1), (wrap64 (x13_1 + 1)), (by first | rfl | (simp; done) | (simp [*]; done)), H', ⟨by have := HK1.out; have := HJ7.out; omega⟩, ⟨by (with_reducible repeat (first | apply Kd.R_alloc | apply Kd.R_drewN | apply Kd.R_drew)); exact HO_5.out⟩, ⟨by (with_reducible repeat (first | apply Kd.R_alloc | apply Kd.R_drewN | apply Kd.R_drew)); exact HO_11.out⟩, ⟨by repeat (first | (with_reducible first | exact HB.out | apply below_alloc | apply pw_below_drewN | apply below_drew1) | exact HB.out)⟩⟩
        ·replace c12 := Bool.eq_false_iff.mpr c12
         subst c12
         have H1 : ((remoraref15_Parse.f (rdOf ByteArray.empty t101 x13_1)).bind fun bt105 => (if bt105.2.2.2.2 = 0 then (remoraref15_Lines.j2 kj7 x5_1 x13_1 bt105.2.2.2.2 t101 (t101.length : Int) x13_1 ((x5_1.length : Int) == 64) bt105.1 bt105.2.1 bt105.2.2.1 bt105.2.2.2.1) else (remoraref15_Lines.j2 kj7 x5_1 x13_1 bt105.2.2.2.2 t101 (t101.length : Int) x13_1 false bt105.1 bt105.2.1 bt105.2.2.1 bt105.2.2.2.1))) = some (r1, r2, r3) := by rw [if_neg (show ¬ (false = true) by decide)] at H; exact H
         clear H
         have H := H1
         clear H1
         replace H := Option.bind_eq_some_iff.mp H
         obtain ⟨⟨t105, t106, t107, t108, t109⟩, A130, H⟩ := H
         replace H : (if t109 = 0 then (remoraref15_Lines.j2 kj7 x5_1 x13_1 t109 t101 (t101.length : Int) x13_1 ((x5_1.length : Int) == 64) t105 t106 t107 t108) else (remoraref15_Lines.j2 kj7 x5_1 x13_1 t109 t101 (t101.length : Int) x13_1 false t105 t106 t107 t108)) = some (r1, r2, r3) := H
         have A13 := Aside0.mk A130
         clear A130
         have HC14 := Aside0.mk H
         clear H
         go_upto_region 7 with (first | ((with_reducible refine gate_callee (f := 12) rfl ?_); refine goesL_ (some 27) rfl rfl Tryd.func12 (by kernel_rfl) rfl #[.string (rdOf ByteArray.empty t101 x13_1)] rfl (by (try simp only [List.map_toArray, List.map_cons, List.map_nil]); first | done | rfl | (simp only [List.length_drop, List.length_take]; rfl)) ?_; (with_reducible refine (remoraref15_Parse.calls (rdOf ByteArray.empty t101 x13_1) t105 t106 t107 t108 t109 _ A13.out).mono ?_); rintro e w15 ⟨rfl, hb⟩; refine ⟨_, rfl, ?_⟩; have n0_ := Aside0.mk (Kd.R_below (by (with_reducible repeat (first | apply Kd.R_alloc | apply Kd.R_drewN | apply Kd.R_drew)); exact HO_5.out) hb); have n1_ := Aside0.mk (Kd.R_below (by (with_reducible repeat (first | apply Kd.R_alloc | apply Kd.R_drewN | apply Kd.R_drew)); exact HO_11.out) hb); have n2_ := Aside0.mk (below_step (by repeat (first | (with_reducible first | exact HB.out | apply below_alloc | apply pw_below_drewN | apply below_drew1) | exact HB.out)) hb); clear HO_5; clear HO_11; clear HB; have HO_5 := n0_; have HO_11 := n1_; have HB := n2_; clear n0_ n1_ n2_; (try clear hb); (try clear hb2); (try clear hk); (try clear hi)) | ((with_reducible refine gate_dst (N := 8) rfl ?_); (try (refine gate_guard (by rfl) ?_; dsimp only)); refine box_event ?hg (N := 8) ?hd (cs := #[.int .i64 0, .string (⟨#[]⟩ : ByteArray), .bool false, .bool false]) (t := 24) ?hr ?_; (case hd => rfl); (case hg => rfl); (case hr => first | (go_simp; done) | (go_simp; rfl)); intro gb110 hg w16 hbox hb; have n0_ := Aside0.mk (Kd.R_below (Kd.R_elderB (by (with_reducible repeat (first | apply Kd.R_alloc | apply Kd.R_drewN | apply Kd.R_drew)); exact HO_5.out) gb110 (Nat.le_of_eq hg.symm)) hb); have n1_ := Aside0.mk (Kd.R_below (by (with_reducible repeat (first | apply Kd.R_alloc | apply Kd.R_drewN | apply Kd.R_drew)); exact HO_11.out) hb); have n2_ := Aside0.mk (below_step (by repeat (first | (with_reducible first | exact HB.out | apply below_alloc | apply pw_below_drewN | apply below_drew1) | exact HB.out)) hb); have n3_ := Aside0.mk (hbox); have n4_ := Aside0.mk ((by rw [hg]; exact (below_size (by repeat (first | (with_reducible first | exact HB.out | apply below_alloc | apply pw_below_drewN | apply below_drew1) | exact HB.out))) : w.heap.size ≤ gb110)); have n5_ := Aside0.mk ((by rw [hg]; exact (below_size (by repeat (first | (with_reducible first | exact HB.out | apply below_alloc | apply pw_below_drewN | apply below_drew1) | exact HB.out))) : w.heap.size ≤ gb110)); clear HO_5; clear HO_11; clear HB; have HO_5 := n0_; have HO_11 := n1_; have HB := n2_; have BK110 := n3_; have GW110 := n4_; have GE110 := n5_; clear n0_ n1_ n2_ n3_ n4_ n5_; clear hb hbox hg; have hcz17_0 : w16.cell? ⟨gb110, 0, none⟩ = some (.int .i64 0) := (blk_cell BK110.out 0).trans rfl; have hcz17_1 : w16.cell? ⟨gb110, 1, none⟩ = some (.string (⟨#[]⟩ : ByteArray)) := (blk_cell BK110.out 1).trans rfl; have hcz17_2 : w16.cell? ⟨gb110, 2, none⟩ = some (.bool false) := (blk_cell BK110.out 2).trans rfl; have hcz17_3 : w16.cell? ⟨gb110, 3, none⟩ = some (.bool false) := (blk_cell BK110.out 3).trans rfl; have hfz17_0 := blk_frozen BK110.out 0; have hfz17_1 := blk_frozen BK110.out 1; have hfz17_2 := blk_frozen BK110.out 2; have hfz17_3 := blk_frozen BK110.out 3))
         (try simp only [Act.put, List.setIfInBounds_toArray, List.set_cons_zero, List.set_cons_succ])
         go_cut [36] (fun v36 wc => ∃ (kq : Nat) (x36_13 : Bool), v36 = .bool x36_13 ∧ Aside0 (remoraref15_Lines.j2 kq x5_1 x13_1 t109 t101 (t101.length : Int) x13_1 x36_13 t105 t106 t107 t108 = some (r1, r2, r3)) ∧ Aside0 (kq ≤ kj7) ∧ Aside0 (Kd.R k24 24 wc w.heap.size (fun k_ => k_ ≠ gb110) u5 x5_1) ∧ Aside0 (Kd.R Kd.string 9 wc w.heap.size (fun _ => True) (.slice (some ad104) t101.length co4) t101) ∧ Aside0 (wc.heap[gb110]? = some (.cells #[.int .i64 t105, .string t106, .bool t107, .bool t108] 24 (0, 0))) ∧ Aside0 (Below w.heap.size w wc))
         case first =>
          have H := HC14.out
          clear HC14
          by_cases c18 : t109 = 0
          ·rw [if_pos c18] at H
           have c18b0 : (t109 == 0) = true := beq_iff_eq.mpr c18
           have c18b1 : (t109 != 0) = false := bne_eq_false_iff_eq.mpr c18
           clear c18
           (first | rw [c18b0] | (simp only [i64_w, i32_w]; rw [c18b0]) | skip)
           have H' := Aside0.mk H
           clear H
           obtain ⟨Ao19, co19, eo19⟩ := Kd.R_slice HO_5.out
           subst eo19
           go_wp2
           go_meet
           case rel => exact ⟨_, (((x5_1.length : Int) == 64)), (by first | rfl | (simp; done) | (simp [*]; done)), H', ⟨by have := HK1.out; have := HJ7.out; first | omega | exact Nat.le_refl _⟩, ⟨by (with_reducible repeat (first | apply Kd.R_alloc | apply Kd.R_drewN | apply Kd.R_drew)); exact Kd.R_mono (Kd.R_far (p := ⟨gb110, 3, none⟩) (Kd.R_far (p := ⟨gb110, 2, none⟩) (Kd.R_far (p := ⟨gb110, 1, none⟩) (Kd.R_far (p := ⟨gb110, 0, none⟩) (Kd.R_mono HO_5.out (fun k_ hk => (⟨hk, hk.2⟩ : _ ∧ k_ ≠ gb110))) (fun _ hk => hk.2) (.int .i64 t105)) (fun _ hk => hk.2) (.string t106)) (fun _ hk => hk.2) (.bool t107)) (fun _ hk => hk.2) (.bool t108)) (fun _ hk => hk.1.2)⟩, ⟨by (with_reducible repeat (first | apply Kd.R_alloc | apply Kd.R_drewN | apply Kd.R_drew)); exact Kd.R_mono (Kd.R_far (p := ⟨gb110, 3, none⟩) (Kd.R_far (p := ⟨gb110, 2, none⟩) (Kd.R_far (p := ⟨gb110, 1, none⟩) (Kd.R_far (p := ⟨gb110, 0, none⟩) (Kd.R_types HO_11.out BK110.out (by decide)) (fun _ hk => hk.2) (.int .i64 t105)) (fun _ hk => hk.2) (.string t106)) (fun _ hk => hk.2) (.bool t107)) (fun _ hk => hk.2) (.bool t108)) (fun _ hk => trivial)⟩, ⟨by (with_reducible repeat (first | refine blk_drewN ?_ _ | refine blk_drew ?_ | refine blk_alloc ?_ _)); refine blk_put (cs := #[.int .i64 t105, .string t106, .bool t107, .bool false]) ?_ 3 _ rfl; (with_reducible repeat (first | refine blk_drewN ?_ _ | refine blk_drew ?_ | refine blk_alloc ?_ _)); refine blk_put (cs := #[.int .i64 t105, .string t106, .bool false, .bool false]) ?_ 2 _ rfl; (with_reducible repeat (first | refine blk_drewN ?_ _ | refine blk_drew ?_ | refine blk_alloc ?_ _)); refine blk_put (cs := #[.int .i64 t105, .string (⟨#[]⟩ : ByteArray), .bool false, .bool false]) ?_ 1 _ rfl; (with_reducible repeat (first | refine blk_drewN ?_ _ | refine blk_drew ?_ | refine blk_alloc ?_ _)); refine blk_put (cs := #[.int .i64 0, .string (⟨#[]⟩ : ByteArray), .bool false, .bool false]) ?_ 0 _ rfl; (with_reducible repeat (first | refine blk_drewN ?_ _ | refine blk_drew ?_ | refine blk_alloc ?_ _)); exact BK110.out⟩, ⟨by repeat (first | (with_reducible first | exact HB.out | apply below_alloc | apply pw_below_drewN | apply below_drew1 | refine below_set ?_ GE110.out) | exact HB.out)⟩⟩
          ·rw [if_neg c18] at H
           have c18b0 : (t109 == 0) = false := beq_eq_false_iff_ne.mpr c18
           have c18b1 : (t109 != 0) = true := bne_iff_ne.mpr c18
           (first | rw [c18b0] | (simp only [i64_w, i32_w]; rw [c18b0]) | skip)
           have H' := Aside0.mk H
           clear H
           go_wp2
           go_meet
           case rel => exact ⟨_, (false), (by first | rfl | (simp; done) | (simp [*]; done)), H', ⟨by have := HK1.out; have := HJ7.out; first | omega | exact Nat.le_refl _⟩, ⟨by (with_reducible repeat (first | apply Kd.R_alloc | apply Kd.R_drewN | apply Kd.R_drew)); exact Kd.R_mono (Kd.R_far (p := ⟨gb110, 3, none⟩) (Kd.R_far (p := ⟨gb110, 2, none⟩) (Kd.R_far (p := ⟨gb110, 1, none⟩) (Kd.R_far (p := ⟨gb110, 0, none⟩) (Kd.R_mono HO_5.out (fun k_ hk => (⟨hk, hk.2⟩ : _ ∧ k_ ≠ gb110))) (fun _ hk => hk.2) (.int .i64 t105)) (fun _ hk => hk.2) (.string t106)) (fun _ hk => hk.2) (.bool t107)) (fun _ hk => hk.2) (.bool t108)) (fun _ hk => hk.1.2)⟩, ⟨by (with_reducible repeat (first | apply Kd.R_alloc | apply Kd.R_drewN | apply Kd.R_drew)); exact Kd.R_mono (Kd.R_far (p := ⟨gb110, 3, none⟩) (Kd.R_far (p := ⟨gb110, 2, none⟩) (Kd.R_far (p := ⟨gb110, 1, none⟩) (Kd.R_far (p := ⟨gb110, 0, none⟩) (Kd.R_types HO_11.out BK110.out (by decide)) (fun _ hk => hk.2) (.int .i64 t105)) (fun _ hk => hk.2) (.string t106)) (fun _ hk => hk.2) (.bool t107)) (fun _ hk => hk.2) (.bool t108)) (fun _ hk => trivial)⟩, ⟨by (with_reducible repeat (first | refine blk_drewN ?_ _ | refine blk_drew ?_ | refine blk_alloc ?_ _)); refine blk_put (cs := #[.int .i64 t105, .string t106, .bool t107, .bool false]) ?_ 3 _ rfl; (with_reducible repeat (first | refine blk_drewN ?_ _ | refine blk_drew ?_ | refine blk_alloc ?_ _)); refine blk_put (cs := #[.int .i64 t105, .string t106, .bool false, .bool false]) ?_ 2 _ rfl; (with_reducible repeat (first | refine blk_drewN ?_ _ | refine blk_drew ?_ | refine blk_alloc ?_ _)); refine blk_put (cs := #[.int .i64 t105, .string (⟨#[]⟩ : ByteArray), .bool false, .bool false]) ?_ 1 _ rfl; (with_reducible repeat (first | refine blk_drewN ?_ _ | refine blk_drew ?_ | refine blk_alloc ?_ _)); refine blk_put (cs := #[.int .i64 0, .string (⟨#[]⟩ : ByteArray), .bool false, .bool false]) ?_ 0 _ rfl; (with_reducible repeat (first | refine blk_drewN ?_ _ | refine blk_drew ?_ | refine blk_alloc ?_ _)); exact BK110.out⟩, ⟨by repeat (first | (with_reducible first | exact HB.out | apply below_alloc | apply pw_below_drewN | apply below_drew1 | refine below_set ?_ GE110.out) | exact HB.out)⟩⟩
         case rest =>
          clear HC14
          try clear c1
          try clear p1
          try clear q1
          try clear hx1
          try clear qi1
          try clear p2
          try clear c4
          try clear c5
          try clear c5b0
          try clear c6
          try clear c6b0
          try clear p6
          try clear c7
          try clear c7b0
          try clear c9
          try clear c9b0
          try clear c9b1
          try clear c10
          try clear c10b0
          try clear c10b1
          try clear p10
          try clear q10
          try clear hx10
          try clear p11
          try clear q11
          try clear hx11
          try clear qi11
          try clear c12
          try clear c14
          try clear c18
          try clear c18b0
          try clear c18b1
          try clear hcz17_0
          try clear hcz17_1
          try clear hcz17_2
          try clear hcz17_3
          try clear hfz17_0
          try clear hfz17_1
          try clear hfz17_2
          try clear hfz17_3
          try clear hx104_0
          try clear p1
          try clear p10
          try clear p104
          try clear p11
          try clear p2
          try clear q1
          try clear q10
          try clear q104
          try clear q11
          obtain ⟨kq, x36_13, rfl, HA, HJ13, HO_5, HO_11, BK110, HB⟩ := hcut
          cases kq with
          | zero => exact absurd HA.out (by simp [remoraref15_Lines.j2])
          | succ kj13 =>
           have H := HA.out
           clear HA
           simp only [remoraref15_Lines.j2] at H
           by_cases c20 : x36_13 = true
           ·subst c20
            have H1 : (if 7 = 0 then (if x5_1.length < 4398046511104 then (remoraref15_Lines.l0 kj13 (x5_1 ++ [(⟨t105, t106, t107, t108⟩ : S24)]) t101 (t101.length : Int) (wrap64 (x13_1 + 1))) else (none)) else (some (([] : List (S24)), wrap64 (x13_1 + 1), 7))) = some (r1, r2, r3) := by rw [if_pos rfl] at H; exact H
            clear H
            have H := H1
            clear H1
            by_cases c21 : 7 = 0
            ·exact absurd c21 (by decide)
            ·rw [if_neg c21] at H
             have c21b0 : (7 == 0) = false := beq_eq_false_iff_ne.mpr c21
             have c21b1 : (7 != 0) = true := bne_iff_ne.mpr c21
             simp only [Option.some.injEq, Prod.mk.injEq] at H
             obtain ⟨rfl, rfl, rfl⟩ := H
             go_wp2
             go_ret3
             exact ⟨_, by first | rfl | (simp [errW_none, errW_some] <;> rfl) | (simp [*, errW_none, errW_some] <;> rfl), by first | exact Kd.R_nil _ _ _ _ _ | exact Kd.N_nil _ _ _ _ _ | exact Kd.V_nil _ _ _ _ _ | exact Kd.Q_nil _ _ _ _ _ | exact Kd.S_nil _ _ _ _ _, by repeat (first | (with_reducible first | exact HB.out | apply below_alloc | apply pw_below_drewN | apply below_drew1 | refine below_set ?_ GE110.out) | exact HB.out)⟩
           ·replace c20 := Bool.eq_false_iff.mpr c20
            subst c20
            have H1 : (if t109 = 0 then (if x5_1.length < 4398046511104 then (remoraref15_Lines.l0 kj13 (x5_1 ++ [(⟨t105, t106, t107, t108⟩ : S24)]) t101 (t101.length : Int) (wrap64 (x13_1 + 1))) else (none)) else (some (([] : List (S24)), wrap64 (x13_1 + 1), t109))) = some (r1, r2, r3) := by rw [if_neg (show ¬ (false = true) by decide)] at H; exact H
            clear H
            have H := H1
            clear H1
            by_cases c25 : t109 = 0
            ·rw [if_pos c25] at H
             have c25b0 : (t109 == 0) = true := beq_iff_eq.mpr c25
             have c25b1 : (t109 != 0) = false := bne_eq_false_iff_eq.mpr c25
             clear c25
             by_cases c26 : x5_1.length < 4398046511104
             ·rw [if_pos c26] at H
              have LMc26 := Aside0.mk c26
              clear c26
              obtain ⟨y114, hy114⟩ : ∃ y_ : List (S24), y_ = (x5_1 ++ [(⟨t105, t106, t107, t108⟩ : S24)]) := ⟨_, rfl⟩
              replace H : (remoraref15_Lines.l0 kj13 y114 t101 (t101.length : Int) (wrap64 (x13_1 + 1))) = some (r1, r2, r3) := by first | (rw [hy114]; with_reducible exact H) | (have H2_ := (Option.bind_some _ _).symm.trans H; rw [hy114]; with_reducible exact H2_) | (have H2_ := (Option.bind_some _ _).symm.trans H; with_reducible exact H2_) | with_reducible exact H | (rw [hy114]; exact H) | exact H
              have Ny114 := Aside0.mk hy114
              clear hy114
              have H' := Aside0.mk H
              clear H
              have hcz27_0 : wc.cell? ⟨gb110, 0, none⟩ = some (.int .i64 t105) := (blk_cell BK110.out 0).trans rfl
              have hcz27_1 : wc.cell? ⟨gb110, 1, none⟩ = some (.string t106) := (blk_cell BK110.out 1).trans rfl
              have hcz27_2 : wc.cell? ⟨gb110, 2, none⟩ = some (.bool t107) := (blk_cell BK110.out 2).trans rfl
              have hcz27_3 : wc.cell? ⟨gb110, 3, none⟩ = some (.bool t108) := (blk_cell BK110.out 3).trans rfl
              have hfz27_0 := blk_frozen BK110.out 0
              have hfz27_1 := blk_frozen BK110.out 1
              have hfz27_2 := blk_frozen BK110.out 2
              have hfz27_3 := blk_frozen BK110.out 3
              go_wp2_with (first | ((with_reducible refine gate_builtin (b := .append) (xs := #[.tmp 42, .tmp 44]) rfl ?_); (try (refine gate_guard (by rfl) ?_; dsimp only)); at_builtin; refine Kd.R_append k24 (w0 := w) w.heap.size rfl (.tmp 42) (.tmp 44) 28 24 (.agg #[(.int .i64 0), (.string ⟨#[]⟩), (.bool false), (.bool false)]) 32 rfl Tryd.underlying28 info24 rfl (by decide) (by omega) u5 x5_1 (⟨t105, t106, t107, t108⟩ : S24) [.int .i64 t105, .string t106, .bool t107, .bool t108] (fun k_ => k_ ≠ gb110) (fun _ => False) rfl rfl ?aP (fun _ hk => hk.elim) ?aF ?aO ?aB ?aS ?aL ?_; (case aP => exact k24_mkM _ _ _ (⟨t105, t106, t107, t108⟩ : S24)); (case aB => exact (by repeat (first | (with_reducible first | exact HB.out | apply below_alloc | apply pw_below_drewN | apply below_drew1 | refine below_set ?_ GE110.out) | exact HB.out))); (case aF => exact (fun k_ hk => Kd.freshB (g := gb110) (o := .cells #[.int .i64 t105, .string t106, .bool t107, .bool t108] 24 (0, 0)) (by (with_reducible repeat (first | refine blk_drewN ?_ _ | refine blk_drew ?_ | refine blk_alloc ?_ _)); exact BK110.out) k_ hk)); (case aO => exact (by (with_reducible repeat (first | apply Kd.R_alloc | apply Kd.R_drewN | apply Kd.R_drew)); exact HO_5.out)); (case aS => exact (below_size (by repeat (first | (with_reducible first | exact HB.out | apply below_alloc | apply pw_below_drewN | apply below_drew1 | refine below_set ?_ GE110.out) | exact HB.out)))); (case aL => have := LMc26.out; omega); intro v115 w28 ho hb hg hat; rw [← Ny114.out] at ho; have n0_ := Aside0.mk (Kd.R_over' (by (with_reducible repeat (first | apply Kd.R_alloc | apply Kd.R_drewN | apply Kd.R_drew)); exact HO_11.out) (Kd.R_typed (by (with_reducible repeat (first | apply Kd.R_alloc | apply Kd.R_drewN | apply Kd.R_drew)); exact HO_5.out)) (by decide) hg); have n1_ := Aside0.mk (blk_grown (g := gb110) (o := .cells #[.int .i64 t105, .string t106, .bool t107, .bool t108] 24 (0, 0)) (by (with_reducible repeat (first | refine blk_drewN ?_ _ | refine blk_drew ?_ | refine blk_alloc ?_ _)); exact BK110.out) hg (Kd.R_away HO_5.out (fun _ hk => hk))); have n2_ := Aside0.mk (hb); have n3_ := Aside0.mk (ho); clear HO_11; clear BK110; clear HB; clear HO_5; have HO_11 := n0_; have BK110 := n1_; have HB := n2_; have HO116 := n3_; clear n0_ n1_ n2_ n3_; clear ho hb hg hat))
              go_roundg kj13
              case measure => have := HK1.out; have := HJ7.out; have := HJ13.out; omega
              case rel => exact ⟨(y114), (wrap64 (x13_1 + 1)), (by first | rfl | (simp; done) | (simp [*]; done)), H', ⟨by have := HK1.out; have := HJ7.out; have := HJ13.out; omega⟩, ⟨by (with_reducible repeat (first | apply Kd.R_alloc | apply Kd.R_drewN | apply Kd.R_drew)); exact Kd.R_mono HO116.out (fun _ hk => trivial)⟩, ⟨by (with_reducible repeat (first | apply Kd.R_alloc | apply Kd.R_drewN | apply Kd.R_drew)); exact HO_11.out⟩, ⟨by repeat (first | (with_reducible first | exact HB.out | apply below_alloc | apply pw_below_drewN | apply below_drew1 | refine below_set ?_ GE110.out) | exact HB.out)⟩⟩
             ·rw [if_neg c26] at H
              exact absurd H (by simp)
            ·rw [if_neg c25] at H
             have c25b0 : (t109 == 0) = false := beq_eq_false_iff_ne.mpr c25
             have c25b1 : (t109 != 0) = true := bne_iff_ne.mpr c25
             simp only [Option.some.injEq, Prod.mk.injEq] at H
             obtain ⟨rfl, rfl, rfl⟩ := H
             go_wp2
             go_ret3
             exact ⟨_, by first | rfl | (simp [errW_none, errW_some] <;> rfl) | (simp [*, errW_none, errW_some] <;> rfl), by first | exact Kd.R_nil _ _ _ _ _ | exact Kd.N_nil _ _ _ _ _ | exact Kd.V_nil _ _ _ _ _ | exact Kd.Q_nil _ _ _ _ _ | exact Kd.S_nil _ _ _ _ _, by repeat (first | (with_reducible first | exact HB.out | apply below_alloc | apply pw_below_drewN | apply below_drew1 | refine below_set ?_ GE110.out) | exact HB.out)⟩
     ·rw [if_neg c7] at H
      exact absurd H (by simp)
    ·rw [if_neg c6] at H
     exact absurd H (by simp)
   ·rw [if_neg c5] at H
    have c5b0 : decide (x13_1 < (t101.length : Int)) = false := decide_eq_false c5
    clear c5
    simp only [Option.some.injEq, Prod.mk.injEq] at H
    obtain ⟨rfl, rfl, rfl⟩ := H
    go_wp2
    go_ret3
    exact ⟨_, by first | rfl | (simp [errW_none, errW_some] <;> rfl) | (simp [*, errW_none, errW_some] <;> rfl), by (with_reducible repeat (first | apply Kd.R_alloc | apply Kd.R_drewN | apply Kd.R_drew)); exact HO_5.out, by repeat (first | (with_reducible first | exact HB.out | apply below_alloc | apply pw_below_drewN | apply below_drew1) | exact HB.out)⟩
end Go.Proofs.YtioehkeocddniaaDoor.PA
namespace Go.Proofs.YtioehkeocddniaaDoor.PA
open Go.RowKit Go.Proofs.YtioehkeocddniaaDoorW.PrintWords Go.Proofs.YtioehkeocddniaaDoorW.PrintLast Go.Proofs.YtioehkeocddniaaDoorW.PrintMore
attribute [local go_sem] max2_int min2_int max_two min_two max_three min_three max_four min_four
set_option linter.unusedVariables false
set_option linter.unusedSimpArgs false
def sps (c : UInt8) : List UInt8 → List (List UInt8)
 | [] => [[]]
 | x :: t => if x = c then [] :: sps c t else match sps c t with
  | [] => [[x]]
  | h :: r => (x :: h) :: r
theorem sps_ne (c : UInt8) : ∀ s, sps c s ≠ []
 | [] => by simp [sps]
 | x :: t => by
  rw [sps]
  split
  ·simp
  ·split <;> simp
theorem sps_cons (c x : UInt8) (t : List UInt8) (h : x ≠ c) : ∃ a r, sps c t = a :: r ∧ sps c (x :: t) = (x :: a) :: r := by
 cases hs : sps c t with
 | nil => exact absurd hs (sps_ne c t)
 | cons a r =>
  refine ⟨a, r, rfl, ?_⟩
  rw [sps, if_neg h, hs]
theorem sps_snocC (c : UInt8) : ∀ s, sps c (s ++ [c]) = sps c s ++ [[]]
 | [] => by simp [sps]
 | x :: t => by
  by_cases h : x = c
  ·rw [List.cons_append, sps, if_pos h, sps, if_pos h, sps_snocC c t, List.cons_append]
  ·obtain ⟨a, r, e1, e2⟩ := sps_cons c x t h
   obtain ⟨a', r', e3, e4⟩ := sps_cons c x (t ++ [c]) h
   rw [sps_snocC c t, e1, List.cons_append] at e3
   rw [List.cons_append, e4, e2]
   have e5 := List.cons.inj e3
   rw [← e5.1, ← e5.2, List.cons_append]
theorem sps_snoc (c d : UInt8) (hc : d ≠ c) : ∀ (s : List UInt8) (L : List (List UInt8)) (x : List UInt8), sps c s = L ++ [x] → sps c (s ++ [d]) = L ++ [x ++ [d]]
 | [], L, x, h => by
  cases L with
  | nil =>
   have hx := (List.cons.inj (show ([[]] : List (List UInt8)) = [x] from h)).1
   rw [← hx]
   simp [sps, hc]
  | cons a r =>
   have h1 := (List.cons.inj (show ([[]] : List (List UInt8)) = a :: (r ++ [x]) from h)).2
   simp at h1
 | y :: t, L, x, h => by
  by_cases hy : y = c
  ·rw [sps, if_pos hy] at h
   cases L with
   | nil =>
    have h1 := (List.cons.inj (show [] :: sps c t = [x] from h)).2
    exact absurd h1 (sps_ne c t)
   | cons a r =>
    have h1 := List.cons.inj (show [] :: sps c t = a :: (r ++ [x]) from h)
    rw [List.cons_append, sps, if_pos hy, sps_snoc c d hc t r x h1.2, h1.1]
    rfl
  ·obtain ⟨a, r, e1, e2⟩ := sps_cons c y t hy
   rw [e2] at h
   cases L with
   | nil =>
    have h1 := List.cons.inj (show (y :: a) :: r = [x] from h)
    have h2 := sps_snoc c d hc t [] a (by rw [e1, h1.2]; rfl)
    obtain ⟨a', r', e3, e4⟩ := sps_cons c y (t ++ [d]) hy
    rw [h2] at e3
    have h3 := List.cons.inj (show [a ++ [d]] = a' :: r' from e3)
    rw [List.cons_append, e4, ← h3.1, ← h3.2, ← h1.1]
    rfl
   | cons b q =>
    have h1 := List.cons.inj (show (y :: a) :: r = b :: (q ++ [x]) from h)
    have h2 := sps_snoc c d hc t (a :: q) x (by rw [e1, h1.2]; rfl)
    obtain ⟨a', r', e3, e4⟩ := sps_cons c y (t ++ [d]) hy
    rw [h2] at e3
    have h3 := List.cons.inj (show a :: (q ++ [x ++ [d]]) = a' :: r' from e3)
    rw [List.cons_append, e4, ← h3.1, ← h3.2, ← h1.1]
    rfl
theorem sps_none (c : UInt8) : ∀ p : List UInt8, c ∉ p → sps c p = [p]
 | [], _ => rfl
 | x :: t, h => by
  have hx : x ≠ c := fun e => h (by rw [e]; exact List.mem_cons_self ..)
  have ih := sps_none c t (fun hm => h (List.mem_cons_of_mem _ hm))
  rw [sps, if_neg hx, ih]
theorem sps_front (c : UInt8) : ∀ (p q : List UInt8), c ∉ p → sps c (p ++ c :: q) = p :: sps c q
 | [], q, _ => by rw [List.nil_append, sps, if_pos rfl]
 | x :: t, q, h => by
  have hx : x ≠ c := fun e => h (by rw [e]; exact List.mem_cons_self ..)
  have ih := sps_front c t q (fun hm => h (List.mem_cons_of_mem _ hm))
  rw [List.cons_append, sps, if_neg hx, ih]
theorem index_front (c : UInt8) : ∀ (p q : List UInt8), c ∉ p → Lib.index (p ++ c :: q) [c] = p.length
 | [], q, _ => by simp [Lib.index, List.isPrefixOf]
 | x :: t, q, h => by
  have hx : ¬ c = x := fun e => h (by rw [e]; exact List.mem_cons_self ..)
  have ih := index_front c t q (fun hm => h (List.mem_cons_of_mem _ hm))
  rw [List.cons_append, Lib.index, ih]
  have h1 : ([c].isPrefixOf (x :: (t ++ c :: q))) = false := by simp [List.isPrefixOf, hx]
  rw [h1, if_neg (by decide), if_neg (by rw [beq_iff_eq]; omega)]
  simp
theorem splitK_sps (c : UInt8) : ∀ (n : Nat) (s : List UInt8), s.length ≤ n → Lib.splitK [c] 0 (Lib.count s [c]) s = sps c s
 | n, s, hn => by
  by_cases h : c ∈ s
  ·obtain ⟨p, q, rfl, hp⟩ := List.append_of_mem h |>.elim fun p h2 => h2.elim fun q h3 => (List.eq_append_cons_of_mem h)
   have hcnt : Lib.count (p ++ c :: q) [c] = Lib.count q [c] + 1 := by
    rw [Lib.count_one, Lib.count_one, List.count_append, List.count_eq_zero.2 hp]
    simp
   cases n with
   | zero => simp at hn
   | succ n =>
    have ih := splitK_sps c n q (by simp at hn; omega)
    rw [hcnt, Lib.splitK, index_front c p q hp, if_neg (by rw [beq_iff_eq]; omega), sps_front c p q hp, ← ih]
    simp
  ·rw [Lib.count_one, List.count_eq_zero.2 h, Lib.splitK, sps_none c s h]
def tL (a : ByteArray) : List UInt8 := a.data.toList
theorem tL_inj {a b : ByteArray} (h : tL a = tL b) : a = b := by
 have := Array.toList_inj.1 (show a.data.toList = b.data.toList from h)
 exact ByteArray.ext this
theorem tL_size (a : ByteArray) : (tL a).length = a.size := by
 rw [tL, Array.length_toList]; rfl
theorem map_tL_inj {l m : List ByteArray} (h : l.map tL = m.map tL) : l = m := by
 induction l generalizing m with
 | nil => cases m with
  | nil => rfl
  | cons b t => simp at h
 | cons a s ih => cases m with
  | nil => simp at h
  | cons b t =>
   simp only [List.map_cons, List.cons.injEq] at h
   rw [tL_inj h.1, ih h.2]
theorem splitSB_sps (s : ByteArray) (c : UInt8) : (splitSB s ⟨#[c]⟩).map tL = sps c (tL s) := by
 have h := Lib.splitB_data (⟨#[c]⟩ : ByteArray) 0 (Lib.countB s ⟨#[c]⟩) s
 have h2 := splitK_sps c (tL s).length (tL s) (Nat.le_refl _)
 exact h.trans h2
theorem tk_snoc (a : ByteArray) (k : Nat) (h : k < a.size) : (tL a).take (k + 1) = (tL a).take k ++ [UInt8.ofNat (bt a (k : Int)).toNat] := by
 have hl : k < (tL a).length := by rw [tL_size]; exact h
 rw [List.take_succ_eq_append_getElem hl]
 congr 2
 rw [bt, dif_pos (by simpa using h)]
 simp [tL]
 rfl
theorem ex_one (a : ByteArray) (k : Nat) (h : k < a.size) : tL (a.extract k (k + 1)) = [UInt8.ofNat (bt a (k : Int)).toNat] := by
 have h1 := tk_snoc a k h
 have hlen : ((tL a).take k).length = k := by rw [List.length_take, tL_size]; omega
 unfold tL at h1 hlen ⊢
 rw [ByteArray.data_extract, Array.toList_extract, List.extract_eq_take_drop]
 have h2 : ((a.data.toList.take (k + 1)).drop k) = [UInt8.ofNat (bt a (k : Int)).toNat] := by
  rw [h1, List.drop_append_of_le_length (by omega), List.drop_eq_nil_of_le (by omega)]
  rfl
 rw [List.drop_take] at h2
 exact h2
theorem u32_ (b c : Int) (h0 : 0 ≤ b) (h1 : b ≤ 255) (hc0 : 0 ≤ c) (hc1 : c ≤ 255) : UInt8.ofNat b.toNat = UInt8.ofNat c.toNat ↔ b = c := by
 constructor
 ·intro h
  have := congrArg UInt8.toNat h
  rw [UInt8.toNat_ofNat', UInt8.toNat_ofNat'] at this
  omega
 ·intro h; rw [h]
theorem cut_l (s : ByteArray) (hs : s.size ≤ 1000000) : ∀ (m i k : Nat) (acc : List ByteArray), s.size - i = m → i ≤ s.size → acc.map tL = sps 10 ((tL s).take i) → acc.length ≤ i + 1 → (∀ p ∈ acc, p.size ≤ i) → m + 1 ≤ k → remoraref15_cut.l0 k s acc (i : Int) = some (splitSB s ⟨#[10]⟩) := by
 intro m
 induction m with
 | zero =>
  intro i k acc hm hi ha hl hp hk
  obtain ⟨k, rfl⟩ : ∃ j, k = j + 1 := ⟨k - 1, by omega⟩
  obtain rfl : i = s.size := by omega
  rw [List.take_of_length_le (by rw [tL_size]; exact Nat.le_refl _)] at ha
  rw [remoraref15_cut.l0, if_neg (by omega)]
  congr 1
  exact map_tL_inj (ha.trans (splitSB_sps s 10).symm)
 | succ m ih =>
  intro i k acc hm hi ha hl hp hk
  obtain ⟨k, rfl⟩ : ∃ j, k = j + 1 := ⟨k - 1, by omega⟩
  have hlt : i < s.size := by omega
  have hr := bt_range s (i : Int)
  rw [remoraref15_cut.l0, if_pos (by omega), if_pos (by omega), wr64 _ (by omega) (by omega)]
  by_cases hb : bt s (i : Int) = 10
  ·rw [if_pos hb, if_pos (by omega)]
   refine ih (i + 1) k _ (by omega) (by omega) ?_ (by simp; omega) ?_ (by omega)
   ·have e : UInt8.ofNat (bt s (i : Int)).toNat = 10 := by rw [hb]; rfl
    rw [tk_snoc s i hlt, e, sps_snocC, List.map_append, ha]
    rfl
   ·intro p hp2
    rcases List.mem_append.1 hp2 with h | h
    ·have := hp p h; omega
    ·rw [List.mem_singleton.1 h]; exact Nat.zero_le _
  ·have hne : acc ≠ [] := by
    intro e
    rw [e] at ha
    exact sps_ne 10 _ ha.symm
   obtain ⟨L, x, hLx⟩ : ∃ L x, acc = L ++ [x] := ⟨acc.dropLast, acc.getLast hne, (List.dropLast_concat_getLast hne).symm⟩
   subst hLx
   have hlen : (L ++ [x]).length = L.length + 1 := by simp
   have ew : wrap64 (((L ++ [x]).length : Int) - 1) = (L.length : Int) := by rw [wr64 _ (by omega) (by omega)]; omega
   have er : rdOf ByteArray.empty (L ++ [x]) (L.length : Int) = x := by simp [rdOf]
   have hx := hp x (by simp)
   have e2 : (((i : Int) + 1)).toNat = i + 1 := by omega
   have hx1 : (s.extract i (i + 1)).size = 1 := by rw [← tL_size, ex_one s i hlt]; rfl
   rw [if_neg hb, ew, if_pos (by omega), if_pos (by omega), if_pos (by omega), if_pos (by omega), er, Int.toNat_natCast, Int.toNat_natCast, e2, if_pos (by omega)]
   have eset : (L ++ [x]).set L.length (x ++ s.extract i (i + 1)) = L ++ [x ++ s.extract i (i + 1)] := by simp
   rw [eset]
   have etl : tL (x ++ s.extract i (i + 1)) = tL x ++ [UInt8.ofNat (bt s (i : Int)).toNat] := by
    rw [← ex_one s i hlt]
    simp [tL]
   refine ih (i + 1) k _ (by omega) (by omega) ?_ (by simp at hl ⊢; omega) ?_ (by omega)
   ·rw [List.map_append] at ha ⊢
    rw [tk_snoc s i hlt]
    refine (Eq.trans ?_ (sps_snoc 10 _ (fun e => hb ((u32_ _ 10 hr.1 (by have := hr.2; omega) (by decide) (by decide)).1 e)) _ (L.map tL) (tL x) ha.symm).symm)
    rw [List.map_cons, List.map_nil, etl]
   ·intro p hp2
    rcases List.mem_append.1 hp2 with h | h
    ·have := hp p (List.mem_append_left _ h); omega
    ·rw [List.mem_singleton.1 h, ByteArray.size_append, hx1]; omega
theorem cut_f (s : ByteArray) (hs : s.size ≤ 1000000) (k : Nat) (hk : s.size + 1 ≤ k) : remoraref15_cut.f k s = some (splitSB s ⟨#[10]⟩) :=
 cut_l s hs s.size 0 k _ (by omega) (by omega) (by rfl) (by simp) (by intro p hp; rw [List.mem_singleton.1 hp]; exact Nat.zero_le _) (by omega)
end Go.Proofs.YtioehkeocddniaaDoor.PA
namespace Go.Proofs.YtioehkeocddniaaDoor.PA
open Go.RowKit Go.Proofs.YtioehkeocddniaaDoorW.PrintWords Go.Proofs.YtioehkeocddniaaDoorW.PrintLast Go.Proofs.YtioehkeocddniaaDoorW.PrintMore
attribute [local go_sem] max2_int min2_int max_two min_two max_three min_three max_four min_four
set_option linter.unusedVariables false
set_option linter.unusedSimpArgs false
theorem data0 (t : ByteArray) (h : 0 < t.size) : ∃ r, t.data.toList = UInt8.ofNat (bt t 0).toNat :: r := by
 have hl : 0 < t.data.toList.length := by rw [Array.length_toList]; exact h
 refine ⟨t.data.toList.drop 1, ?_⟩
 have h1 := List.drop_eq_getElem_cons hl
 rw [List.drop_zero] at h1
 rw [h1]
 congr 1
 rw [bt, dif_pos (by simpa using h)]
 simp
 rfl
theorem u8_47 (t : ByteArray) (i : Int) : UInt8.ofNat (bt t i).toNat = 47 ↔ bt t i = 47 := by
 have hr := bt_range t i
 exact u47 (bt t i) hr.1 (by omega)
theorem cutPre_eq (t : ByteArray) : (cutPre t ⟨#[47]⟩, Lib.hasPrefix t.data.toList [47]) = cutP t := by
 unfold cutPre Lib.trimPrefix
 show ((⟨(if Lib.hasPrefix t.data.toList [47] = true then t.data.toList.drop 1 else t.data.toList).toArray⟩ : ByteArray), _) = _
 by_cases h0 : 0 < t.size
 ·obtain ⟨r, hr⟩ := data0 t h0
  have hb : Lib.hasPrefix t.data.toList [47] = decide (bt t 0 = 47) := by
   rw [hr]
   show ((47 : UInt8) == UInt8.ofNat (bt t 0).toNat && true) = _
   rw [Bool.and_true]
   by_cases h : bt t 0 = 47
   ·rw [decide_eq_true h, (u8_47 t 0).2 h]
    rfl
   ·rw [decide_eq_false h, beq_eq_false_iff_ne]
    exact fun e => h ((u8_47 t 0).1 e.symm)
  rw [hb]
  by_cases h : bt t 0 = 47
  ·rw [cutP_yes h0 h, decide_eq_true h, if_pos rfl]
   congr 1
   apply toL_inj
   rw [toL_extract]
   show (t.data.toList.drop 1) = _
   rw [← toL_size t, List.take_length]
   rfl
  ·rw [cutP_no h, decide_eq_false h, if_neg (by decide)]
 ·have hz : t.size = 0 := by omega
  have hd : t.data.toList = [] := List.eq_nil_of_length_eq_zero (by rw [Array.length_toList]; exact hz)
  rw [cutP_empty hz, hd, size_zero hz]
  rfl
theorem dataN (t : ByteArray) (h : 0 < t.size) : t.data.toList.drop (t.data.toList.length - 1) = [UInt8.ofNat (bt t ((t.size - 1 : Nat) : Int)).toNat] := by
 have hl : t.data.toList.length = t.size := by rw [Array.length_toList]; rfl
 have h1 : t.size - 1 < t.data.toList.length := by omega
 rw [hl, List.drop_eq_getElem_cons h1, List.drop_eq_nil_of_le (by omega)]
 congr 1
 rw [bt, dif_pos (by simpa using (by omega : t.size - 1 < t.size))]
 simp
 rfl
theorem cutSuf_eq (t : ByteArray) : (cutSuf t ⟨#[47]⟩, Lib.hasSuffix t.data.toList [47]) = cutS t := by
 have hl : t.data.toList.length = t.size := by rw [Array.length_toList]; rfl
 unfold cutSuf Lib.trimSuffix
 show ((⟨(if Lib.hasSuffix t.data.toList [47] = true then t.data.toList.take (t.data.toList.length - 1) else t.data.toList).toArray⟩ : ByteArray), _) = _
 by_cases h0 : 0 < t.size
 ·have hb : Lib.hasSuffix t.data.toList [47] = decide (bt t ((t.size - 1 : Nat) : Int) = 47) := by
   rw [← Lib.hasSuffix_of_drop]
   show (decide (1 ≤ t.data.toList.length) && (t.data.toList.drop (t.data.toList.length - 1) == [47])) = _
   rw [decide_eq_true (by omega), Bool.true_and, dataN t h0]
   by_cases h : bt t ((t.size - 1 : Nat) : Int) = 47
   ·rw [decide_eq_true h, (u8_47 t _).2 h]
    rfl
   ·rw [decide_eq_false h, beq_eq_false_iff_ne]
    exact fun e => h ((u8_47 t _).1 (List.cons.inj e).1)
  rw [hb]
  by_cases h : bt t ((t.size - 1 : Nat) : Int) = 47
  ·rw [cutS_yes h0 h, decide_eq_true h, if_pos rfl]
   congr 1
   apply toL_inj
   rw [toL_extract, List.drop_zero, hl]
   rfl
  ·rw [cutS_no h, decide_eq_false h, if_neg (by decide)]
 ·have hz : t.size = 0 := by omega
  have hd : t.data.toList = [] := List.eq_nil_of_length_eq_zero (by rw [hl]; exact hz)
  rw [cutS_empty hz, hd, size_zero hz]
  rfl
theorem act_step (k : Nat) (c x : Int) (h : x ≤ 4) : rules_act.l0 (k + 1) c x = if actB x = c then some x else rules_act.l0 k c (wrap64 (x + 1)) := by
 rw [rules_act.l0, if_pos h]
 rfl
theorem act20_f (c : Int) : rules_act.f 20 c = some (signA c) := by
 unfold rules_act.f signA
 have w1 : wrap64 ((1 : Int) + 1) = 2 := (wr64 _ (by decide) (by decide)).trans rfl
 have w2 : wrap64 ((2 : Int) + 1) = 3 := (wr64 _ (by decide) (by decide)).trans rfl
 have w3 : wrap64 ((3 : Int) + 1) = 4 := (wr64 _ (by decide) (by decide)).trans rfl
 have w4 : wrap64 ((4 : Int) + 1) = 5 := (wr64 _ (by decide) (by decide)).trans rfl
 rw [act_step 19 c 1 (by decide), w1, act_step 18 c 2 (by decide), w2, act_step 17 c 3 (by decide), w3, act_step 16 c 4 (by decide), w4, rules_act.l0, if_neg (show ¬ (5 : Int) ≤ 4 by decide)]
 show (if (43 : Int) = c then some (1 : Int) else if (45 : Int) = c then some 2 else if (80 : Int) = c then some 3 else if (82 : Int) = c then some 4 else some 0) = _
 by_cases h1 : c = 43
 ·rw [if_pos h1.symm, if_pos h1]
 ·rw [if_neg (fun h => h1 h.symm), if_neg h1]
  by_cases h2 : c = 45
  ·rw [if_pos h2.symm, if_pos h2]
  ·rw [if_neg (fun h => h2 h.symm), if_neg h2]
   by_cases h3 : c = 80
   ·rw [if_pos h3.symm, if_pos h3]
   ·rw [if_neg (fun h => h3 h.symm), if_neg h3]
    by_cases h4 : c = 82
    ·rw [if_pos h4.symm, if_pos h4]
    ·rw [if_neg (fun h => h4 h.symm), if_neg h4]
theorem cutP_size (t : ByteArray) : (cutP t).1.size ≤ t.size := by
 unfold cutP
 split
 ·show (t.extract 1 t.size).size ≤ t.size
  rw [ByteArray.size_extract]; omega
 ·exact Nat.le_refl _
theorem cutS_size (t : ByteArray) : (cutS t).1.size ≤ t.size := by
 unfold cutS
 split
 ·show (t.extract 0 (t.size - 1)).size ≤ t.size
  rw [ByteArray.size_extract]; omega
 ·exact Nat.le_refl _
def parseR (s : ByteArray) : Int × ByteArray × Bool × Bool × Int :=
 if s.size < 2 ∨ bt s 1 ≠ 32 ∨ signA (bt s 0) = 0 then nilR 5 else
 if chkI (signA (bt s 0)) (cutS (cutP (s.extract 2 s.size)).1).1 = 0 then (signA (bt s 0), (cutS (cutP (s.extract 2 s.size)).1).1, (cutS (cutP (s.extract 2 s.size)).1).2, (cutP (s.extract 2 s.size)).2, 0)
 else nilR (chkI (signA (bt s 0)) (cutS (cutP (s.extract 2 s.size)).1).1)
theorem ex2_size (s : ByteArray) : (cutS (cutP (s.extract 2 s.size)).1).1.size ≤ s.size := by
 have h1 := cutS_size (cutP (s.extract 2 s.size)).1
 have h2 := cutP_size (s.extract 2 s.size)
 have h3 : (s.extract 2 s.size).size ≤ s.size := by rw [ByteArray.size_extract]; omega
 omega
theorem parse_f15 (s : ByteArray) (hs : s.size < 1000000) : rules_Parse.f s = some (parseR s) := by
 unfold rules_Parse.f parseR
 rw [if_pos hs]
 by_cases h2 : s.size < 2
 ·rw [if_pos h2, if_pos (.inl h2)]
 ·rw [if_neg h2, act20_f, Option.bind_some]
  have hz := ex2_size s
  have h3 : (s.extract 2 s.size).size ≤ s.size := by rw [ByteArray.size_extract]; omega
  have h4 := cutP_size (s.extract 2 s.size)
  have eP : strings_CutPrefix.f (s.extract 2 s.size) ⟨#[47]⟩ = some (cutP (s.extract 2 s.size)) := congrArg some (cutPre_eq _)
  have eS : ∀ t : ByteArray, t.size ≤ s.size → strings_CutSuffix.f t ⟨#[47]⟩ = some (cutS t) := fun t ht => by
   unfold strings_CutSuffix.f
   rw [if_pos (by omega)]
   exact congrArg some (cutSuf_eq t)
  by_cases hb : signA (bt s 0) = 0 ∨ bt s 1 ≠ 32
  ·rw [if_pos hb, if_pos (.inr hb.symm)]
  ·rw [if_neg hb, if_neg (fun h => h.elim h2 (fun h => hb h.symm)), eP, Option.bind_some, eS _ (by omega), Option.bind_some, check_f _ _ _ _ (by omega), Option.bind_some]
   by_cases hc : chkI (signA (bt s 0)) (cutS (cutP (s.extract 2 s.size)).1).1 = 0
   ·rw [if_pos hc, if_pos hc]
   ·rw [if_neg hc, if_neg hc]
theorem rparse_f15 (s : ByteArray) (hs : s.size < 1000000) : remoraref15_Parse.f s = some (parseR s) := by
 unfold remoraref15_Parse.f parseR
 rw [if_pos hs]
 by_cases h2 : s.size < 2
 ·rw [if_pos h2, if_pos (.inl h2)]
 ·rw [if_neg h2]
  have hz := ex2_size s
  by_cases h32 : bt s 1 ≠ 32
  ·rw [if_pos h32, if_pos (.inr (.inl h32))]
  ·rw [if_neg h32]
   by_cases ha : signA (bt s 0) = 0
   ·rw [if_pos ha, if_pos (.inr (.inr ha))]
   ·rw [if_neg ha, if_neg (fun h => h.elim h2 (fun h => h.elim h32 ha)), one_f _ _ _ _ (by omega) _ (by omega), Option.bind_some]
    by_cases hc : chkI (signA (bt s 0)) (cutS (cutP (s.extract 2 s.size)).1).1 = 0
    ·rw [if_pos hc, if_pos hc]
    ·rw [if_neg hc, if_neg hc]
def linesR : List ByteArray → Int → List S24 → List S24 × Int × Int
 | [], _, acc => (acc, 0, 0)
 | s :: l, i, acc => if s.size = 0 ∨ bt s 0 = 35 then linesR l (i + 1) acc else
  if (parseR s).2.2.2.2 ≠ 0 then ([], i + 1, (parseR s).2.2.2.2) else
  if acc.length = 64 then ([], i + 1, 7) else linesR l (i + 1) (acc ++ [(⟨(parseR s).1, (parseR s).2.1, (parseR s).2.2.1, (parseR s).2.2.2.1⟩ : S24)])
theorem linesR_cons (s : ByteArray) (l : List ByteArray) (i : Int) (acc : List S24) : linesR (s :: l) i acc = if s.size = 0 ∨ bt s 0 = 35 then linesR l (i + 1) acc else
  if (parseR s).2.2.2.2 ≠ 0 then ([], i + 1, (parseR s).2.2.2.2) else
  if acc.length = 64 then ([], i + 1, 7) else linesR l (i + 1) (acc ++ [(⟨(parseR s).1, (parseR s).2.1, (parseR s).2.2.1, (parseR s).2.2.2.1⟩ : S24)]) := rfl
theorem linesR_len : ∀ (l : List ByteArray) (i : Int) (acc : List S24), acc.length ≤ 64 → (linesR l i acc).1.length ≤ 64
 | [], _, acc, h => h
 | s :: l, i, acc, h => by
  rw [linesR_cons]
  split
  ·exact linesR_len l (i + 1) acc h
  ·split
   ·exact Nat.zero_le _
   ·split
    ·exact Nat.zero_le _
    ·exact linesR_len l (i + 1) _ (by simp; omega)
theorem lines_l (Z : List ByteArray) (hZ : ∀ s ∈ Z, s.size < 1000000) (hn : Z.length < 1000000) : ∀ (m i k : Nat) (acc : List S24), Z.length - i = m → i ≤ Z.length → 3 * m + 3 ≤ k → acc.length ≤ 64 → rules_Lines.l0 k acc Z (Z.length : Int) (i : Int) = some (linesR (Z.drop i) (i : Int) acc) := by
 intro m
 induction m with
 | zero =>
  intro i k acc hm hi hk ha
  obtain ⟨k, rfl⟩ : ∃ j, k = j + 1 := ⟨k - 1, by omega⟩
  obtain rfl : i = Z.length := by omega
  rw [rules_Lines.l0, if_neg (by omega), List.drop_length]
  rfl
 | succ m ih =>
  intro i k acc hm hi hk ha
  obtain ⟨k, rfl⟩ : ∃ j, k = j + 3 := ⟨k - 3, by omega⟩
  have hlt : i < Z.length := by omega
  have e1 : wrap64 ((i : Int) + 1) = ((i + 1 : Nat) : Int) := by rw [wr64 _ (by omega) (by omega)]; rfl
  have hs := hZ _ (List.getElem_mem hlt)
  rw [rules_Lines.l0, if_pos (by omega), if_pos (by omega), if_pos (by omega), rdOf_get Z i hlt, List.drop_eq_getElem_cons hlt, linesR_cons]
  have j1t : rules_Lines.j1 (k + 2) acc (i : Int) (Z[i]) Z (Z.length : Int) (i : Int) true = some (linesR (Z.drop (i + 1)) ((i + 1 : Nat) : Int) acc) := by
   rw [rules_Lines.j1, if_pos rfl, e1]
   exact ih (i + 1) (k + 1) acc (by omega) (by omega) (by omega) ha
  by_cases h0 : (Z[i]).size = 0
  ·rw [if_pos ((size_tl _).2 h0), j1t, if_pos (.inl h0)]
   rfl
  ·rw [if_neg (fun e => h0 ((size_tl _).1 e)), if_pos (by omega)]
   by_cases h35 : bt (Z[i]) 0 = 35
   ·rw [beq_iff_eq.2 h35, j1t, if_pos (.inr h35)]
    rfl
   ·rw [beq_eq_false_iff_ne.2 h35, rules_Lines.j1, if_neg (by decide), parse_f15 (Z[i]) hs, Option.bind_some, if_neg (show ¬ ((Z[i]).size = 0 ∨ bt (Z[i]) 0 = 35) from fun h => h.elim h0 h35)]
    obtain ⟨⟨p1, p2, p3, p4, e⟩, hp⟩ : ∃ P, P = parseR (Z[i]) := ⟨_, rfl⟩
    rw [← hp]
    show (if e = 0 then _ else _) = some (if e ≠ 0 then _ else _)
    by_cases he : e = 0
    ·subst he
     rw [if_pos rfl, if_neg (fun h => h rfl), rules_Lines.j2]
     by_cases h64 : acc.length = 64
     ·rw [beq_iff_eq.2 (show (acc.length : Int) = 64 by omega), if_pos rfl, if_neg (by decide), if_pos h64, e1]
      rfl
     ·rw [beq_eq_false_iff_ne.2 (show (acc.length : Int) ≠ 64 by omega), if_neg (by decide), if_pos rfl, if_pos (by omega), if_neg h64, e1]
      exact ih (i + 1) k _ (by omega) (by omega) (by omega) (by simp; omega)
    ·rw [if_neg he, if_pos he, rules_Lines.j2, if_neg (by decide), if_neg he, e1]
     rfl
theorem rlines_l (Z : List ByteArray) (hZ : ∀ s ∈ Z, s.size < 1000000) (hn : Z.length < 1000000) : ∀ (m i k : Nat) (acc : List S24), Z.length - i = m → i ≤ Z.length → 3 * m + 3 ≤ k → acc.length ≤ 64 → remoraref15_Lines.l0 k acc Z (Z.length : Int) (i : Int) = some (linesR (Z.drop i) (i : Int) acc) := by
 intro m
 induction m with
 | zero =>
  intro i k acc hm hi hk ha
  obtain ⟨k, rfl⟩ : ∃ j, k = j + 1 := ⟨k - 1, by omega⟩
  obtain rfl : i = Z.length := by omega
  rw [remoraref15_Lines.l0, if_neg (by omega), List.drop_length]
  rfl
 | succ m ih =>
  intro i k acc hm hi hk ha
  obtain ⟨k, rfl⟩ : ∃ j, k = j + 3 := ⟨k - 3, by omega⟩
  have hlt : i < Z.length := by omega
  have e1 : wrap64 ((i : Int) + 1) = ((i + 1 : Nat) : Int) := by rw [wr64 _ (by omega) (by omega)]; rfl
  have hs := hZ _ (List.getElem_mem hlt)
  rw [remoraref15_Lines.l0, if_pos (by omega), if_pos (by omega), if_pos (by omega), rdOf_get Z i hlt, List.drop_eq_getElem_cons hlt, linesR_cons]
  have j1t : remoraref15_Lines.j1 (k + 2) acc (i : Int) (Z[i]) Z (Z.length : Int) (i : Int) true = some (linesR (Z.drop (i + 1)) ((i + 1 : Nat) : Int) acc) := by
   rw [remoraref15_Lines.j1, if_pos rfl, e1]
   exact ih (i + 1) (k + 1) acc (by omega) (by omega) (by omega) ha
  by_cases h0 : (Z[i]).size = 0
  ·rw [if_pos ((size_tl _).2 h0), j1t, if_pos (.inl h0)]
   rfl
  ·rw [if_neg (fun e => h0 ((size_tl _).1 e)), if_pos (by omega)]
   by_cases h35 : bt (Z[i]) 0 = 35
   ·rw [beq_iff_eq.2 h35, j1t, if_pos (.inr h35)]
    rfl
   ·rw [beq_eq_false_iff_ne.2 h35, remoraref15_Lines.j1, if_neg (by decide), rparse_f15 (Z[i]) hs, Option.bind_some, if_neg (show ¬ ((Z[i]).size = 0 ∨ bt (Z[i]) 0 = 35) from fun h => h.elim h0 h35)]
    obtain ⟨⟨p1, p2, p3, p4, e⟩, hp⟩ : ∃ P, P = parseR (Z[i]) := ⟨_, rfl⟩
    rw [← hp]
    show (if e = 0 then _ else _) = some (if e ≠ 0 then _ else _)
    by_cases he : e = 0
    ·subst he
     rw [if_pos rfl, if_neg (fun h => h rfl), remoraref15_Lines.j2]
     by_cases h64 : acc.length = 64
     ·rw [beq_iff_eq.2 (show (acc.length : Int) = 64 by omega), if_pos rfl, if_neg (by decide), if_pos h64, e1]
      rfl
     ·rw [beq_eq_false_iff_ne.2 (show (acc.length : Int) ≠ 64 by omega), if_neg (by decide), if_pos rfl, if_pos (by omega), if_neg h64, e1]
      exact ih (i + 1) k _ (by omega) (by omega) (by omega) (by simp; omega)
    ·rw [if_neg he, if_pos he, remoraref15_Lines.j2, if_neg (by decide), if_neg he, e1]
     rfl
theorem piece_size15 (a : ByteArray) : ∀ p ∈ splitSB a ⟨#[10]⟩, p.size ≤ a.size := fun p hp => by
 have h1 := splitSB_sps a 10
 have h2 : tL p ∈ sps 10 (tL a) := by rw [← h1]; exact List.mem_map_of_mem hp
 rw [← tL_size, ← tL_size]
 have key : ∀ (l : List UInt8), ∀ q ∈ sps 10 l, q.length ≤ l.length := by
  intro l
  induction l with
  | nil =>
   intro q hq
   rw [List.mem_singleton.1 hq]
   exact Nat.le_refl _
  | cons x t ih =>
   intro q hq
   by_cases hx : x = 10
   ·rw [sps, if_pos hx] at hq
    rcases List.mem_cons.1 hq with h | h
    ·rw [h]; exact Nat.zero_le _
    ·have := ih q h
     rw [List.length_cons]; omega
   ·obtain ⟨b, r, hb, hc⟩ := sps_cons 10 x t hx
    rw [hc] at hq
    rw [hb] at ih
    rcases List.mem_cons.1 hq with h | h
    ·have := ih b (List.mem_cons_self ..)
     rw [h, List.length_cons, List.length_cons]; omega
    ·have := ih q (List.mem_cons_of_mem _ h)
     rw [List.length_cons]; omega
 exact key (tL a) (tL p) h2
theorem split_len15 (a : ByteArray) : (splitSB a ⟨#[10]⟩).length ≤ a.size + 1 := by
 have h1 := congrArg List.length (splitSB_sps a 10)
 rw [List.length_map] at h1
 rw [h1, ← tL_size]
 have key : ∀ (l : List UInt8), (sps 10 l).length ≤ l.length + 1 := by
  intro l
  induction l with
  | nil => exact Nat.le_refl _
  | cons x t ih =>
   by_cases hx : x = 10
   ·rw [sps, if_pos hx, List.length_cons, List.length_cons]; omega
   ·obtain ⟨b, r, hb, hc⟩ := sps_cons 10 x t hx
    rw [hb] at ih
    rw [hc, List.length_cons, List.length_cons]
    rw [List.length_cons] at ih
    omega
 exact key (tL a)
theorem lines_f15 (a : ByteArray) (ha : a.size < 900000) (k : Nat) (hk : 3000010 ≤ k) : rules_Lines.f k a = some (linesR (splitSB a ⟨#[10]⟩) 0 []) := by
 have hl := split_len15 a
 unfold rules_Lines.f
 rw [strings_Split.f, if_pos ⟨by omega, rfl⟩, Option.bind_some]
 exact lines_l _ (fun s hs => by have := piece_size15 a s hs; omega) (by omega) _ 0 k [] rfl (by omega) (by omega) (by simp)
theorem rlines_f15 (a : ByteArray) (ha : a.size < 900000) (k : Nat) (hk : 3000010 ≤ k) : remoraref15_Lines.f k a = some (linesR (splitSB a ⟨#[10]⟩) 0 []) := by
 have hl := split_len15 a
 unfold remoraref15_Lines.f
 rw [cut_f a (by omega) k (by omega), Option.bind_some]
 exact rlines_l _ (fun s hs => by have := piece_size15 a s hs; omega) (by omega) _ 0 k [] rfl (by omega) (by omega) (by simp)
end Go.Proofs.YtioehkeocddniaaDoor.PA
