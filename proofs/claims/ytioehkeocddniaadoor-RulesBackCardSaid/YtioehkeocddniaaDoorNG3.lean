/- glob.Match by its contract. -/
import Derived.Test.YtioehkeocddniaaDoorNG1
import Derived.Test.YtioehkeocddniaaDoorNG2
import Derived.Lib.Bytealg
import Derived.Lib.Strings
import Derived.Lib.Walk
import Derived.Lib.OthersKept
import Derived.BigQuiet
import Derived.Deep.QuietTactic
import Derived.Outline
import Derived.Laws.CopyOwn
import Derived.RegionTactic
import Derived.Deep.MidRow
namespace Go.Proofs.YtioehkeocddniaaDoor.PA
open Go.RowKit Go.Proofs.YtioehkeocddniaaDoorW.PrintWords Go.Proofs.YtioehkeocddniaaDoorW.PrintLast Go.Proofs.YtioehkeocddniaaDoorW.PrintMore
attribute [local go_sem] max2_int min2_int max_two min_two max_three min_three max_four min_four   -- for this text's walks alone
set_option linter.unusedVariables false
set_option linter.unusedSimpArgs false
mutual
def rules_Lines.l0 : Nat → List (S24) → List ByteArray → Int → Int → Option ((List (S24)) × Int × Int)
 | 0, _, _, _, _ => none
 | k + 1, x5, x11, x12, x13 => if x13 < x12 then (if 0 ≤ x13 then (if x13 < (x11.length : Int) then (if (rdOf ByteArray.empty x11 x13).toList = ([] : List UInt8) then (rules_Lines.j1 k x5 x13 (rdOf ByteArray.empty x11 x13) x11 x12 x13 true) else (if 0 < ((rdOf ByteArray.empty x11 x13).size : Int) then (rules_Lines.j1 k x5 x13 (rdOf ByteArray.empty x11 x13) x11 x12 x13 ((bt (rdOf ByteArray.empty x11 x13) 0) == 35)) else (none))) else (none)) else (none)) else (some (x5, 0, 0))
def rules_Lines.j1 : Nat → List (S24) → Int → ByteArray → List ByteArray → Int → Int → Bool → Option ((List (S24)) × Int × Int)
 | 0, _, _, _, _, _, _, _ => none
 | k + 1, x5, x6, x7, x11, x12, x13, x24 => if x24 = true then (rules_Lines.l0 k x5 x11 x12 (wrap64 (x13 + 1))) else ((rules_Parse.f x7).bind fun bt105 => (if bt105.2.2.2.2 = 0 then (rules_Lines.j2 k x5 x6 bt105.2.2.2.2 x11 x12 x13 ((x5.length : Int) == 64) bt105.1 bt105.2.1 bt105.2.2.1 bt105.2.2.2.1) else (rules_Lines.j2 k x5 x6 bt105.2.2.2.2 x11 x12 x13 false bt105.1 bt105.2.1 bt105.2.2.1 bt105.2.2.2.1)))
def rules_Lines.j2 : Nat → List (S24) → Int → Int → List ByteArray → Int → Int → Bool → Int → ByteArray → Bool → Bool → Option ((List (S24)) × Int × Int)
 | 0, _, _, _, _, _, _, _, _, _, _, _ => none
 | k + 1, x5, x6, x9, x11, x12, x13, x36, x111000, x111001, x111002, x111003 => if x36 = true then (if 7 = 0 then (if x5.length < 4398046511104 then (rules_Lines.l0 k (x5 ++ [(⟨x111000, x111001, x111002, x111003⟩ : S24)]) x11 x12 (wrap64 (x13 + 1))) else (none)) else (some (([] : List (S24)), wrap64 (x6 + 1), 7))) else (if x9 = 0 then (if x5.length < 4398046511104 then (rules_Lines.l0 k (x5 ++ [(⟨x111000, x111001, x111002, x111003⟩ : S24)]) x11 x12 (wrap64 (x13 + 1))) else (none)) else (some (([] : List (S24)), wrap64 (x6 + 1), x9)))
end
def rules_Lines.f (k : Nat) (a0 : ByteArray) : Option ((List (S24)) × Int × Int) := (strings_Split.f a0 (⟨#[10]⟩ : ByteArray)).bind fun t101 => (rules_Lines.l0 k ([] : List (S24)) t101 (t101.length : Int) 0)
set_option maxHeartbeats 8000000 in
set_option maxRecDepth 100000 in
theorem rules_Lines.calls (k : Nat) (a0 : ByteArray) (r1 : List (S24)) (r2 : Int) (r3 : Int) (w : World) (h : rules_Lines.f k a0 = some (r1, r2, r3)) :
  Calls Tryd.prog 13 #[.string a0] w fun e w' => ∃ v0_ : Value, e = .returned (.tuple #[v0_, .int .i64 r2, .int .i64 r3]) ∧ Kd.R k24 24 w' w.heap.size (fun _ => True) v0_ r1 ∧ Below w.heap.size w w' := by
 have hu24 := Tryd.underlying24
 have HB := Aside0.mk (Below.refl w.heap.size w)
 have H : ((strings_Split.f a0 (⟨#[10]⟩ : ByteArray)).bind fun t101 => (rules_Lines.l0 k ([] : List (S24)) t101 (t101.length : Int) 0)) = some (r1, r2, r3) := h
 clear h
 replace H := Option.bind_eq_some_iff.mp H
 obtain ⟨t101, A20, H⟩ := H
 replace H : (rules_Lines.l0 k ([] : List (S24)) t101 (t101.length : Int) 0) = some (r1, r2, r3) := H
 have A2 := Aside0.mk A20
 clear A20
 have H' := Aside0.mk H
 clear H
 go_enter Tryd.func13, Tryd.ntmps13
 go_wp2_with (first | ((with_reducible refine gate_callee (f := 41) rfl ?_); refine goesL_ (some 11) rfl rfl Tryd.func41 (by kernel_rfl) rfl #[.string a0, .string (⟨#[10]⟩ : ByteArray)] rfl (by (try simp only [List.map_toArray, List.map_cons, List.map_nil]); first | done | rfl | (simp only [List.length_drop, List.length_take]; rfl)) ?_; (with_reducible refine (strings_Split.calls a0 (⟨#[10]⟩ : ByteArray) t101 _ A2.out).mono ?_); rintro e w3 ⟨v102, rfl, ho0, hb⟩; refine ⟨_, rfl, ?_⟩; have n0_ := Aside0.mk (Kd.R_lower ho0 (below_size (by repeat (first | (with_reducible first | exact HB.out | apply below_alloc | apply pw_below_drewN | apply below_drew1) | exact HB.out)))); have n1_ := Aside0.mk (below_step (by repeat (first | (with_reducible first | exact HB.out | apply below_alloc | apply pw_below_drewN | apply below_drew1) | exact HB.out)) hb); clear HB; have HO103 := n0_; have HB := n1_; clear n0_ n1_; (try clear hb); (try clear hb2); (try clear hk); (try clear hi); (try clear ho0); obtain ⟨Ao4, co4, eo4⟩ := Kd.R_slice HO103.out; subst eo4))
 go_loopg [5, 13] k (fun kq v5 v13 w' => ∃ (x5_1 : List (S24)) (x13_1 : Int), v13 = .int .i64 x13_1 ∧ Aside0 (rules_Lines.l0 kq x5_1 t101 (t101.length : Int) x13_1 = some (r1, r2, r3)) ∧ Aside0 (kq ≤ k) ∧ Aside0 (Kd.R k24 24 w' w.heap.size (fun _ => True) v5 x5_1) ∧ Aside0 (Kd.R Kd.string 9 w' w.heap.size (fun _ => True) (.slice Ao4 t101.length co4) t101) ∧ Aside0 (Below w.heap.size w w'))
 case atStart => exact ⟨(([] : List (S24))), (0), (by first | rfl | (simp; done) | (simp [*]; done)), H', ⟨Nat.le_refl _⟩, ⟨by first | exact Kd.R_nil _ _ _ _ _ | exact Kd.N_nil _ _ _ _ _ | exact Kd.V_nil _ _ _ _ _ | exact Kd.Q_nil _ _ _ _ _ | exact Kd.S_nil _ _ _ _ _⟩, ⟨by (with_reducible repeat (first | apply Kd.R_alloc | apply Kd.R_drewN | apply Kd.R_drew)); exact HO103.out⟩, ⟨by repeat (first | (with_reducible first | exact HB.out | apply below_alloc | apply pw_below_drewN | apply below_drew1) | exact HB.out)⟩⟩
 case round =>
  clear H'
  try clear c1
  try clear p2
  try clear c4
  obtain ⟨x5_1, x13_1, rfl, HA, HK1, HO_5, HO_11, HB⟩ := hrel
  cases gk with
  | zero => exact absurd HA.out (by simp [rules_Lines.l0])
  | succ k1 =>
   have H := HA.out
   clear HA
   simp only [rules_Lines.l0] at H
   by_cases c5 : x13_1 < (t101.length : Int)
   ·rw [if_pos c5] at H
    have c5b0 : decide (x13_1 < (t101.length : Int)) = true := decide_eq_true c5
    clear c5
    by_cases c6 : 0 ≤ x13_1
    ·rw [if_pos c6] at H
     have c6b0 : decide (0 ≤ x13_1) = true := decide_eq_true c6
     clear c6
     by_cases c7 : x13_1 < (t101.length : Int)
     ·rw [if_pos c7] at H
      have c7b0 : decide (x13_1 < (t101.length : Int)) = true := decide_eq_true c7
      clear c7
      have HC8 := Aside0.mk H
      clear H
      have p104 : 0 ≤ (x13_1 : Int) := of_decide_eq_true (by first | (with_reducible assumption) | assumption)
      have q104 : x13_1 < (t101.length : Int) := of_decide_eq_true (by first | (with_reducible assumption) | assumption)
      obtain ⟨ad104, e104, hx104_0⟩ := Kd.at_string (Kd.R_reads' HO_11.out).2.2 x13_1 p104 q104
      cases e104
      replace p104 := eq_true p104
      replace q104 := eq_true q104
      go_upto_region 5 with (fail)
      go_cut [24] (fun v24 wc => ∃ (kq : Nat) (x24_7 : Bool), v24 = .bool x24_7 ∧ Aside0 (rules_Lines.j1 kq x5_1 x13_1 (rdOf ByteArray.empty t101 x13_1) t101 (t101.length : Int) x13_1 x24_7 = some (r1, r2, r3)) ∧ Aside0 (kq ≤ k1) ∧ Aside0 (Kd.R k24 24 wc w.heap.size (fun _ => True) u5 x5_1) ∧ Aside0 (Kd.R Kd.string 9 wc w.heap.size (fun _ => True) (.slice (some ad104) t101.length co4) t101) ∧ Aside0 (Below w.heap.size w wc))
      case first =>
       have H := HC8.out
       clear HC8
       by_cases c9 : (rdOf ByteArray.empty t101 x13_1).toList = ([] : List UInt8)
       ·rw [if_pos c9] at H
        have c9b0 : ((rdOf ByteArray.empty t101 x13_1).toList == ([] : List UInt8)) = true := beq_iff_eq.mpr c9
        have c9b1 : ((rdOf ByteArray.empty t101 x13_1).toList != ([] : List UInt8)) = false := bne_eq_false_iff_eq.mpr c9
        clear c9
        (first | rw [c9b0] | (simp only [i64_w, i32_w]; rw [c9b0]) | skip)
        have H' := Aside0.mk H
        clear H
        go_wp2
        go_meet
        case rel => exact ⟨_, (true), (by first | rfl | (simp; done) | (simp [*]; done)), H', ⟨by have := HK1.out; first | omega | exact Nat.le_refl _⟩, ⟨by (with_reducible repeat (first | apply Kd.R_alloc | apply Kd.R_drewN | apply Kd.R_drew)); exact HO_5.out⟩, ⟨by (with_reducible repeat (first | apply Kd.R_alloc | apply Kd.R_drewN | apply Kd.R_drew)); exact HO_11.out⟩, ⟨by repeat (first | (with_reducible first | exact HB.out | apply below_alloc | apply pw_below_drewN | apply below_drew1) | exact HB.out)⟩⟩
       ·rw [if_neg c9] at H
        have c9b0 : ((rdOf ByteArray.empty t101 x13_1).toList == ([] : List UInt8)) = false := beq_eq_false_iff_ne.mpr c9
        have c9b1 : ((rdOf ByteArray.empty t101 x13_1).toList != ([] : List UInt8)) = true := bne_iff_ne.mpr c9
        (first | rw [c9b0] | (simp only [i64_w, i32_w]; rw [c9b0]) | skip)
        by_cases c10 : 0 < ((rdOf ByteArray.empty t101 x13_1).size : Int)
        ·rw [if_pos c10] at H
         have c10b0 : decide (0 < ((rdOf ByteArray.empty t101 x13_1).size : Int)) = true := decide_eq_true c10
         have c10b1 : decide (0 < (rdOf ByteArray.empty t101 x13_1).size) = true := decide_eq_true (by omega)
         clear c10
         have H' := Aside0.mk H
         clear H
         have p11 : 0 ≤ (0 : Int) := (by omega)
         have q11 : 0 < (rdOf ByteArray.empty t101 x13_1).size := (by have : (0 : Int) < ((rdOf ByteArray.empty t101 x13_1).size : Int) := of_decide_eq_true (by first | (with_reducible assumption) | assumption); omega)
         have hx11 : ∀ h : 0 < (rdOf ByteArray.empty t101 x13_1).size, (((rdOf ByteArray.empty t101 x13_1)[0]'h).toNat : Int) = bt (rdOf ByteArray.empty t101 x13_1) 0 := bt_at (rdOf ByteArray.empty t101 x13_1) 0
         clear p11
         have qi11 : (0 < ((rdOf ByteArray.empty t101 x13_1).size : Int)) = True := eq_true (of_decide_eq_true (by first | (with_reducible assumption) | assumption))
         replace q11 := eq_true q11
         go_wp2
         go_meet
         case rel => exact ⟨_, (((bt (rdOf ByteArray.empty t101 x13_1) 0) == 35)), (by first | rfl | (simp; done) | (simp [*]; done)), H', ⟨by have := HK1.out; first | omega | exact Nat.le_refl _⟩, ⟨by (with_reducible repeat (first | apply Kd.R_alloc | apply Kd.R_drewN | apply Kd.R_drew)); exact HO_5.out⟩, ⟨by (with_reducible repeat (first | apply Kd.R_alloc | apply Kd.R_drewN | apply Kd.R_drew)); exact HO_11.out⟩, ⟨by repeat (first | (with_reducible first | exact HB.out | apply below_alloc | apply pw_below_drewN | apply below_drew1) | exact HB.out)⟩⟩
        ·rw [if_neg c10] at H
         exact absurd H (by simp)
      case rest =>
       clear HC8
       try clear c1
       try clear p1
       try clear q1
       try clear hx1
       try clear qi1
       try clear p2
       try clear c4
       try clear c5
       try clear c5b0
       try clear c6
       try clear c6b0
       try clear c7
       try clear c7b0
       try clear c9
       try clear c9b0
       try clear c9b1
       try clear c10
       try clear c10b0
       try clear c10b1
       try clear p10
       try clear q10
       try clear hx10
       try clear p11
       try clear q11
       try clear hx11
       try clear qi11
       try clear hx104_0
       try clear p104
       try clear p11
       try clear p2
       try clear q104
       try clear q11
       obtain ⟨kq, x24_7, rfl, HA, HJ7, HO_5, HO_11, HB⟩ := hcut
       cases kq with
       | zero => exact absurd HA.out (by simp [rules_Lines.j1])
       | succ kj7 =>
        have H := HA.out
        clear HA
        simp only [rules_Lines.j1] at H
        by_cases c12 : x24_7 = true
        ·subst c12
         have H1 : (rules_Lines.l0 kj7 x5_1 t101 (t101.length : Int) (wrap64 (x13_1 + 1))) = some (r1, r2, r3) := by rw [if_pos rfl] at H; exact H
         clear H
         have H := H1
         clear H1
         have H' := Aside0.mk H
         clear H
         go_wp2
         go_roundg kj7
         case measure => have := HK1.out; have := HJ7.out; omega
         case rel => exact ⟨(x5_1), (wrap64 (x13_1 + 1)), (by first | rfl | (simp; done) | (simp [*]; done)), H', ⟨by have := HK1.out; have := HJ7.out; omega⟩, ⟨by (with_reducible repeat (first | apply Kd.R_alloc | apply Kd.R_drewN | apply Kd.R_drew)); exact HO_5.out⟩, ⟨by (with_reducible repeat (first | apply Kd.R_alloc | apply Kd.R_drewN | apply Kd.R_drew)); exact HO_11.out⟩, ⟨by repeat (first | (with_reducible first | exact HB.out | apply below_alloc | apply pw_below_drewN | apply below_drew1) | exact HB.out)⟩⟩
        ·replace c12 := Bool.eq_false_iff.mpr c12
         subst c12
         have H1 : ((rules_Parse.f (rdOf ByteArray.empty t101 x13_1)).bind fun bt105 => (if bt105.2.2.2.2 = 0 then (rules_Lines.j2 kj7 x5_1 x13_1 bt105.2.2.2.2 t101 (t101.length : Int) x13_1 ((x5_1.length : Int) == 64) bt105.1 bt105.2.1 bt105.2.2.1 bt105.2.2.2.1) else (rules_Lines.j2 kj7 x5_1 x13_1 bt105.2.2.2.2 t101 (t101.length : Int) x13_1 false bt105.1 bt105.2.1 bt105.2.2.1 bt105.2.2.2.1))) = some (r1, r2, r3) := by rw [if_neg (show ¬ (false = true) by decide)] at H; exact H
         clear H
         have H := H1
         clear H1
         replace H := Option.bind_eq_some_iff.mp H
         obtain ⟨⟨t105, t106, t107, t108, t109⟩, A130, H⟩ := H
         replace H : (if t109 = 0 then (rules_Lines.j2 kj7 x5_1 x13_1 t109 t101 (t101.length : Int) x13_1 ((x5_1.length : Int) == 64) t105 t106 t107 t108) else (rules_Lines.j2 kj7 x5_1 x13_1 t109 t101 (t101.length : Int) x13_1 false t105 t106 t107 t108)) = some (r1, r2, r3) := H
         have A13 := Aside0.mk A130
         clear A130
         have HC14 := Aside0.mk H
         clear H
         go_upto_region 7 with (first | ((with_reducible refine gate_callee (f := 11) rfl ?_); refine goesL_ (some 27) rfl rfl Tryd.func11 (by kernel_rfl) rfl #[.string (rdOf ByteArray.empty t101 x13_1)] rfl (by (try simp only [List.map_toArray, List.map_cons, List.map_nil]); first | done | rfl | (simp only [List.length_drop, List.length_take]; rfl)) ?_; (with_reducible refine (rules_Parse.calls (rdOf ByteArray.empty t101 x13_1) t105 t106 t107 t108 t109 _ A13.out).mono ?_); rintro e w15 ⟨rfl, hb⟩; refine ⟨_, rfl, ?_⟩; have n0_ := Aside0.mk (Kd.R_below (by (with_reducible repeat (first | apply Kd.R_alloc | apply Kd.R_drewN | apply Kd.R_drew)); exact HO_5.out) hb); have n1_ := Aside0.mk (Kd.R_below (by (with_reducible repeat (first | apply Kd.R_alloc | apply Kd.R_drewN | apply Kd.R_drew)); exact HO_11.out) hb); have n2_ := Aside0.mk (below_step (by repeat (first | (with_reducible first | exact HB.out | apply below_alloc | apply pw_below_drewN | apply below_drew1) | exact HB.out)) hb); clear HO_5; clear HO_11; clear HB; have HO_5 := n0_; have HO_11 := n1_; have HB := n2_; clear n0_ n1_ n2_; (try clear hb); (try clear hb2); (try clear hk); (try clear hi)) | ((with_reducible refine gate_dst (N := 8) rfl ?_); (try (refine gate_guard (by rfl) ?_; dsimp only)); refine box_event ?hg (N := 8) ?hd (cs := #[.int .i64 0, .string (⟨#[]⟩ : ByteArray), .bool false, .bool false]) (t := 24) ?hr ?_; (case hd => rfl); (case hg => rfl); (case hr => first | (go_simp; done) | (go_simp; rfl)); intro gb110 hg w16 hbox hb; have n0_ := Aside0.mk (Kd.R_below (Kd.R_elderB (by (with_reducible repeat (first | apply Kd.R_alloc | apply Kd.R_drewN | apply Kd.R_drew)); exact HO_5.out) gb110 (Nat.le_of_eq hg.symm)) hb); have n1_ := Aside0.mk (Kd.R_below (by (with_reducible repeat (first | apply Kd.R_alloc | apply Kd.R_drewN | apply Kd.R_drew)); exact HO_11.out) hb); have n2_ := Aside0.mk (below_step (by repeat (first | (with_reducible first | exact HB.out | apply below_alloc | apply pw_below_drewN | apply below_drew1) | exact HB.out)) hb); have n3_ := Aside0.mk (hbox); have n4_ := Aside0.mk ((by rw [hg]; exact (below_size (by repeat (first | (with_reducible first | exact HB.out | apply below_alloc | apply pw_below_drewN | apply below_drew1) | exact HB.out))) : w.heap.size ≤ gb110)); have n5_ := Aside0.mk ((by rw [hg]; exact (below_size (by repeat (first | (with_reducible first | exact HB.out | apply below_alloc | apply pw_below_drewN | apply below_drew1) | exact HB.out))) : w.heap.size ≤ gb110)); clear HO_5; clear HO_11; clear HB; have HO_5 := n0_; have HO_11 := n1_; have HB := n2_; have BK110 := n3_; have GW110 := n4_; have GE110 := n5_; clear n0_ n1_ n2_ n3_ n4_ n5_; clear hb hbox hg; have hcz17_0 : w16.cell? ⟨gb110, 0, none⟩ = some (.int .i64 0) := (blk_cell BK110.out 0).trans rfl; have hcz17_1 : w16.cell? ⟨gb110, 1, none⟩ = some (.string (⟨#[]⟩ : ByteArray)) := (blk_cell BK110.out 1).trans rfl; have hcz17_2 : w16.cell? ⟨gb110, 2, none⟩ = some (.bool false) := (blk_cell BK110.out 2).trans rfl; have hcz17_3 : w16.cell? ⟨gb110, 3, none⟩ = some (.bool false) := (blk_cell BK110.out 3).trans rfl; have hfz17_0 := blk_frozen BK110.out 0; have hfz17_1 := blk_frozen BK110.out 1; have hfz17_2 := blk_frozen BK110.out 2; have hfz17_3 := blk_frozen BK110.out 3))
         (try simp only [Act.put, List.setIfInBounds_toArray, List.set_cons_zero, List.set_cons_succ])
         go_cut [36] (fun v36 wc => ∃ (kq : Nat) (x36_13 : Bool), v36 = .bool x36_13 ∧ Aside0 (rules_Lines.j2 kq x5_1 x13_1 t109 t101 (t101.length : Int) x13_1 x36_13 t105 t106 t107 t108 = some (r1, r2, r3)) ∧ Aside0 (kq ≤ kj7) ∧ Aside0 (Kd.R k24 24 wc w.heap.size (fun k_ => k_ ≠ gb110) u5 x5_1) ∧ Aside0 (Kd.R Kd.string 9 wc w.heap.size (fun _ => True) (.slice (some ad104) t101.length co4) t101) ∧ Aside0 (wc.heap[gb110]? = some (.cells #[.int .i64 t105, .string t106, .bool t107, .bool t108] 24 (0, 0))) ∧ Aside0 (Below w.heap.size w wc))
         case first =>
          have H := HC14.out
          clear HC14
          by_cases c18 : t109 = 0
          ·rw [if_pos c18] at H
           have c18b0 : (t109 == 0) = true := beq_iff_eq.mpr c18
           have c18b1 : (t109 != 0) = false := bne_eq_false_iff_eq.mpr c18
           clear c18
           (first | rw [c18b0] | (simp only [i64_w, i32_w]; rw [c18b0]) | skip)
           have H' := Aside0.mk H
           clear H
           obtain ⟨Ao19, co19, eo19⟩ := Kd.R_slice HO_5.out
           subst eo19
           go_wp2
           go_meet
           case rel => exact ⟨_, (((x5_1.length : Int) == 64)), (by first | rfl | (simp; done) | (simp [*]; done)), H', ⟨by have := HK1.out; have := HJ7.out; first | omega | exact Nat.le_refl _⟩, ⟨by (with_reducible repeat (first | apply Kd.R_alloc | apply Kd.R_drewN | apply Kd.R_drew)); exact Kd.R_mono (Kd.R_far (p := ⟨gb110, 3, none⟩) (Kd.R_far (p := ⟨gb110, 2, none⟩) (Kd.R_far (p := ⟨gb110, 1, none⟩) (Kd.R_far (p := ⟨gb110, 0, none⟩) (Kd.R_mono HO_5.out (fun k_ hk => (⟨hk, hk.2⟩ : _ ∧ k_ ≠ gb110))) (fun _ hk => hk.2) (.int .i64 t105)) (fun _ hk => hk.2) (.string t106)) (fun _ hk => hk.2) (.bool t107)) (fun _ hk => hk.2) (.bool t108)) (fun _ hk => hk.1.2)⟩, ⟨by (with_reducible repeat (first | apply Kd.R_alloc | apply Kd.R_drewN | apply Kd.R_drew)); exact Kd.R_mono (Kd.R_far (p := ⟨gb110, 3, none⟩) (Kd.R_far (p := ⟨gb110, 2, none⟩) (Kd.R_far (p := ⟨gb110, 1, none⟩) (Kd.R_far (p := ⟨gb110, 0, none⟩) (Kd.R_types HO_11.out BK110.out (by decide)) (fun _ hk => hk.2) (.int .i64 t105)) (fun _ hk => hk.2) (.string t106)) (fun _ hk => hk.2) (.bool t107)) (fun _ hk => hk.2) (.bool t108)) (fun _ hk => trivial)⟩, ⟨by (with_reducible repeat (first | refine blk_drewN ?_ _ | refine blk_drew ?_ | refine blk_alloc ?_ _)); refine blk_put (cs := #[.int .i64 t105, .string t106, .bool t107, .bool false]) ?_ 3 _ rfl; (with_reducible repeat (first | refine blk_drewN ?_ _ | refine blk_drew ?_ | refine blk_alloc ?_ _)); refine blk_put (cs := #[.int .i64 t105, .string t106, .bool false, .bool false]) ?_ 2 _ rfl; (with_reducible repeat (first | refine blk_drewN ?_ _ | refine blk_drew ?_ | refine blk_alloc ?_ _)); refine blk_put (cs := #[.int .i64 t105, .string (⟨#[]⟩ : ByteArray), .bool false, .bool false]) ?_ 1 _ rfl; (with_reducible repeat (first | refine blk_drewN ?_ _ | refine blk_drew ?_ | refine blk_alloc ?_ _)); refine blk_put (cs := #[.int .i64 0, .string (⟨#[]⟩ : ByteArray), .bool false, .bool false]) ?_ 0 _ rfl; (with_reducible repeat (first | refine blk_drewN ?_ _ | refine blk_drew ?_ | refine blk_alloc ?_ _)); exact BK110.out⟩, ⟨by repeat (first | (with_reducible first | exact HB.out | apply below_alloc | apply pw_below_drewN | apply below_drew1 | refine below_set ?_ GE110.out) | exact HB.out)⟩⟩
          ·rw [if_neg c18] at H
           have c18b0 : (t109 == 0) = false := beq_eq_false_iff_ne.mpr c18
           have c18b1 : (t109 != 0) = true := bne_iff_ne.mpr c18
           (first | rw [c18b0] | (simp only [i64_w, i32_w]; rw [c18b0]) | skip)
           have H' := Aside0.mk H
           clear H
           go_wp2
           go_meet
           case rel => exact ⟨_, (false), (by first | rfl | (simp; done) | (simp [*]; done)), H', ⟨by have := HK1.out; have := HJ7.out; first | omega | exact Nat.le_refl _⟩, ⟨by (with_reducible repeat (first | apply Kd.R_alloc | apply Kd.R_drewN | apply Kd.R_drew)); exact Kd.R_mono (Kd.R_far (p := ⟨gb110, 3, none⟩) (Kd.R_far (p := ⟨gb110, 2, none⟩) (Kd.R_far (p := ⟨gb110, 1, none⟩) (Kd.R_far (p := ⟨gb110, 0, none⟩) (Kd.R_mono HO_5.out (fun k_ hk => (⟨hk, hk.2⟩ : _ ∧ k_ ≠ gb110))) (fun _ hk => hk.2) (.int .i64 t105)) (fun _ hk => hk.2) (.string t106)) (fun _ hk => hk.2) (.bool t107)) (fun _ hk => hk.2) (.bool t108)) (fun _ hk => hk.1.2)⟩, ⟨by (with_reducible repeat (first | apply Kd.R_alloc | apply Kd.R_drewN | apply Kd.R_drew)); exact Kd.R_mono (Kd.R_far (p := ⟨gb110, 3, none⟩) (Kd.R_far (p := ⟨gb110, 2, none⟩) (Kd.R_far (p := ⟨gb110, 1, none⟩) (Kd.R_far (p := ⟨gb110, 0, none⟩) (Kd.R_types HO_11.out BK110.out (by decide)) (fun _ hk => hk.2) (.int .i64 t105)) (fun _ hk => hk.2) (.string t106)) (fun _ hk => hk.2) (.bool t107)) (fun _ hk => hk.2) (.bool t108)) (fun _ hk => trivial)⟩, ⟨by (with_reducible repeat (first | refine blk_drewN ?_ _ | refine blk_drew ?_ | refine blk_alloc ?_ _)); refine blk_put (cs := #[.int .i64 t105, .string t106, .bool t107, .bool false]) ?_ 3 _ rfl; (with_reducible repeat (first | refine blk_drewN ?_ _ | refine blk_drew ?_ | refine blk_alloc ?_ _)); refine blk_put (cs := #[.int .i64 t105, .string t106, .bool false, .bool false]) ?_ 2 _ rfl; (with_reducible repeat (first | refine blk_drewN ?_ _ | refine blk_drew ?_ | refine blk_alloc ?_ _)); refine blk_put (cs := #[.int .i64 t105, .string (⟨#[]⟩ : ByteArray), .bool false, .bool false]) ?_ 1 _ rfl; (with_reducible repeat (first | refine blk_drewN ?_ _ | refine blk_drew ?_ | refine blk_alloc ?_ _)); refine blk_put (cs := #[.int .i64 0, .string (⟨#[]⟩ : ByteArray), .bool false, .bool false]) ?_ 0 _ rfl; (with_reducible repeat (first | refine blk_drewN ?_ _ | refine blk_drew ?_ | refine blk_alloc ?_ _)); exact BK110.out⟩, ⟨by repeat (first | (with_reducible first | exact HB.out | apply below_alloc | apply pw_below_drewN | apply below_drew1 | refine below_set ?_ GE110.out) | exact HB.out)⟩⟩
         case rest =>
          clear HC14
          try clear c1
          try clear p1
          try clear q1
          try clear hx1
          try clear qi1
          try clear p2
          try clear c4
          try clear c5
          try clear c5b0
          try clear c6
          try clear c6b0
          try clear p6
          try clear c7
          try clear c7b0
          try clear c9
          try clear c9b0
          try clear c9b1
          try clear c10
          try clear c10b0
          try clear c10b1
          try clear p10
          try clear q10
          try clear hx10
          try clear c11
          try clear p11
          try clear q11
          try clear hx11
          try clear qi11
          try clear c12
          try clear c13
          try clear c18
          try clear c18b0
          try clear c18b1
          try clear hcz17_0
          try clear hcz17_1
          try clear hcz17_2
          try clear hcz17_3
          try clear hfz17_0
          try clear hfz17_1
          try clear hfz17_2
          try clear hfz17_3
          try clear hx104_0
          try clear p1
          try clear p10
          try clear p104
          try clear p11
          try clear p2
          try clear q1
          try clear q10
          try clear q104
          try clear q11
          obtain ⟨kq, x36_13, rfl, HA, HJ13, HO_5, HO_11, BK110, HB⟩ := hcut
          cases kq with
          | zero => exact absurd HA.out (by simp [rules_Lines.j2])
          | succ kj13 =>
           have H := HA.out
           clear HA
           simp only [rules_Lines.j2] at H
           by_cases c20 : x36_13 = true
           ·subst c20
            have H1 : (if 7 = 0 then (if x5_1.length < 4398046511104 then (rules_Lines.l0 kj13 (x5_1 ++ [(⟨t105, t106, t107, t108⟩ : S24)]) t101 (t101.length : Int) (wrap64 (x13_1 + 1))) else (none)) else (some (([] : List (S24)), wrap64 (x13_1 + 1), 7))) = some (r1, r2, r3) := by rw [if_pos rfl] at H; exact H
            clear H
            have H := H1
            clear H1
            by_cases c21 : 7 = 0
            ·exact absurd c21 (by decide)
            ·rw [if_neg c21] at H
             have c21b0 : (7 == 0) = false := beq_eq_false_iff_ne.mpr c21
             have c21b1 : (7 != 0) = true := bne_iff_ne.mpr c21
             simp only [Option.some.injEq, Prod.mk.injEq] at H
             obtain ⟨rfl, rfl, rfl⟩ := H
             go_wp2
             go_ret3
             exact ⟨_, by first | rfl | (simp [errW_none, errW_some] <;> rfl) | (simp [*, errW_none, errW_some] <;> rfl), by first | exact Kd.R_nil _ _ _ _ _ | exact Kd.N_nil _ _ _ _ _ | exact Kd.V_nil _ _ _ _ _ | exact Kd.Q_nil _ _ _ _ _ | exact Kd.S_nil _ _ _ _ _, by repeat (first | (with_reducible first | exact HB.out | apply below_alloc | apply pw_below_drewN | apply below_drew1 | refine below_set ?_ GE110.out) | exact HB.out)⟩
           ·replace c20 := Bool.eq_false_iff.mpr c20
            subst c20
            have H1 : (if t109 = 0 then (if x5_1.length < 4398046511104 then (rules_Lines.l0 kj13 (x5_1 ++ [(⟨t105, t106, t107, t108⟩ : S24)]) t101 (t101.length : Int) (wrap64 (x13_1 + 1))) else (none)) else (some (([] : List (S24)), wrap64 (x13_1 + 1), t109))) = some (r1, r2, r3) := by rw [if_neg (show ¬ (false = true) by decide)] at H; exact H
            clear H
            have H := H1
            clear H1
            by_cases c25 : t109 = 0
            ·rw [if_pos c25] at H
             have c25b0 : (t109 == 0) = true := beq_iff_eq.mpr c25
             have c25b1 : (t109 != 0) = false := bne_eq_false_iff_eq.mpr c25
             clear c25
             by_cases c26 : x5_1.length < 4398046511104
             ·rw [if_pos c26] at H
              have LMc26 := Aside0.mk c26
              clear c26
              obtain ⟨y114, hy114⟩ : ∃ y_ : List (S24), y_ = (x5_1 ++ [(⟨t105, t106, t107, t108⟩ : S24)]) := ⟨_, rfl⟩
              replace H : (rules_Lines.l0 kj13 y114 t101 (t101.length : Int) (wrap64 (x13_1 + 1))) = some (r1, r2, r3) := by first | (rw [hy114]; with_reducible exact H) | (have H2_ := (Option.bind_some _ _).symm.trans H; rw [hy114]; with_reducible exact H2_) | (have H2_ := (Option.bind_some _ _).symm.trans H; with_reducible exact H2_) | with_reducible exact H | (rw [hy114]; exact H) | exact H
              have Ny114 := Aside0.mk hy114
              clear hy114
              have H' := Aside0.mk H
              clear H
              have hcz27_0 : wc.cell? ⟨gb110, 0, none⟩ = some (.int .i64 t105) := (blk_cell BK110.out 0).trans rfl
              have hcz27_1 : wc.cell? ⟨gb110, 1, none⟩ = some (.string t106) := (blk_cell BK110.out 1).trans rfl
              have hcz27_2 : wc.cell? ⟨gb110, 2, none⟩ = some (.bool t107) := (blk_cell BK110.out 2).trans rfl
              have hcz27_3 : wc.cell? ⟨gb110, 3, none⟩ = some (.bool t108) := (blk_cell BK110.out 3).trans rfl
              have hfz27_0 := blk_frozen BK110.out 0
              have hfz27_1 := blk_frozen BK110.out 1
              have hfz27_2 := blk_frozen BK110.out 2
              have hfz27_3 := blk_frozen BK110.out 3
              go_wp2_with (first | ((with_reducible refine gate_builtin (b := .append) (xs := #[.tmp 42, .tmp 44]) rfl ?_); (try (refine gate_guard (by rfl) ?_; dsimp only)); at_builtin; refine Kd.R_append k24 (w0 := w) w.heap.size rfl (.tmp 42) (.tmp 44) 28 24 (.agg #[(.int .i64 0), (.string ⟨#[]⟩), (.bool false), (.bool false)]) 32 rfl Tryd.underlying28 info24 rfl (by decide) (by omega) u5 x5_1 (⟨t105, t106, t107, t108⟩ : S24) [.int .i64 t105, .string t106, .bool t107, .bool t108] (fun k_ => k_ ≠ gb110) (fun _ => False) rfl rfl ?aP (fun _ hk => hk.elim) ?aF ?aO ?aB ?aS ?aL ?_; (case aP => exact k24_mkM _ _ _ (⟨t105, t106, t107, t108⟩ : S24)); (case aB => exact (by repeat (first | (with_reducible first | exact HB.out | apply below_alloc | apply pw_below_drewN | apply below_drew1 | refine below_set ?_ GE110.out) | exact HB.out))); (case aF => exact (fun k_ hk => Kd.freshB (g := gb110) (o := .cells #[.int .i64 t105, .string t106, .bool t107, .bool t108] 24 (0, 0)) (by (with_reducible repeat (first | refine blk_drewN ?_ _ | refine blk_drew ?_ | refine blk_alloc ?_ _)); exact BK110.out) k_ hk)); (case aO => exact (by (with_reducible repeat (first | apply Kd.R_alloc | apply Kd.R_drewN | apply Kd.R_drew)); exact HO_5.out)); (case aS => exact (below_size (by repeat (first | (with_reducible first | exact HB.out | apply below_alloc | apply pw_below_drewN | apply below_drew1 | refine below_set ?_ GE110.out) | exact HB.out)))); (case aL => have := LMc26.out; omega); intro v115 w28 ho hb hg hat; rw [← Ny114.out] at ho; have n0_ := Aside0.mk (Kd.R_over' (by (with_reducible repeat (first | apply Kd.R_alloc | apply Kd.R_drewN | apply Kd.R_drew)); exact HO_11.out) (Kd.R_typed (by (with_reducible repeat (first | apply Kd.R_alloc | apply Kd.R_drewN | apply Kd.R_drew)); exact HO_5.out)) (by decide) hg); have n1_ := Aside0.mk (blk_grown (g := gb110) (o := .cells #[.int .i64 t105, .string t106, .bool t107, .bool t108] 24 (0, 0)) (by (with_reducible repeat (first | refine blk_drewN ?_ _ | refine blk_drew ?_ | refine blk_alloc ?_ _)); exact BK110.out) hg (Kd.R_away HO_5.out (fun _ hk => hk))); have n2_ := Aside0.mk (hb); have n3_ := Aside0.mk (ho); clear HO_11; clear BK110; clear HB; clear HO_5; have HO_11 := n0_; have BK110 := n1_; have HB := n2_; have HO116 := n3_; clear n0_ n1_ n2_ n3_; clear ho hb hg hat))
              go_roundg kj13
              case measure => have := HK1.out; have := HJ7.out; have := HJ13.out; omega
              case rel => exact ⟨(y114), (wrap64 (x13_1 + 1)), (by first | rfl | (simp; done) | (simp [*]; done)), H', ⟨by have := HK1.out; have := HJ7.out; have := HJ13.out; omega⟩, ⟨by (with_reducible repeat (first | apply Kd.R_alloc | apply Kd.R_drewN | apply Kd.R_drew)); exact Kd.R_mono HO116.out (fun _ hk => trivial)⟩, ⟨by (with_reducible repeat (first | apply Kd.R_alloc | apply Kd.R_drewN | apply Kd.R_drew)); exact HO_11.out⟩, ⟨by repeat (first | (with_reducible first | exact HB.out | apply below_alloc | apply pw_below_drewN | apply below_drew1 | refine below_set ?_ GE110.out) | exact HB.out)⟩⟩
             ·rw [if_neg c26] at H
              exact absurd H (by simp)
            ·rw [if_neg c25] at H
             have c25b0 : (t109 == 0) = false := beq_eq_false_iff_ne.mpr c25
             have c25b1 : (t109 != 0) = true := bne_iff_ne.mpr c25
             simp only [Option.some.injEq, Prod.mk.injEq] at H
             obtain ⟨rfl, rfl, rfl⟩ := H
             go_wp2
             go_ret3
             exact ⟨_, by first | rfl | (simp [errW_none, errW_some] <;> rfl) | (simp [*, errW_none, errW_some] <;> rfl), by first | exact Kd.R_nil _ _ _ _ _ | exact Kd.N_nil _ _ _ _ _ | exact Kd.V_nil _ _ _ _ _ | exact Kd.Q_nil _ _ _ _ _ | exact Kd.S_nil _ _ _ _ _, by repeat (first | (with_reducible first | exact HB.out | apply below_alloc | apply pw_below_drewN | apply below_drew1 | refine below_set ?_ GE110.out) | exact HB.out)⟩
     ·rw [if_neg c7] at H
      exact absurd H (by simp)
    ·rw [if_neg c6] at H
     exact absurd H (by simp)
   ·rw [if_neg c5] at H
    have c5b0 : decide (x13_1 < (t101.length : Int)) = false := decide_eq_false c5
    clear c5
    simp only [Option.some.injEq, Prod.mk.injEq] at H
    obtain ⟨rfl, rfl, rfl⟩ := H
    go_wp2
    go_ret3
    exact ⟨_, by first | rfl | (simp [errW_none, errW_some] <;> rfl) | (simp [*, errW_none, errW_some] <;> rfl), by (with_reducible repeat (first | apply Kd.R_alloc | apply Kd.R_drewN | apply Kd.R_drew)); exact HO_5.out, by repeat (first | (with_reducible first | exact HB.out | apply below_alloc | apply pw_below_drewN | apply below_drew1) | exact HB.out)⟩
end Go.Proofs.YtioehkeocddniaaDoor.PA
namespace Go.Proofs.YtioehkeocddniaaDoor.PA
open Go.RowKit Go.Proofs.YtioehkeocddniaaDoorW.PrintWords Go.Proofs.YtioehkeocddniaaDoorW.PrintLast Go.Proofs.YtioehkeocddniaaDoorW.PrintMore
attribute [local go_sem] max2_int min2_int max_two min_two max_three min_three max_four min_four   -- for this text's walks alone
set_option linter.unusedVariables false
set_option linter.unusedSimpArgs false
def bytealg_LastIndexByteString.l0 : Nat → ByteArray → Int → Int → Option (Int)
 | 0, _, _, _ => none
 | k + 1, x0, x1, x5 => if x5 ≥ 0 then (if 0 ≤ x5 then (if x5 < (x0.size : Int) then (if (bt x0 x5) = x1 then (some x5) else (bytealg_LastIndexByteString.l0 k x0 x1 (wrap64 (x5 - 1)))) else (none)) else (none)) else (some (-1))
def bytealg_LastIndexByteString.f (k : Nat) (a0 : ByteArray) (a1 : Int) : Option (Int) := bytealg_LastIndexByteString.l0 k a0 a1 (wrap64 ((a0.size : Int) - 1))
set_option maxHeartbeats 8000000 in
set_option maxRecDepth 100000 in
theorem bytealg_LastIndexByteString.calls (k : Nat) (a0 : ByteArray) (a1 : Int) (r : Int) (w : World) (h : bytealg_LastIndexByteString.f k a0 a1 = some r) :
  Calls Tryd.prog 70 #[.string a0, .int .u8 a1] w fun e w' => e = .returned (.int .i64 r) ∧ Drawn0 w w' := by
 have H : (bytealg_LastIndexByteString.l0 k a0 a1 (wrap64 ((a0.size : Int) - 1))) = some r := h
 clear h
 have H' := Aside0.mk H
 clear H
 go_enter Tryd.func70, Tryd.ntmps70
 go_wp2
 go_loopg [5] k (fun kq v5 w' => ∃ (x5_1 : Int), v5 = .int .i64 x5_1 ∧ Aside0 (bytealg_LastIndexByteString.l0 kq a0 a1 x5_1 = some r) ∧ Aside0 (kq ≤ k) ∧ Drawn0 w w')
 case atStart => exact ⟨(wrap64 ((a0.size : Int) - 1)), (by first | rfl | (simp; done) | (simp [*]; done)), H', ⟨Nat.le_refl _⟩, by repeat (first | exact Drawn0.refl _ | apply Drawn0.step)⟩
 case round =>
  clear H'
  try clear p2
  obtain ⟨x5_1, rfl, HA, HK1, ⟨m1, rfl⟩⟩ := hrel
  cases gk with
  | zero => exact absurd HA.out (by simp [bytealg_LastIndexByteString.l0])
  | succ k1 =>
   have H := HA.out
   clear HA
   simp only [bytealg_LastIndexByteString.l0] at H
   by_cases c3 : x5_1 ≥ 0
   ·rw [if_pos c3] at H
    have c3b0 : decide (0 ≤ x5_1) = true := decide_eq_true c3
    clear c3
    by_cases c4 : 0 ≤ x5_1
    ·rw [if_pos c4] at H
     have c4b0 : decide (0 ≤ x5_1) = true := decide_eq_true c4
     clear c4
     by_cases c5 : x5_1 < (a0.size : Int)
     ·rw [if_pos c5] at H
      have c5b0 : decide (x5_1 < (a0.size : Int)) = true := decide_eq_true c5
      clear c5
      by_cases c7 : (bt a0 x5_1) = a1
      ·rw [if_pos c7] at H
       have c7b0 : ((bt a0 x5_1) == a1) = true := beq_iff_eq.mpr c7
       have c7b1 : ((bt a0 x5_1) != a1) = false := bne_eq_false_iff_eq.mpr c7
       clear c7
       obtain rfl := Option.some.inj H
       have p6 : 0 ≤ (x5_1 : Int) := of_decide_eq_true (by first | (with_reducible assumption) | assumption)
       have q6 : x5_1 < (a0.size : Int) := of_decide_eq_true (by first | (with_reducible assumption) | assumption)
       have hx6 := bt_at a0 x5_1
       replace p6 := eq_true p6
       replace q6 := eq_true q6
       go_wp2
       go_ret
       exact ⟨by first | rfl | (simp; done) | (simp [*]; done), by repeat (first | exact Drawn0.refl _ | apply Drawn0.step)⟩
      ·rw [if_neg c7] at H
       have c7b0 : ((bt a0 x5_1) == a1) = false := beq_eq_false_iff_ne.mpr c7
       have c7b1 : ((bt a0 x5_1) != a1) = true := bne_iff_ne.mpr c7
       have H' := Aside0.mk H
       clear H
       have p6 : 0 ≤ (x5_1 : Int) := of_decide_eq_true (by first | (with_reducible assumption) | assumption)
       have q6 : x5_1 < (a0.size : Int) := of_decide_eq_true (by first | (with_reducible assumption) | assumption)
       have hx6 := bt_at a0 x5_1
       replace p6 := eq_true p6
       replace q6 := eq_true q6
       go_wp2
       go_roundg k1
       case measure => have := HK1.out; omega
       case rel => exact ⟨(wrap64 (x5_1 - 1)), (by first | rfl | (simp; done) | (simp [*]; done)), H', ⟨by have := HK1.out; omega⟩, by repeat (first | exact Drawn0.refl _ | apply Drawn0.step)⟩
     ·rw [if_neg c5] at H
      exact absurd H (by simp)
    ·rw [if_neg c4] at H
     exact absurd H (by simp)
   ·rw [if_neg c3] at H
    have c3b0 : decide (0 ≤ x5_1) = false := decide_eq_false c3
    clear c3
    obtain rfl := Option.some.inj H
    go_wp2
    go_ret
    exact ⟨by first | rfl | (simp; done) | (simp [*]; done), by repeat (first | exact Drawn0.refl _ | apply Drawn0.step)⟩
end Go.Proofs.YtioehkeocddniaaDoor.PA
namespace Go.Proofs.YtioehkeocddniaaDoor.PA
open Go.RowKit Go.Proofs.YtioehkeocddniaaDoorW.PrintWords Go.Proofs.YtioehkeocddniaaDoorW.PrintLast Go.Proofs.YtioehkeocddniaaDoorW.PrintMore
attribute [local go_sem] max2_int min2_int max_two min_two max_three min_three max_four min_four   -- for this text's walks alone
set_option linter.unusedVariables false
set_option linter.unusedSimpArgs false
def strings_LastIndexByte.f (k : Nat) (a0 : ByteArray) (a1 : Int) : Option (Int) := (bytealg_LastIndexByteString.f k a0 a1).bind fun t101 => (some t101)
set_option maxHeartbeats 8000000 in
set_option maxRecDepth 100000 in
theorem strings_LastIndexByte.calls (k : Nat) (a0 : ByteArray) (a1 : Int) (r : Int) (w : World) (h : strings_LastIndexByte.f k a0 a1 = some r) :
  Calls Tryd.prog 54 #[.string a0, .int .u8 a1] w fun e w' => e = .returned (.int .i64 r) ∧ Drawn0 w w' := by
 have H : ((bytealg_LastIndexByteString.f k a0 a1).bind fun t101 => (some t101)) = some r := h
 clear h
 replace H := Option.bind_eq_some_iff.mp H
 obtain ⟨t101, A30, H⟩ := H
 replace H : (some t101) = some r := H
 have A3 := Aside0.mk A30
 clear A30
 obtain rfl := Option.some.inj H
 go_enter Tryd.func54, Tryd.ntmps54
 go_wp2_with (first | ((with_reducible refine gate_callee (f := 70) rfl ?_); refine goesL_ (some 7) rfl rfl Tryd.func70 (by kernel_rfl) rfl #[.string a0, .int .u8 a1] rfl (by (try simp only [List.map_toArray, List.map_cons, List.map_nil]); first | done | rfl | (simp only [List.length_drop, List.length_take]; rfl)) ?_; (with_reducible refine (bytealg_LastIndexByteString.calls k a0 a1 t101 _ A3.out).mono ?_); rintro e w' ⟨rfl, ⟨nd, rfl⟩⟩; refine ⟨_, rfl, ?_⟩))
 go_ret
 exact ⟨by first | rfl | (simp; done) | (simp [*]; done), by repeat (first | exact Drawn0.refl _ | apply Drawn0.step)⟩
end Go.Proofs.YtioehkeocddniaaDoor.PA
namespace Go.Proofs.YtioehkeocddniaaDoor.PA
open Go.RowKit Go.Proofs.YtioehkeocddniaaDoorW.PrintWords Go.Proofs.YtioehkeocddniaaDoorW.PrintLast Go.Proofs.YtioehkeocddniaaDoorW.PrintMore
attribute [local go_sem] max2_int min2_int max_two min_two max_three min_three max_four min_four   -- for this text's walks alone
set_option linter.unusedVariables false
set_option linter.unusedSimpArgs false
def path_Parent.f (k : Nat) (a0 : ByteArray) : Option (ByteArray) := (strings_LastIndexByte.f k a0 47).bind fun t101 => (if 0 ≤ (mx t101 0) then (if (mx t101 0) ≤ (a0.size : Int) then (some (a0.extract 0 ((mx t101 0) : Int).toNat)) else (none)) else (none))
set_option maxHeartbeats 8000000 in
set_option maxRecDepth 100000 in
theorem path_Parent.calls (k : Nat) (a0 : ByteArray) (r : ByteArray) (w : World) (h : path_Parent.f k a0 = some r) :
  Calls Tryd.prog 35 #[.string a0] w fun e w' => e = .returned (.string r) ∧ Below w.heap.size w w' := by
 have HB := Aside0.mk (Below.refl w.heap.size w)
 have H : ((strings_LastIndexByte.f k a0 47).bind fun t101 => (if 0 ≤ (mx t101 0) then (if (mx t101 0) ≤ (a0.size : Int) then (some (a0.extract 0 ((mx t101 0) : Int).toNat)) else (none)) else (none))) = some r := h
 clear h
 replace H := Option.bind_eq_some_iff.mp H
 obtain ⟨t101, A20, H⟩ := H
 replace H : (if 0 ≤ (mx t101 0) then (if (mx t101 0) ≤ (a0.size : Int) then (some (a0.extract 0 ((mx t101 0) : Int).toNat)) else (none)) else (none)) = some r := H
 have A2 := Aside0.mk A20
 clear A20
 obtain ⟨ji3, hji3⟩ : ∃ j_ : Int, (mx t101 0) = j_ := ⟨_, rfl⟩
 replace H : (if 0 ≤ (ji3) then (if (ji3) ≤ (a0.size : Int) then (some (a0.extract 0 ((ji3) : Int).toNat)) else (none)) else (none)) = some r := by first | (rw [hji3] at H; exact H) | (simp only [hji3] at H ⊢; exact H)
 (try rw [hji3] at A2)
 (try (have hji3l : 0 ≤ ji3 := by (rw [← hji3]; unfold mx; (repeat' split) <;> omega)))
 (try (have hji3m : 0 ≤ ji3 := by omega))
 have hji3_ : (if t101 < 0 then 0 else t101) = ji3 := hji3
 by_cases c4 : 0 ≤ (ji3)
 ·rw [if_pos c4] at H
  have c4b0 := eq_true c4
  have c4b1 : decide (0 ≤ (ji3)) = true := decide_eq_true c4
  clear c4
  by_cases c5 : (ji3) ≤ (a0.size : Int)
  ·rw [if_pos c5] at H
   have c5b0 := eq_true c5
   have c5b1 : decide ((ji3) ≤ (a0.size : Int)) = true := decide_eq_true c5
   clear c5
   obtain rfl := Option.some.inj H
   go_enter Tryd.func35, Tryd.ntmps35
   go_wp2_with (first | ((with_reducible refine gate_callee (f := 54) rfl ?_); refine goesL_ (some 5) rfl rfl Tryd.func54 (by kernel_rfl) rfl #[.string a0, .int .u8 47] rfl (by (try simp only [List.map_toArray, List.map_cons, List.map_nil]); first | done | rfl | (simp only [List.length_drop, List.length_take]; rfl)) ?_; (with_reducible refine (strings_LastIndexByte.calls k a0 47 t101 _ A2.out).mono ?_); rintro e w' ⟨rfl, ⟨nd, rfl⟩⟩; refine ⟨_, rfl, ?_⟩))
   go_ret
   exact ⟨by first | rfl | (simp [errW_none, errW_some] <;> rfl) | (simp only [← hji3]; first | rfl | (simp [errW_none, errW_some] <;> rfl)) | (simp [*, errW_none, errW_some] <;> rfl), by repeat (first | (with_reducible first | exact HB.out | apply below_alloc | apply pw_below_drewN | apply below_drew1) | exact HB.out)⟩
  ·rw [if_neg c5] at H
   exact absurd H (by simp)
 ·rw [if_neg c4] at H
  exact absurd H (by simp)
end Go.Proofs.YtioehkeocddniaaDoor.PA
namespace Go.Proofs.YtioehkeocddniaaDoor.PA
open Go.RowKit Go.Proofs.YtioehkeocddniaaDoorW.PrintWords Go.Proofs.YtioehkeocddniaaDoorW.PrintLast Go.Proofs.YtioehkeocddniaaDoorW.PrintMore
attribute [local go_sem] max2_int min2_int max_two min_two max_three min_three max_four min_four
set_option linter.unusedVariables false
set_option linter.unusedSimpArgs false
def strings_IndexByte.f (a0 : ByteArray) (a1 : Int) : Option Int := some (Lib.indexByte a0.data.toList a1.toNat.toUInt8)
set_option maxHeartbeats 1000000 in
set_option maxRecDepth 100000 in
theorem lite_IndexByte (s : ByteArray) (x : Int) (w : World) :
  Calls Tryd.prog 78 #[.string s, .int .u8 x] w fun e w' => e = .returned (.int .i64 (Lib.indexByte s.data.toList x.toNat.toUInt8)) ∧ w' = w := by
 go_enter Tryd.func78, Tryd.ntmps78
 go_wp2
 rw [run_callFunc_extern Tryd.func90 (by kernel_rfl) (by kernel_rfl) (by kernel_rfl) (e := Extern.BytealgIndexByte.indexByte) (by kernel_rfl), Lib.run_indexByteString]
 simp only [Result.andThen]
 rw [Oper.upon_value]
 go_wp2
 go_ret
 exact ⟨rfl, rfl⟩
set_option maxHeartbeats 1000000 in
theorem strings_IndexByte.calls (a0 : ByteArray) (a1 : Int) (r : Int) (w : World) (h : strings_IndexByte.f a0 a1 = some r) :
  Calls Tryd.prog 68 #[.string a0, .int .u8 a1] w fun e w' => e = .returned (.int .i64 r) ∧ Drawn0 w w' := by
 obtain rfl := Option.some.inj h
 clear h
 go_enter Tryd.func68, Tryd.ntmps68
 go_wp2_with (go_at_call 78; refine (lite_IndexByte _ _ _).mono ?_; rintro e w' ⟨rfl, rfl⟩)
 go_ret
 exact ⟨rfl, Drawn0.refl _⟩
end Go.Proofs.YtioehkeocddniaaDoor.PA
namespace Go.Proofs.YtioehkeocddniaaDoor.PA
open Go.RowKit Go.Proofs.YtioehkeocddniaaDoorW.PrintWords Go.Proofs.YtioehkeocddniaaDoorW.PrintLast Go.Proofs.YtioehkeocddniaaDoorW.PrintMore
attribute [local go_sem] max2_int min2_int max_two min_two max_three min_three max_four min_four   -- for this text's walks alone
set_option linter.unusedVariables false
set_option linter.unusedSimpArgs false
def path_part.f (a0 : ByteArray) : Option (Bool) := if a0.toList = ([] : List UInt8) then (some false) else (if (a0.size : Int) ≤ 48 then (if a0.toList = ([46] : List UInt8) then (some false) else (if a0.toList = ([46, 46] : List UInt8) then (some false) else ((strings_IndexByte.f a0 0).bind fun t101 => (some (decide (t101 < 0)))))) else (some false))
set_option maxHeartbeats 8000000 in
set_option maxRecDepth 100000 in
theorem path_part.calls (a0 : ByteArray) (r : Bool) (w : World) (h : path_part.f a0 = some r) :
  Calls Tryd.prog 50 #[.string a0] w fun e w' => e = .returned (.bool r) ∧ Drawn0 w w' := by
 have H : (if a0.toList = ([] : List UInt8) then (some false) else (if (a0.size : Int) ≤ 48 then (if a0.toList = ([46] : List UInt8) then (some false) else (if a0.toList = ([46, 46] : List UInt8) then (some false) else ((strings_IndexByte.f a0 0).bind fun t101 => (some (decide (t101 < 0)))))) else (some false))) = some r := h
 clear h
 by_cases c2 : a0.toList = ([] : List UInt8)
 ·rw [if_pos c2] at H
  have c2b0 : (a0.toList == ([] : List UInt8)) = true := beq_iff_eq.mpr c2
  have c2b1 : (a0.toList != ([] : List UInt8)) = false := bne_eq_false_iff_eq.mpr c2
  clear c2
  obtain rfl := Option.some.inj H
  go_enter Tryd.func50, Tryd.ntmps50
  go_wp2
  go_ret
  exact ⟨by first | rfl | (simp; done) | (simp [*]; done), by repeat (first | exact Drawn0.refl _ | apply Drawn0.step)⟩
 ·rw [if_neg c2] at H
  have c2b0 : (a0.toList == ([] : List UInt8)) = false := beq_eq_false_iff_ne.mpr c2
  have c2b1 : (a0.toList != ([] : List UInt8)) = true := bne_iff_ne.mpr c2
  by_cases c3 : (a0.size : Int) ≤ 48
  ·rw [if_pos c3] at H
   have c3b0 : decide ((a0.size : Int) ≤ 48) = true := decide_eq_true c3
   have c3b1 : decide (a0.size ≤ 48) = true := decide_eq_true (by omega)
   clear c3
   by_cases c4 : a0.toList = ([46] : List UInt8)
   ·rw [if_pos c4] at H
    have c4b0 : (a0.toList == ([46] : List UInt8)) = true := beq_iff_eq.mpr c4
    have c4b1 : (a0.toList != ([46] : List UInt8)) = false := bne_eq_false_iff_eq.mpr c4
    clear c4
    obtain rfl := Option.some.inj H
    go_enter Tryd.func50, Tryd.ntmps50
    go_wp2
    go_ret
    exact ⟨by first | rfl | (simp; done) | (simp [*]; done), by repeat (first | exact Drawn0.refl _ | apply Drawn0.step)⟩
   ·rw [if_neg c4] at H
    have c4b0 : (a0.toList == ([46] : List UInt8)) = false := beq_eq_false_iff_ne.mpr c4
    have c4b1 : (a0.toList != ([46] : List UInt8)) = true := bne_iff_ne.mpr c4
    by_cases c5 : a0.toList = ([46, 46] : List UInt8)
    ·rw [if_pos c5] at H
     have c5b0 : (a0.toList == ([46, 46] : List UInt8)) = true := beq_iff_eq.mpr c5
     have c5b1 : (a0.toList != ([46, 46] : List UInt8)) = false := bne_eq_false_iff_eq.mpr c5
     clear c5
     obtain rfl := Option.some.inj H
     go_enter Tryd.func50, Tryd.ntmps50
     go_wp2
     go_ret
     exact ⟨by first | rfl | (simp; done) | (simp [*]; done), by repeat (first | exact Drawn0.refl _ | apply Drawn0.step)⟩
    ·rw [if_neg c5] at H
     have c5b0 : (a0.toList == ([46, 46] : List UInt8)) = false := beq_eq_false_iff_ne.mpr c5
     have c5b1 : (a0.toList != ([46, 46] : List UInt8)) = true := bne_iff_ne.mpr c5
     replace H := Option.bind_eq_some_iff.mp H
     obtain ⟨t101, A60, H⟩ := H
     replace H : (some (decide (t101 < 0))) = some r := H
     have A6 := Aside0.mk A60
     clear A60
     obtain rfl := Option.some.inj H
     go_enter Tryd.func50, Tryd.ntmps50
     go_wp2_with (first | (go_at_call 68; (with_reducible refine (strings_IndexByte.calls a0 0 t101 _ A6.out).mono ?_); rintro e w' ⟨rfl, ⟨nd, rfl⟩⟩))
     go_ret
     exact ⟨by first | rfl | (simp; done) | (simp [*]; done), by repeat (first | exact Drawn0.refl _ | apply Drawn0.step)⟩
  ·rw [if_neg c3] at H
   have c3b0 : decide ((a0.size : Int) ≤ 48) = false := decide_eq_false c3
   have c3b1 : decide (a0.size ≤ 48) = false := decide_eq_false (by omega)
   clear c3
   obtain rfl := Option.some.inj H
   go_enter Tryd.func50, Tryd.ntmps50
   go_wp2
   go_ret
   exact ⟨by first | rfl | (simp; done) | (simp [*]; done), by repeat (first | exact Drawn0.refl _ | apply Drawn0.step)⟩
end Go.Proofs.YtioehkeocddniaaDoor.PA
namespace Go.Proofs.YtioehkeocddniaaDoor.PA
open Go.RowKit Go.Proofs.YtioehkeocddniaaDoorW.PrintWords Go.Proofs.YtioehkeocddniaaDoorW.PrintLast Go.Proofs.YtioehkeocddniaaDoorW.PrintMore
attribute [local go_sem] max2_int min2_int max_two min_two max_three min_three max_four min_four
set_option linter.unusedVariables false
set_option linter.unusedSimpArgs false
def path_Split.f (a0 : ByteArray) : Option (List ByteArray) := if a0.size < 4398046511104 then some (splitL a0) else none
def SPrun (s : ByteArray) (w0 wr : World) (v : Value) (l : List ByteArray) (pos : Nat) : Prop :=
 Below w0.heap.size w0 wr ∧ wr.heap[w0.heap.size]? = some (.stringIter s pos) ∧ Kd.R Kd.string 9 wr w0.heap.size (fun k => w0.heap.size < k) v l
theorem iter_pos {w : World} {k : Nat} {s : ByteArray} {p : Nat} (h : w.heap[k]? = some (.stringIter s p)) : w.iterPos k = p := by simp [World.iterPos, h]
theorem SPrun.start (s : ByteArray) (w : World) : SPrun s w (w.iter s 0) (.slice none 0 0) [] 0 :=
 ⟨below_alloc (Below.refl _ _) _, World.iter_heap w s 0, Kd.R_nil _ _ _ _ _⟩
theorem SPrun.move {s : ByteArray} {w0 wr : World} {v : Value} {l : List ByteArray} {pos : Nat} (h : SPrun s w0 wr v l pos) (pos' : Nat) : SPrun s w0 (wr.iterAt w0.heap.size s pos') v l pos' :=
 ⟨Lib.below_iterAt h.1 (Nat.le_refl _) s pos', Lib.iterAt_heap wr _ s pos pos' h.2.1, Kd.R_move h.2.2 (fun k hk => Lib.iterAt_other wr _ k s pos' (by omega))⟩
theorem SPrun.more {s : ByteArray} {w0 wr w1 : World} {v v1 : Value} {l l1 : List ByteArray} {pos : Nat} (h : SPrun s w0 wr v l pos) (ho : Kd.R Kd.string 9 w1 w0.heap.size (fun k => w0.heap.size < k) v1 l1) (hb : Below w0.heap.size w0 w1) (hg : wr.grownBy w1 v.ownBlock) : SPrun s w0 w1 v1 l1 pos := by
 refine ⟨hb, ?_, ho⟩
 have hlt := blk_lt h.2.1
 have hne : some w0.heap.size ≠ v.ownBlock := by
  intro he
  exact Nat.lt_irrefl _ (h.2.2.1 _ he.symm)
 rw [← h.2.1]
 exact hg.block _ hlt hne
set_option maxHeartbeats 2000000 in
set_option maxRecDepth 100000 in
theorem path_Split.calls (a0 : ByteArray) (r : List ByteArray) (w : World) (h : path_Split.f a0 = some r) :
  Calls Tryd.prog 49 #[.string a0] w fun e w' => ∃ v0_ : Value, e = .returned (v0_) ∧ Kd.R Kd.string 9 w' w.heap.size (fun _ => True) v0_ r ∧ Below w.heap.size w w' := by
 unfold path_Split.f at h
 by_cases hs : a0.size < 4398046511104
 ·rw [if_pos hs] at h
  obtain rfl := Option.some.inj h
  clear h
  by_cases c2 : a0.toList = ([] : List UInt8)
  ·have c2b : (a0.toList == ([] : List UInt8)) = true := beq_iff_eq.mpr c2
   have hz : a0.size = 0 := by
    have h1 := congrArg List.length c2
    rw [ByteArray.toList_eq, data_length] at h1
    exact h1
   have e : splitL a0 = [] := by rw [splitL, if_pos hz]
   rw [e]
   go_enter Tryd.func49, Tryd.ntmps49
   go_wp2
   go_ret
   exact ⟨_, rfl, Kd.R_nil _ _ _ _ _, Below.refl _ _⟩
  ·have c2b : (a0.toList == ([] : List UInt8)) = false := beq_eq_false_iff_ne.mpr c2
   go_enter Tryd.func49, Tryd.ntmps49
   go_wp2
   go_loopw [3, 4] (fun v3 v4 wr => ∃ pos : Nat, pos ≤ a0.size ∧ v4 = .int .i64 (splitTo a0 pos).2 ∧ Aside0 (SPrun a0 w wr v3 (splitTo a0 pos).1 pos)) (fun _ _ wr => a0.size - wr.iterPos w.heap.size)
   case atStart => exact ⟨0, by omega, rfl, ⟨SPrun.start a0 w⟩⟩
   case round =>
    obtain ⟨pos, hp, rfl, HS⟩ := hrel
    have hfle := splitTo_le a0 pos
    have hlen := splitTo_len a0 pos
    have f0 : (0 ≤ ((splitTo a0 pos).2 : Int)) = True := eq_true (by omega)
    have f1 : (((splitTo a0 pos).2 : Int) ≤ (pos : Int)) = True := eq_true (by omega)
    have f2 : ((pos : Int) ≤ (a0.size : Int)) = True := eq_true (by omega)
    have f3 : (((splitTo a0 pos).2 : Int) ≤ (a0.size : Int)) = True := eq_true (by omega)
    have hpos0 := iter_pos HS.out.2.1
    by_cases hp2 : pos < a0.size
    ·have hnx := fun ty => Lib.run_next_any_at (P := Tryd.prog) wr w.heap.size a0 pos ty HS.out.2.1 hp2
     obtain ⟨d1, d2, d3, d4, d5⟩ := dec47 a0 pos hp2
     by_cases hb : bt a0 (pos : Int) = 47
     ·have e := d4 hb
      rw [e] at hnx
      have HM := Aside0.mk (HS.out.move (pos + 1))
      have hh := splitTo_hit a0 pos hb
      clear HS d1 d2 d3 d4 d5 e
      go_wp2_with (first | ((with_reducible refine gate_builtin (b := .append) (xs := #[.tmp 17, .tmp 22]) rfl ?_); at_builtin; refine Kd.R_append Kd.string (w0 := w) w.heap.size rfl (.tmp 17) (.tmp 22) 53 9 (.string ⟨#[]⟩) 16 rfl Tryd.underlying53 info9 rfl (by decide) (by omega) u3 (splitTo a0 pos).1 (a0.extract (splitTo a0 pos).2 pos) [.string (a0.extract (splitTo a0 pos).2 pos)] (fun k => w.heap.size < k) (fun _ => False) rfl rfl rfl (fun _ hk => hk.elim) (fun k hk => Nat.lt_of_lt_of_le (blk_lt HM.out.2.1) hk) HM.out.2.2 HM.out.1 (below_size HM.out.1) (by omega) ?_; intro v1 w1 ho hb1 hg hat; have HN := Aside0.mk (HM.out.more ho hb1 hg); clear ho hb1 hg hat))
      go_roundw
      case rel => exact ⟨pos + 1, by omega, by rw [hh]; rfl, ⟨by rw [hh]; exact HN.out⟩⟩
      case measure => rw [iter_pos HN.out.2.1, hpos0]; omega
     ·obtain ⟨e1, e2⟩ := d5 hb
      have HM := Aside0.mk (HS.out.move (pos + (Utf8.decode a0 pos).2))
      clear HS d4 d5
      generalize (Utf8.decode a0 pos).1 = ru at *
      generalize (Utf8.decode a0 pos).2 = wd at *
      have hru : (((ru : Nat) : Int) == 47) = false := beq_eq_false_iff_ne.mpr (by omega)
      go_wp2
      go_roundw
      case rel => exact ⟨pos + wd, by omega, by rw [e2], ⟨by rw [e2]; exact HM.out⟩⟩
      case measure => rw [iter_pos HM.out.2.1, hpos0]; omega
    ·have hnx := fun ty => Lib.run_next_end_at (P := Tryd.prog) wr w.heap.size a0 pos ty HS.out.2.1 hp2
     obtain rfl : pos = a0.size := by omega
     go_wp2_with (first | ((with_reducible refine gate_builtin (b := .append) (xs := #[.tmp 26, .tmp 30]) rfl ?_); at_builtin; refine Kd.R_append Kd.string (w0 := w) w.heap.size rfl (.tmp 26) (.tmp 30) 53 9 (.string ⟨#[]⟩) 16 rfl Tryd.underlying53 info9 rfl (by decide) (by omega) u3 (splitTo a0 a0.size).1 (a0.extract (splitTo a0 a0.size).2 a0.size) [.string (a0.extract (splitTo a0 a0.size).2 a0.size)] (fun k => w.heap.size < k) (fun _ => False) rfl rfl rfl (fun _ hk => hk.elim) (fun k hk => Nat.lt_of_lt_of_le (blk_lt HS.out.2.1) hk) HS.out.2.2 HS.out.1 (below_size HS.out.1) (by omega) ?_; intro v1 w1 ho hb1 hg hat; have HN := Aside0.mk (HS.out.more ho hb1 hg); clear ho hb1 hg hat))
     go_ret
     have e : splitL a0 = (splitTo a0 a0.size).1 ++ [a0.extract (splitTo a0 a0.size).2 a0.size] := by
      rw [splitL, if_neg]
      intro h0
      refine c2 (List.eq_nil_of_length_eq_zero ?_)
      rw [ByteArray.toList_eq, data_length]
      exact h0
     rw [e]
     exact ⟨_, rfl, Kd.R_mono HN.out.2.2 (fun _ _ => trivial), HN.out.1⟩
 ·rw [if_neg hs] at h
  exact absurd h (by simp)
end Go.Proofs.YtioehkeocddniaaDoor.PA
namespace Go.Proofs.YtioehkeocddniaaDoor.PA
open Go.RowKit Go.Proofs.YtioehkeocddniaaDoorW.PrintWords Go.Proofs.YtioehkeocddniaaDoorW.PrintLast Go.Proofs.YtioehkeocddniaaDoorW.PrintMore
attribute [local go_sem] max2_int min2_int max_two min_two max_three min_three max_four min_four   -- for this text's walks alone
set_option linter.unusedVariables false
set_option linter.unusedSimpArgs false
def path_Right.l0 : Nat → ByteArray → List ByteArray → List ByteArray → Int → Int → Option (Bool)
 | 0, _, _, _, _, _ => none
 | k + 1, x0, x3, x8, x9, x10 => if x10 < x9 then (if 0 ≤ x10 then (if x10 < (x8.length : Int) then ((path_part.f (rdOf ByteArray.empty x8 x10)).bind fun t105 => (if t105 = true then (path_Right.l0 k x0 x3 x8 x9 (wrap64 (x10 + 1))) else (some false))) else (none)) else (none)) else (if (x3.length : Int) ≤ 12 then (some (decide ((x0.size : Int) ≤ 200))) else (some false))
def path_Right.f (k : Nat) (a0 : ByteArray) : Option (Bool) := (path_Split.f a0).bind fun t101 => (path_Right.l0 k a0 t101 t101 (t101.length : Int) 0)
set_option maxHeartbeats 8000000 in
set_option maxRecDepth 100000 in
theorem path_Right.calls (k : Nat) (a0 : ByteArray) (r : Bool) (w : World) (h : path_Right.f k a0 = some r) :
  Calls Tryd.prog 25 #[.string a0] w fun e w' => e = .returned (.bool r) ∧ Below w.heap.size w w' := by
 have HB := Aside0.mk (Below.refl w.heap.size w)
 have H : ((path_Split.f a0).bind fun t101 => (path_Right.l0 k a0 t101 t101 (t101.length : Int) 0)) = some r := h
 clear h
 replace H := Option.bind_eq_some_iff.mp H
 obtain ⟨t101, A20, H⟩ := H
 replace H : (path_Right.l0 k a0 t101 t101 (t101.length : Int) 0) = some r := H
 have A2 := Aside0.mk A20
 clear A20
 have H' := Aside0.mk H
 clear H
 go_enter Tryd.func25, Tryd.ntmps25
 go_wp2_with (first | ((with_reducible refine gate_callee (f := 49) rfl ?_); refine goesL_ (some 7) rfl rfl Tryd.func49 (by kernel_rfl) rfl #[.string a0] rfl (by (try simp only [List.map_toArray, List.map_cons, List.map_nil]); first | done | rfl | (simp only [List.length_drop, List.length_take]; rfl)) ?_; (with_reducible refine (path_Split.calls a0 t101 _ A2.out).mono ?_); rintro e w3 ⟨v102, rfl, ho0, hb⟩; refine ⟨_, rfl, ?_⟩; have n0_ := Aside0.mk (Kd.R_lower ho0 (below_size (by repeat (first | (with_reducible first | exact HB.out | apply below_alloc | apply pw_below_drewN | apply below_drew1) | exact HB.out)))); have n1_ := Aside0.mk (below_step (by repeat (first | (with_reducible first | exact HB.out | apply below_alloc | apply pw_below_drewN | apply below_drew1) | exact HB.out)) hb); clear HB; have HO103 := n0_; have HB := n1_; clear n0_ n1_; (try clear hb); (try clear hb2); (try clear hk); (try clear hi); (try clear ho0); obtain ⟨Ao4, co4, eo4⟩ := Kd.R_slice HO103.out; subst eo4))
 go_loopg [10] k (fun kq v10 w' => ∃ (x10_1 : Int), v10 = .int .i64 x10_1 ∧ Aside0 (path_Right.l0 kq a0 t101 t101 (t101.length : Int) x10_1 = some r) ∧ Aside0 (kq ≤ k) ∧ Aside0 (Kd.R Kd.string 9 w' w.heap.size (fun _ => True) (.slice Ao4 t101.length co4) t101) ∧ Aside0 (Kd.R Kd.string 9 w' w.heap.size (fun _ => True) (.slice Ao4 t101.length co4) t101) ∧ Aside0 (Below w.heap.size w w'))
 case atStart => exact ⟨(0), (by first | rfl | (simp; done) | (simp [*]; done)), H', ⟨Nat.le_refl _⟩, ⟨by (with_reducible repeat (first | apply Kd.R_alloc | apply Kd.R_drewN | apply Kd.R_drew)); exact HO103.out⟩, ⟨by (with_reducible repeat (first | apply Kd.R_alloc | apply Kd.R_drewN | apply Kd.R_drew)); exact HO103.out⟩, ⟨by repeat (first | (with_reducible first | exact HB.out | apply below_alloc | apply pw_below_drewN | apply below_drew1) | exact HB.out)⟩⟩
 case round =>
  clear H'
  try clear c2
  try clear p2
  try clear c4
  obtain ⟨x10_1, rfl, HA, HK1, HO_3, HO_8, HB⟩ := hrel
  cases gk with
  | zero => exact absurd HA.out (by simp [path_Right.l0])
  | succ k1 =>
   have H := HA.out
   clear HA
   simp only [path_Right.l0] at H
   by_cases c5 : x10_1 < (t101.length : Int)
   ·rw [if_pos c5] at H
    have c5b0 : decide (x10_1 < (t101.length : Int)) = true := decide_eq_true c5
    clear c5
    by_cases c6 : 0 ≤ x10_1
    ·rw [if_pos c6] at H
     have c6b0 : decide (0 ≤ x10_1) = true := decide_eq_true c6
     clear c6
     by_cases c7 : x10_1 < (t101.length : Int)
     ·rw [if_pos c7] at H
      have c7b0 : decide (x10_1 < (t101.length : Int)) = true := decide_eq_true c7
      clear c7
      replace H := Option.bind_eq_some_iff.mp H
      obtain ⟨t105, A80, H⟩ := H
      replace H : (if t105 = true then (path_Right.l0 k1 a0 t101 t101 (t101.length : Int) (wrap64 (x10_1 + 1))) else (some false)) = some r := H
      have A8 := Aside0.mk A80
      clear A80
      by_cases c9 : t105 = true
      ·subst c9
       have H1 : (path_Right.l0 k1 a0 t101 t101 (t101.length : Int) (wrap64 (x10_1 + 1))) = some r := by rw [if_pos rfl] at H; exact H
       clear H
       have H := H1
       clear H1
       have H' := Aside0.mk H
       clear H
       have p104 : 0 ≤ (x10_1 : Int) := of_decide_eq_true (by first | (with_reducible assumption) | assumption)
       have q104 : x10_1 < (t101.length : Int) := of_decide_eq_true (by first | (with_reducible assumption) | assumption)
       obtain ⟨ad104, e104, hx104_0⟩ := Kd.at_string (Kd.R_reads' HO_8.out).2.2 x10_1 p104 q104
       cases e104
       replace p104 := eq_true p104
       replace q104 := eq_true q104
       go_wp2_with (first | ((with_reducible refine gate_callee (f := 50) rfl ?_); refine goesL_ (some 15) rfl rfl Tryd.func50 (by kernel_rfl) rfl #[.string (rdOf ByteArray.empty t101 x10_1)] rfl (by (try simp only [List.map_toArray, List.map_cons, List.map_nil]); first | done | rfl | (simp only [List.length_drop, List.length_take]; rfl)) ?_; (with_reducible refine (path_part.calls (rdOf ByteArray.empty t101 x10_1) true _ A8.out).mono ?_); rintro e w' ⟨rfl, ⟨nd, rfl⟩⟩; refine ⟨_, rfl, ?_⟩))
       go_roundg k1
       case measure => have := HK1.out; omega
       case rel => exact ⟨(wrap64 (x10_1 + 1)), (by first | rfl | (simp; done) | (simp [*]; done)), H', ⟨by have := HK1.out; omega⟩, ⟨by (with_reducible repeat (first | apply Kd.R_alloc | apply Kd.R_drewN | apply Kd.R_drew)); exact HO_3.out⟩, ⟨by (with_reducible repeat (first | apply Kd.R_alloc | apply Kd.R_drewN | apply Kd.R_drew)); exact HO_8.out⟩, ⟨by repeat (first | (with_reducible first | exact HB.out | apply below_alloc | apply pw_below_drewN | apply below_drew1) | exact HB.out)⟩⟩
      ·replace c9 := Bool.eq_false_iff.mpr c9
       subst c9
       have H1 : (some false) = some r := by rw [if_neg (show ¬ (false = true) by decide)] at H; exact H
       clear H
       have H := H1
       clear H1
       obtain rfl := Option.some.inj H
       have p104 : 0 ≤ (x10_1 : Int) := of_decide_eq_true (by first | (with_reducible assumption) | assumption)
       have q104 : x10_1 < (t101.length : Int) := of_decide_eq_true (by first | (with_reducible assumption) | assumption)
       obtain ⟨ad104, e104, hx104_0⟩ := Kd.at_string (Kd.R_reads' HO_8.out).2.2 x10_1 p104 q104
       cases e104
       replace p104 := eq_true p104
       replace q104 := eq_true q104
       go_wp2_with (first | ((with_reducible refine gate_callee (f := 50) rfl ?_); refine goesL_ (some 15) rfl rfl Tryd.func50 (by kernel_rfl) rfl #[.string (rdOf ByteArray.empty t101 x10_1)] rfl (by (try simp only [List.map_toArray, List.map_cons, List.map_nil]); first | done | rfl | (simp only [List.length_drop, List.length_take]; rfl)) ?_; (with_reducible refine (path_part.calls (rdOf ByteArray.empty t101 x10_1) false _ A8.out).mono ?_); rintro e w' ⟨rfl, ⟨nd, rfl⟩⟩; refine ⟨_, rfl, ?_⟩))
       go_ret
       exact ⟨by first | rfl | (simp [errW_none, errW_some] <;> rfl) | (simp [*, errW_none, errW_some] <;> rfl), by repeat (first | (with_reducible first | exact HB.out | apply below_alloc | apply pw_below_drewN | apply below_drew1) | exact HB.out)⟩
     ·rw [if_neg c7] at H
      exact absurd H (by simp)
    ·rw [if_neg c6] at H
     exact absurd H (by simp)
   ·rw [if_neg c5] at H
    have c5b0 : decide (x10_1 < (t101.length : Int)) = false := decide_eq_false c5
    clear c5
    by_cases c10 : (t101.length : Int) ≤ 12
    ·rw [if_pos c10] at H
     have c10b0 : decide ((t101.length : Int) ≤ 12) = true := decide_eq_true c10
     have c10b1 : decide (t101.length ≤ 12) = true := decide_eq_true (by omega)
     clear c10
     obtain rfl := Option.some.inj H
     go_wp2
     go_ret
     exact ⟨by first | rfl | (simp [errW_none, errW_some] <;> rfl) | (simp [*, errW_none, errW_some] <;> rfl), by repeat (first | (with_reducible first | exact HB.out | apply below_alloc | apply pw_below_drewN | apply below_drew1) | exact HB.out)⟩
    ·rw [if_neg c10] at H
     have c10b0 : decide ((t101.length : Int) ≤ 12) = false := decide_eq_false c10
     have c10b1 : decide (t101.length ≤ 12) = false := decide_eq_false (by omega)
     clear c10
     obtain rfl := Option.some.inj H
     go_wp2
     go_ret
     exact ⟨by first | rfl | (simp [errW_none, errW_some] <;> rfl) | (simp [*, errW_none, errW_some] <;> rfl), by repeat (first | (with_reducible first | exact HB.out | apply below_alloc | apply pw_below_drewN | apply below_drew1) | exact HB.out)⟩
end Go.Proofs.YtioehkeocddniaaDoor.PA
namespace Go.Proofs.YtioehkeocddniaaDoor.PA
open Go.RowKit Go.Proofs.YtioehkeocddniaaDoorW.PrintWords Go.Proofs.YtioehkeocddniaaDoorW.PrintLast Go.Proofs.YtioehkeocddniaaDoorW.PrintMore
attribute [local go_sem] max2_int min2_int max_two min_two max_three min_three max_four min_four   -- for this text's walks alone
set_option linter.unusedVariables false
set_option linter.unusedSimpArgs false
def path_Base.f (k : Nat) (a0 : ByteArray) : Option (ByteArray) := (strings_LastIndexByte.f k a0 47).bind fun t101 => (if 0 ≤ (wrap64 (t101 + 1)) then (if (wrap64 (t101 + 1)) ≤ (a0.size : Int) then (some (a0.extract ((wrap64 (t101 + 1)) : Int).toNat a0.size)) else (none)) else (none))
set_option maxHeartbeats 8000000 in
set_option maxRecDepth 100000 in
theorem path_Base.calls (k : Nat) (a0 : ByteArray) (r : ByteArray) (w : World) (h : path_Base.f k a0 = some r) :
  Calls Tryd.prog 28 #[.string a0] w fun e w' => e = .returned (.string r) ∧ Drawn0 w w' := by
 have H : ((strings_LastIndexByte.f k a0 47).bind fun t101 => (if 0 ≤ (wrap64 (t101 + 1)) then (if (wrap64 (t101 + 1)) ≤ (a0.size : Int) then (some (a0.extract ((wrap64 (t101 + 1)) : Int).toNat a0.size)) else (none)) else (none))) = some r := h
 clear h
 replace H := Option.bind_eq_some_iff.mp H
 obtain ⟨t101, A20, H⟩ := H
 replace H : (if 0 ≤ (wrap64 (t101 + 1)) then (if (wrap64 (t101 + 1)) ≤ (a0.size : Int) then (some (a0.extract ((wrap64 (t101 + 1)) : Int).toNat a0.size)) else (none)) else (none)) = some r := H
 have A2 := Aside0.mk A20
 clear A20
 obtain ⟨ji3, hji3⟩ : ∃ j_ : Int, (wrap64 (t101 + 1)) = j_ := ⟨_, rfl⟩
 replace H : (if 0 ≤ (ji3) then (if (ji3) ≤ (a0.size : Int) then (some (a0.extract ((ji3) : Int).toNat a0.size)) else (none)) else (none)) = some r := by first | (rw [hji3] at H; exact H) | (simp only [hji3] at H ⊢; exact H)
 (try rw [hji3] at A2)
 have hji3w : (IntKind.i64.wrap (t101 + 1)) = ji3 := (i64_w _).trans hji3
 by_cases c4 : 0 ≤ (ji3)
 ·rw [if_pos c4] at H
  have c4b0 := eq_true c4
  have c4b1 : decide (0 ≤ (ji3)) = true := decide_eq_true c4
  clear c4
  by_cases c5 : (ji3) ≤ (a0.size : Int)
  ·rw [if_pos c5] at H
   have c5b0 := eq_true c5
   have c5b1 : decide ((ji3) ≤ (a0.size : Int)) = true := decide_eq_true c5
   clear c5
   obtain rfl := Option.some.inj H
   go_enter Tryd.func28, Tryd.ntmps28
   go_wp2_with (first | ((with_reducible refine gate_callee (f := 54) rfl ?_); refine goesL_ (some 5) rfl rfl Tryd.func54 (by kernel_rfl) rfl #[.string a0, .int .u8 47] rfl (by (try simp only [List.map_toArray, List.map_cons, List.map_nil]); first | done | rfl | (simp only [List.length_drop, List.length_take]; rfl)) ?_; (with_reducible refine (strings_LastIndexByte.calls k a0 47 t101 _ A2.out).mono ?_); rintro e w' ⟨rfl, ⟨nd, rfl⟩⟩; refine ⟨_, rfl, ?_⟩))
   go_ret
   exact ⟨by first | rfl | (simp; done) | (simp only [← hji3] <;> (first | rfl | simp)) | (simp [*]; done), by repeat (first | exact Drawn0.refl _ | apply Drawn0.step)⟩
  ·rw [if_neg c5] at H
   exact absurd H (by simp)
 ·rw [if_neg c4] at H
  exact absurd H (by simp)
end Go.Proofs.YtioehkeocddniaaDoor.PA
namespace Go.Proofs.YtioehkeocddniaaDoor.PA
open Go.RowKit Go.Proofs.YtioehkeocddniaaDoorW.PrintWords Go.Proofs.YtioehkeocddniaaDoorW.PrintLast Go.Proofs.YtioehkeocddniaaDoorW.PrintMore
attribute [local go_sem] max2_int min2_int max_two min_two max_three min_three max_four min_four
set_option linter.unusedVariables false
set_option linter.unusedSimpArgs false
def tkB : Tok → Int → Bool
 | .lit d, c => c == d
 | .star2, _ => true
 | .star, c => c != 47
 | .one, c => c != 47
 | .cls n s, c => c != 47 && s c.toNat != n
def SgHas (w : World) (g o : Nat) (x : Sg) : Prop := ∀ i u, (sgL x)[i]? = some u → w.cell? ⟨g, o + i, none⟩ = some u
set_option maxHeartbeats 4000000 in
set_option maxRecDepth 100000 in
theorem takes_call (t : Tok) (g o : Nat) (c : Nat) (hb : c < 256) (w : World) (hc : SgHas w g o (codeSg t)) :
  Calls Tryd.prog 53 #[.pointer (some ⟨g, o, none⟩), .int .u8 c] w fun e w' => e = .returned (.bool (tkB t c)) ∧ Drawn0 w w' := by
 unfold SgHas at hc
 cases t with
 | lit d =>
  have h0 := hc 0 (.int .i64 0) rfl
  have h1 := hc 1 (.int .u8 d) rfl
  clear hc
  rw [Nat.add_zero] at h0
  go_enter Tryd.func53, Tryd.ntmps53
  go_wp2
  go_ret
  exact ⟨rfl, 0, rfl⟩
 | star2 =>
  have h0 := hc 0 (.int .i64 1) rfl
  clear hc
  rw [Nat.add_zero] at h0
  go_enter Tryd.func53, Tryd.ntmps53
  go_wp2
  go_ret
  exact ⟨rfl, 0, rfl⟩
 | star =>
  have h0 := hc 0 (.int .i64 2) rfl
  clear hc
  rw [Nat.add_zero] at h0
  go_enter Tryd.func53, Tryd.ntmps53
  go_wp2
  go_ret
  exact ⟨rfl, 0, rfl⟩
 | one =>
  have h0 := hc 0 (.int .i64 3) rfl
  clear hc
  rw [Nat.add_zero] at h0
  go_enter Tryd.func53, Tryd.ntmps53
  go_wp2
  go_ret
  exact ⟨rfl, 0, rfl⟩
 | cls nt s =>
  have h0 := hc 0 (.int .i64 4) rfl
  have h2 := hc 2 (.bool nt) rfl
  have h3 := hc (3 + c) (.bool (s c)) (sgL_get _ c hb)
  rw [← Nat.add_assoc] at h3
  clear hc
  rw [Nat.add_zero] at h0
  have e3 : ((c : Int) < 256) = True := eq_true (by omega)
  by_cases h47 : c = 47
  ·subst h47
   go_enter Tryd.func53, Tryd.ntmps53
   go_wp2
   go_quiet (fail)
   go_wp2
   go_ret
   exact ⟨rfl, _, rfl⟩
  ·have q1 : ((c : Int) != 47) = true := bne_iff_ne.2 (by omega)
   go_enter Tryd.func53, Tryd.ntmps53
   go_wp2
   go_quiet (fail)
   go_wp2
   go_ret
   exact ⟨by simp only [tkB, q1, Bool.true_and, Int.toNat_natCast]; rfl, _, rfl⟩
end Go.Proofs.YtioehkeocddniaaDoor.PA
namespace Go.Proofs.YtioehkeocddniaaDoor.PA
open Go.RowKit Go.Proofs.YtioehkeocddniaaDoorW.PrintWords Go.Proofs.YtioehkeocddniaaDoorW.PrintLast Go.Proofs.YtioehkeocddniaaDoorW.PrintMore
attribute [local go_sem] max2_int min2_int max_two min_two max_three min_three max_four min_four
set_option linter.unusedVariables false
set_option linter.unusedSimpArgs false
def bA (f : Nat → Bool) (n : Nat) : Array Value := ((List.range n).map fun i => .bool (f i)).toArray
theorem bA_len (f : Nat → Bool) (n : Nat) : (bA f n).size = n := by simp [bA]
theorem bA_get (f : Nat → Bool) (n i : Nat) (h : i < n) : (bA f n)[i]? = some (.bool (f i)) := by simp [bA, h]
theorem bA_set (f : Nat → Bool) (n j : Nat) : (bA f n).setIfInBounds j (.bool true) = bA (addS f j) n := by
 apply Array.ext_getElem?
 intro i
 rw [Array.getElem?_setIfInBounds, bA_len]
 by_cases hn : i < n
 ·rw [bA_get _ _ _ hn, bA_get _ _ _ hn]
  by_cases hi : j = i
  ·subst hi
   rw [if_pos rfl, if_pos hn]
   simp [addS]
  ·have : (i == j) = false := beq_eq_false_iff_ne.2 (Ne.symm hi)
   rw [if_neg hi]
   simp [addS, this]
 ·rw [Array.getElem?_eq_none (by rw [bA_len]; omega)]
  by_cases hi : j = i
  ·subst hi
   rw [if_pos rfl, if_neg hn, Array.getElem?_eq_none (by rw [bA_len]; omega)]
  ·rw [if_neg hi, Array.getElem?_eq_none (by rw [bA_len]; omega)]
theorem bA_made (n : Nat) : madeCells #[.bool false] n = bA noS n := by
 apply Array.ext_getElem?
 intro i
 by_cases hn : i < n
 ·rw [bA_get _ _ _ hn]
  simp [madeCells, hn, noS, Nat.mod_one]
 ·rw [Array.getElem?_eq_none (xs := madeCells #[.bool false] n) (by simp [madeCells]; omega), Array.getElem?_eq_none (by rw [bA_len]; omega)]
def SgVal (T : Nat) (w : World) (A : Option Addr) (l : List Sg) : Prop := l ≠ [] → ∃ g cur, A = some ⟨g, 0, none⟩ ∧ w.heap[g]? = some (.cells cur T (0, 0)) ∧ ∀ j x, l[j]? = some x → ∀ i u, (sgL x)[i]? = some u → cur[j * 259 + i]? = some u
theorem SgVal.of {T : Nat} {w0 w : World} {v : Value} {l : List Sg} (h : SgRow T w0 w v l) : ∃ A c, v = .slice A l.length c ∧ SgVal T w A l := by
 obtain ⟨_, _, inner, ⟨h1, h2⟩, h3⟩ := h
 rcases h2 with ⟨rfl, h0⟩ | ⟨g, cap, cur, rfl, _, hh, _, _, _, ht⟩
 ·exact ⟨none, 0, by rw [h0], fun hl => absurd (List.length_eq_zero_iff.1 h0) hl⟩
 ·have ht : List.take (l.length * 259) cur.toList = inner := ht
  refine ⟨_, cap, rfl, fun _ => ⟨g, cur, rfl, hh, fun j x hj i u hi => ?_⟩⟩
  have hr : (inner.drop (j * 259)).take 259 = sgL x := h3.2 j x hj
  have hi2 : i < 259 := by
   have := (List.getElem?_eq_some_iff.1 hi).1
   rwa [sgL_len] at this
  have hjl := (List.getElem?_eq_some_iff.1 hj).1
  have hi' := hi
  rw [← hr, List.getElem?_take_of_lt hi2, List.getElem?_drop, ← ht] at hi'
  have hlt : j * 259 + i < l.length * 259 := by
   have : (j + 1) * 259 ≤ l.length * 259 := Nat.mul_le_mul_right _ hjl
   omega
  rw [List.getElem?_take_of_lt hlt] at hi'
  rwa [Array.getElem?_toList] at hi'
theorem SgVal.of_map {T : Nat} {w0 w : World} {v : Value} {l : List Tok} {f : Tok → Sg} (h : SgRow T w0 w v (l.map f)) : ∃ A c, v = .slice A l.length c ∧ SgVal T w A (l.map f) := by
 obtain ⟨A, c, rfl, h2⟩ := SgVal.of h
 exact ⟨A, c, by rw [List.length_map], h2⟩
theorem SgVal.step {T : Nat} {w w2 : World} {A : Option Addr} {l : List Sg} (h : SgVal T w A l) (hb : Below w.heap.size w w2) : SgVal T w2 A l := fun hl => by
 obtain ⟨g, cur, h1, h2, h3⟩ := h hl
 exact ⟨g, cur, h1, blk_below h2 hb, h3⟩
theorem SgVal.row {T t : Nat} {w : World} {A : Option Addr} {l : List Sg} {ga : Nat} {X : Array Value} (h : SgVal T w A l) (hb : w.heap[ga]? = some (.cells X t (0, 0))) (hne : T ≠ t) (Y : Array Value) : SgVal T (w.setRow ga Y) A l := fun hl => by
 obtain ⟨g, cur, h1, h2, h3⟩ := h hl
 refine ⟨g, cur, h1, (setRow_other _ _ _ _ ?_).trans h2, h3⟩
 rintro rfl
 rw [h2] at hb
 injection hb with hb
 injection hb with _ hb
 exact hne hb
theorem SgVal.has {T : Nat} {w : World} {A : Option Addr} {l : List Sg} (h : SgVal T w A l) (k : Nat) (x : Sg) (hk : l[k]? = some x) : ∃ g, A = some ⟨g, 0, none⟩ ∧ SgHas w g (k * 259) x := by
 obtain ⟨g, cur, h1, h2, h3⟩ := h (by rintro rfl; simp at hk)
 exact ⟨g, h1, fun i u hi => (blk_cell h2 _).trans (h3 k x hk i u hi)⟩
theorem setRow_cell {w : World} {g t : Nat} {cs : Array Value} (h : w.heap[g]? = some (.cells cs t (0, 0))) (i : Nat) (u : Value) : w.setCell ⟨g, i, none⟩ u = w.setRow g (cs.setIfInBounds i u) := setCell_eq_setRow w g i cs t (0, 0) u h
def starT : Tok → Bool
 | .star2 => true
 | .star => true
 | _ => false
def kindT (t : Tok) : Int := (codeSg t).k
theorem kindT_star {t : Tok} (h : starT t = true) : kindT t = 1 ∨ kindT t = 2 := by
 cases t <;> first | exact .inl rfl | exact .inr rfl | exact absurd h (by simp [starT])
theorem kindT_no {t : Tok} (h : starT t = false) : (kindT t == 1) = false ∧ (kindT t == 2) = false := by
 cases t <;> first | exact ⟨rfl, rfl⟩ | exact absurd h (by simp [starT])
def emS (l : List Tok) (f : Nat → Bool) : Nat → (Nat → Bool)
 | 0 => f
 | k + 1 => if (emS l f k k && starT (l.getD k .one)) = true then addS (emS l f k) (k + 1) else emS l f k
set_option maxHeartbeats 4000000 in
set_option maxRecDepth 100000 in
theorem empty_call (l : List Tok) (A : Option Addr) (cp ga ca : Nat) (f : Nat → Bool) (w : World) (hl : l.length < 1000000) (hS : SgVal 64 w A (l.map codeSg)) (hA : w.heap[ga]? = some (.cells (bA f (l.length + 1)) 4 (0, 0))) :
  Calls Tryd.prog 52 #[.slice A l.length cp, .slice (some ⟨ga, 0, none⟩) (l.length + 1) ca] w fun e w' => e = .returned (.tuple #[]) ∧ w' = w.setRow ga (bA (emS l f l.length) (l.length + 1)) := by
 have HS := Aside0.mk hS
 have HA := Aside0.mk hA
 clear hS hA
 have h0 := Aside0.mk (show w = w.setRow ga (bA (emS l f 0) (l.length + 1)) from (setRow_self w ga _ _ _ HA.out).symm)
 go_enter Tryd.func52, Tryd.ntmps52
 go_wp2
 go_loopw [7] (fun v7 wr => ∃ k : Nat, v7 = .int .i64 k ∧ k ≤ l.length ∧ Aside0 (wr = w.setRow ga (bA (emS l f k) (l.length + 1)))) (fun v7 _ => l.length - (intOf v7).toNat)
 case atStart => exact ⟨0, rfl, Nat.zero_le _, h0⟩
 case round =>
  clear h0
  obtain ⟨k, rfl, hk, HW⟩ := hrel
  by_cases hlt : k < l.length
  ·have e0 : ((k : Int) < (l.length : Int)) = True := eq_true (by omega)
   have e1 : ((k : Int) < ((l.length : Int) + 1)) = True := eq_true (by omega)
   have e2 : (((k : Int) + 1) < ((l.length : Int) + 1)) = True := eq_true (by omega)
   have HB := Aside0.mk (show wr.heap[ga]? = some (.cells (bA (emS l f k) (l.length + 1)) 4 (0, 0)) by rw [HW.out]; exact setRow_heap _ _ _ _ _ _ HA.out)
   obtain ⟨t, ht⟩ : ∃ t, l[k]? = some t := ⟨_, List.getElem?_eq_getElem hlt⟩
   have hmk : (l.map codeSg)[k]? = some (codeSg t) := by rw [List.getElem?_map, ht]; rfl
   have hS1 : SgVal 64 wr A (l.map codeSg) := by rw [HW.out]; exact HS.out.row HA.out (by decide) _
   obtain ⟨g, hg, hh⟩ := hS1.has k _ hmk
   have hkd := hh 0 (.int .i64 (kindT t)) rfl
   rw [Nat.add_zero] at hkd
   have hgd : l.getD k .one = t := by rw [List.getD_eq_getElem?_getD, ht]; rfl
   have hat := (blk_cell HB.out k).trans (bA_get _ _ k (by omega))
   have hst := (blk_cell HB.out (k + 1)).trans (bA_get _ _ (k + 1) (by omega))
   have hfr := blk_frozen HB.out (k + 1)
   clear hh hS1 hmk ht
   have hem : emS l f (k + 1) = (if (emS l f k k && starT t) = true then addS (emS l f k) (k + 1) else emS l f k) := by rw [emS, hgd]
   clear hgd
   subst hg
   by_cases hb : emS l f k k = true
   ·rw [hb] at hat
    by_cases hst2 : starT t = true
    ·have HE := Aside0.mk (show emS l f (k + 1) = addS (emS l f k) (k + 1) by rw [hem, hb, hst2]; rfl)
     clear hem
     rcases kindT_star hst2 with hkk | hkk
     all_goals
      rw [hkk] at hkd
      clear hkk hst2 hb
      go_wp2
      have n0_ := Aside0.mk (setRow_cell HB.out (k + 1) (.bool true))
      go_roundw
      case rel => exact ⟨k + 1, by go_num, by omega, ⟨by rw [n0_.out, bA_set, HE.out, HW.out, setRow_setRow]⟩⟩
      case measure => simp [intOf]; omega
    ·have hst3 : starT t = false := Bool.eq_false_iff.2 hst2
     have HE := Aside0.mk (show emS l f (k + 1) = emS l f k by rw [hem, hb, hst3]; rfl)
     clear hem
     obtain ⟨q1, q2⟩ := kindT_no hst3
     clear hst2 hst3 hb
     go_wp2
     go_roundw
     case rel => exact ⟨k + 1, by go_num, by omega, ⟨by rw [HE.out]; exact HW.out⟩⟩
     case measure => simp [intOf]; omega
   ·have hb2 : emS l f k k = false := Bool.eq_false_iff.2 hb
    have HE := Aside0.mk (show emS l f (k + 1) = emS l f k by rw [hem, hb2]; rfl)
    rw [hb2] at hat
    clear hem hb hb2
    go_wp2
    go_roundw
    case rel => exact ⟨k + 1, by go_num, by omega, ⟨by rw [HE.out]; exact HW.out⟩⟩
    case measure => simp [intOf]; omega
  ·obtain rfl : k = l.length := by omega
   have e0 : ((l.length : Int) < (l.length : Int)) = False := eq_false (by omega)
   go_wp2
   go_end0
   exact ⟨rfl, HW.out⟩
end Go.Proofs.YtioehkeocddniaaDoor.PA
namespace Go.Proofs.YtioehkeocddniaaDoor.PA
open Go.RowKit Go.Proofs.YtioehkeocddniaaDoorW.PrintWords Go.Proofs.YtioehkeocddniaaDoorW.PrintLast Go.Proofs.YtioehkeocddniaaDoorW.PrintMore
attribute [local go_sem] max2_int min2_int max_two min_two max_three min_three max_four min_four
set_option linter.unusedVariables false
set_option linter.unusedSimpArgs false
theorem mkb_event {P : Program} {ops : Array Oper} {rest : List Oper} {o : Oper} {a : Act} {Q : Exit → Act → World → Prop} {W : World} (hgd : o.guard = none) {N : Tmp} (_hd : o.dst = some N) {m : Nat} {cs : Array Value} {t : TypeId}
  (hrun : (execOp a.eval o).run P W = .ok (.value (.slice (some ⟨W.heap.size, 0, none⟩) m m)) (W.alloc (.cells cs t (0, 0))))
  (h : ∀ g, g = W.heap.size → ∀ w1, w1.heap[g]? = some (.cells cs t (0, 0)) → Below W.heap.size W w1 → wpList P ops Q rest (a.put o.dst (.slice (some ⟨g, 0, none⟩) m m)) w1) : wpList P ops Q (o :: rest) a W :=
 Kd.event_run hgd hrun (h _ rfl _ (blk_new W _) (below_alloc (Below.refl _ _) _))
def nxS (l : List Tok) (f : Nat → Bool) (c : Int) : Nat → (Nat → Bool)
 | 0 => noS
 | k + 1 => if (f k && tkB (l.getD k .one) c) = true then (if starT (l.getD k .one) = true then addS (nxS l f c k) k else addS (nxS l f c k) (k + 1)) else nxS l f c k
def stS (l : List Tok) (s : ByteArray) : Nat → (Nat → Bool)
 | 0 => emS l (addS noS 0) l.length
 | i + 1 => emS l (nxS l (stS l s i) (bt s (i : Int)) l.length) l.length
theorem stS_succ (l : List Tok) (s : ByteArray) (i : Nat) : stS l s (i + 1) = emS l (nxS l (stS l s i) (bt s (i : Int)) l.length) l.length := rfl
theorem SgHas.drewN {w : World} {g o : Nat} {x : Sg} (h : SgHas w g o x) (q : Nat) : SgHas (w.drewN q) g o x := fun i u hi => by
 have := h i u hi
 simpa using this
structure MW (T BO : Nat) (w wr : World) (A : Option Addr) (l : List Tok) (ga : Nat) (F : Nat → Bool) : Prop where
 below : Below w.heap.size w wr
 sg : SgVal T wr A (l.map codeSg)
 blk : wr.heap[ga]? = some (.cells (bA F (l.length + 1)) BO (0, 0))
 lo : w.heap.size ≤ ga
structure MW2 (T BO : Nat) (w wr : World) (A : Option Addr) (l : List Tok) (ga : Nat) (F : Nat → Bool) (gb : Nat) (G : Nat → Bool) : Prop extends MW T BO w wr A l ga F where
 blk2 : wr.heap[gb]? = some (.cells (bA G (l.length + 1)) BO (0, 0))
 lo2 : ga < gb
 ne : T ≠ BO
section
variable {T BO : Nat} {w wr w2 : World} {A : Option Addr} {l : List Tok} {ga gb : Nat} {F G : Nat → Bool}
theorem MW.step (h : MW T BO w wr A l ga F) (hb : Below wr.heap.size wr w2) : MW T BO w w2 A l ga F := ⟨below_step h.below hb, h.sg.step hb, blk_below h.blk hb, h.lo⟩
theorem MW.row (h : MW T BO w wr A l ga F) (hne : T ≠ BO) (F2 : Nat → Bool) : MW T BO w (wr.setRow ga (bA F2 (l.length + 1))) A l ga F2 :=
 ⟨below_setRow h.below h.lo _, h.sg.row h.blk hne _, setRow_heap _ _ _ _ _ _ h.blk, h.lo⟩
theorem MW.put (h : MW T BO w wr A l ga F) (hne : T ≠ BO) (i : Nat) : MW T BO w (wr.setCell ⟨ga, i, none⟩ (.bool true)) A l ga (addS F i) := by
 have := h.row hne (addS F i)
 rwa [← bA_set, ← setRow_cell h.blk] at this
theorem MW2.make (h : MW 64 4 w wr A l ga F) {w9 : World} (hg : gb = wr.heap.size) (hbox : w9.heap[gb]? = some (.cells (bA noS (l.length + 1)) 4 (0, 0))) (hb : Below wr.heap.size wr w9) : MW2 64 4 w w9 A l ga F gb noS :=
 ⟨h.step hb, hbox, by rw [hg]; exact blk_lt h.blk, by decide⟩
theorem MW2.step (h : MW2 T BO w wr A l ga F gb G) (hb : Below wr.heap.size wr w2) : MW2 T BO w w2 A l ga F gb G := ⟨h.toMW.step hb, blk_below h.blk2 hb, h.lo2, h.ne⟩
theorem MW2.put (h : MW2 T BO w wr A l ga F gb G) (i : Nat) : MW2 T BO w (wr.setCell ⟨gb, i, none⟩ (.bool true)) A l ga F gb (addS G i) := by
 rw [setRow_cell h.blk2, bA_set]
 exact ⟨⟨below_setRow h.below (Nat.le_trans h.lo (Nat.le_of_lt h.lo2)) _, h.sg.row h.blk2 h.ne _, (setRow_other _ _ _ _ (Nat.ne_of_lt h.lo2)).trans h.blk, h.lo⟩, setRow_heap _ _ _ _ _ _ h.blk2, h.lo2, h.ne⟩
theorem MW2.take (h : MW2 T BO w wr A l ga F gb G) : MW T BO w wr A l gb G := ⟨h.below, h.sg, h.blk2, Nat.le_trans h.lo (Nat.le_of_lt h.lo2)⟩
theorem MW.make {v : Value} (h : SgRow 64 w wr v (l.map codeSg)) (hS : SgVal 64 wr A (l.map codeSg)) {w9 : World} (hg : ga = wr.heap.size) (hbox : w9.heap[ga]? = some (.cells (bA noS (l.length + 1)) 4 (0, 0))) (hb : Below wr.heap.size wr w9) : MW 64 4 w w9 A l ga noS :=
 ⟨below_step h.1 hb, hS.step hb, hbox, by rw [hg]; exact below_size h.1⟩
end
theorem parse_len : ∀ (n : Nat) (s : List Int) (l : List Tok), parse n s = some l → l.length ≤ s.length
 | 0, _, _, h => by simp [parse] at h
 | n + 1, [], l, h => by
  simp [parse] at h
  subst h
  simp
 | n + 1, c :: r, l, h => by
  have key : ∀ (q : List Int) (t : Tok), q.length ≤ r.length → (parse n q).map (t :: ·) = some l → l.length ≤ (c :: r).length := fun q t hq hp => by
   obtain ⟨l2, h2, h3⟩ := Option.map_eq_some_iff.1 hp
   have := parse_len n q l2 h2
   rw [← h3]
   simp
   omega
  rw [parse_eq] at h
  split at h
  ·exact key _ _ (sk_len r) h
  ·split at h
   ·exact key _ _ (Nat.le_refl _) h
   ·split at h
    ·cases hc : cls0 r with
     | none => rw [hc] at h; simp at h
     | some tr =>
      rw [hc] at h
      exact key _ _ (Nat.le_of_lt (cls0_len hc)) h
    ·split at h
     ·cases r with
      | nil => simp at h
      | cons d r' => exact key _ _ (by simp) h
     ·exact key _ _ (Nat.le_refl _) h
set_option maxHeartbeats 8000000 in
set_option maxRecDepth 100000 in
theorem match_call (a0 a1 : ByteArray) (hs : a0.size < 1000000) (hs1 : a1.size < 1000000) (w : World) :
  Calls Tryd.prog 27 #[.string a0, .string a1] w fun e w' => e = .returned (.bool (match (if a0.size ≤ 100 then parse (a0.size + 1) (gL a0) else none) with | none => false | some l => stS l a1 a1.size l.length)) ∧ Below w.heap.size w w' := by
 have hsc := signs_call a0 hs
 cases hp : (if a0.size ≤ 100 then parse (a0.size + 1) (gL a0) else none) with
 | none =>
  rw [hp] at hsc
  clear hp
  go_enter Tryd.func27, Tryd.ntmps27
  go_wp2_with (go_at_call 51; (with_reducible refine (hsc _).mono ?_); rintro e w1 ⟨hb, rfl⟩)
  go_ret
  exact ⟨rfl, hb⟩
 | some l =>
  rw [hp] at hsc
  have hl : l.length < 1000000 := by
   split at hp
   ·have := parse_len _ _ _ hp
    rw [gl_len] at this
    omega
   ·simp at hp
  clear hp
  have hmk : ∀ W : World, (Instr.makeSlice 60 (.int .i64 ((l.length : Int) + 1)) (.int .i64 ((l.length : Int) + 1))).run Tryd.prog W = .ok (.slice (some ⟨W.heap.size, 0, none⟩) (l.length + 1) (l.length + 1)) (W.alloc (.cells (bA noS (l.length + 1)) 4)) := fun W => by
   have := print_make_int (P := Tryd.prog) 60 4 (.bool false) 1 Tryd.underlying60 (by kernel_rfl) rfl (by decide) ((l.length + 1 : Nat) : Int) (by omega) (by simp; omega) W
   rw [bA_made] at this
   simpa using this
  go_enter Tryd.func27, Tryd.ntmps27
  go_wp2_with (first | (go_at_call 51; (with_reducible refine (hsc _).mono ?_); rintro e w1 ⟨hb1, v, rfl, hR⟩; obtain ⟨A, cp, rfl, hS⟩ := SgVal.of_map hR) | ((with_reducible refine gate_dst (N := 21) rfl ?_); refine mkb_event rfl (N := 21) ?hd (m := l.length + 1) (cs := bA noS (l.length + 1)) (t := 4) ?hr ?_; (case hd => rfl); (case hr => first | (go_simp; done) | (go_simp; rfl)); intro ga hg w9 hbox hb; have HM0 := Aside0.mk (MW.make hR hS hg hbox hb); have hz0 := (blk_cell HM0.out.blk 0).trans (bA_get _ _ 0 (by omega)); have hzf := blk_frozen HM0.out.blk 0; have hzl : ((0 : Int) < ((l.length : Int) + 1)) = True := eq_true (by omega); have HM := Aside0.mk (MW.put HM0.out (by decide) 0); clear hR hS hg hbox hb hb1 HM0) | (go_at_call 52; (with_reducible refine (empty_call l A cp _ _ _ _ hl HM.out.sg HM.out.blk).mono ?_); rintro e w3 ⟨rfl, rfl⟩; have n0_ := Aside0.mk (MW.row HM.out (by decide) (emS l (addS noS 0) l.length)); clear HM; have HM := n0_; clear n0_))
  go_loopw [7, 29] (fun v7 v29 wr => ∃ i ga : Nat, v29 = .int .i64 i ∧ v7 = .slice (some ⟨ga, 0, none⟩) (l.length + 1) (l.length + 1) ∧ i ≤ a1.size ∧ Aside0 (MW 64 4 w wr A l ga (stS l a1 i))) (fun _ v29 _ => a1.size - (intOf v29).toNat)
  case atStart => exact ⟨0, ga, by first | rfl | go_num, by first | rfl | go_num, Nat.zero_le _, HM⟩
  case round =>
   clear HM
   obtain ⟨i, ga, rfl, rfl, hi, HM⟩ := hrel
   by_cases hi2 : i < a1.size
   ·have d0 : ((i : Int) < (a1.size : Int)) = True := eq_true (by omega)
    have d1 : ∀ h : i < a1.size, ((a1[i]'h).toNat : Int) = bt a1 (i : Int) := fun h => bt_at a1 i h
    obtain ⟨cb, hcb⟩ : ∃ x : Nat, bt a1 (i : Int) = x := ⟨(bt a1 (i : Int)).toNat, by have := bt_range a1 (i : Int); omega⟩
    have hc256 : cb < 256 := by have := bt_range a1 (i : Int); omega
    rw [hcb] at d1
    go_wp2_with (first | ((with_reducible refine gate_dst (N := 35) rfl ?_); refine mkb_event rfl (N := 35) ?hd (m := l.length + 1) (cs := bA noS (l.length + 1)) (t := 4) ?hr ?_; (case hd => rfl); (case hr => first | (go_simp; done) | (go_simp; rfl)); intro gb hg w9 hbox hb; have HM2 := Aside0.mk (MW2.make HM.out hg hbox hb); clear HM hg hbox hb))
    go_loopw [38] (fun v38 wi => ∃ k : Nat, v38 = .int .i64 k ∧ k ≤ l.length ∧ Aside0 (MW2 64 4 w wi A l ga (stS l a1 i) gb (nxS l (stS l a1 i) cb k))) (fun v38 _ => l.length - (intOf v38).toNat)
    case atStart => exact ⟨0, rfl, Nat.zero_le _, HM2⟩
    case round =>
     clear HM2
     obtain ⟨k, rfl, hk, HM2⟩ := hrel
     by_cases hlt : k < l.length
     ·have e0 : ((k : Int) < (l.length : Int)) = True := eq_true (by omega)
      have e1 : ((k : Int) < ((l.length : Int) + 1)) = True := eq_true (by omega)
      have e2 : (((k : Int) + 1) < ((l.length : Int) + 1)) = True := eq_true (by omega)
      obtain ⟨t, ht⟩ : ∃ t, l[k]? = some t := ⟨_, List.getElem?_eq_getElem hlt⟩
      have hmk_ : (l.map codeSg)[k]? = some (codeSg t) := by rw [List.getElem?_map, ht]; rfl
      obtain ⟨g, hg, hh⟩ := HM2.out.sg.has k _ hmk_
      have hgd : l.getD k .one = t := by rw [List.getD_eq_getElem?_getD, ht]; rfl
      have hkd := hh 0 (.int .i64 (kindT t)) rfl
      rw [Nat.add_zero] at hkd
      have HH := Aside0.mk hh
      clear hh hmk_ ht
      have hnx : nxS l (stS l a1 i) cb (k + 1) = (if (stS l a1 i k && tkB t cb) = true then (if starT t = true then addS (nxS l (stS l a1 i) cb k) k else addS (nxS l (stS l a1 i) cb k) (k + 1)) else nxS l (stS l a1 i) cb k) := by rw [nxS, hgd]
      clear hgd
      subst hg
      have hat := (blk_cell HM2.out.blk k).trans (bA_get _ _ k (by omega))
      have hs0 := (blk_cell HM2.out.blk2 k).trans (bA_get _ _ k (by omega))
      have hs1 := (blk_cell HM2.out.blk2 (k + 1)).trans (bA_get _ _ (k + 1) (by omega))
      have hf0 := blk_frozen HM2.out.blk2 k
      have hf1 := blk_frozen HM2.out.blk2 (k + 1)
      cases hb : stS l a1 i k with
      | false =>
       have HE := Aside0.mk (show nxS l (stS l a1 i) cb (k + 1) = nxS l (stS l a1 i) cb k by rw [hnx, hb]; rfl)
       rw [hb] at hat
       clear hnx hb
       go_wp2
       go_quiet (fail)
       go_wp2
       have n0_ := Aside0.mk (MW2.step HM2.out (pw_below_drewN (Below.refl _ _) nq))
       go_roundw
       case rel => exact ⟨k + 1, by go_num, by omega, ⟨by rw [HE.out]; exact n0_.out⟩⟩
       case measure => simp [intOf]; omega
      | true =>
       rw [hb] at hat
       have htk : ∀ q, Calls Tryd.prog 53 #[.pointer (some ⟨g, k * 259, none⟩), .int .u8 cb] (wr.drewN q) fun e w'' => e = .returned (.bool (tkB t cb)) ∧ ∃ m, w'' = wr.drewN m := fun q => Calls.quiet_of ((takes_call t g (k * 259) cb hc256 _ (HH.out.drewN q)).mono fun _ _ hx => ⟨hx.1, hx.2.out⟩)
       cases htb : tkB t cb with
       | false =>
        rw [htb] at htk
        have HE := Aside0.mk (show nxS l (stS l a1 i) cb (k + 1) = nxS l (stS l a1 i) cb k by rw [hnx, hb, htb]; rfl)
        clear hnx hb htb
        go_wp2
        go_quiet ((go_at_call 53; exact htk _))
        go_wp2
        have n0_ := Aside0.mk (MW2.step HM2.out (pw_below_drewN (Below.refl _ _) nq))
        go_roundw
        case rel => exact ⟨k + 1, by go_num, by omega, ⟨by rw [HE.out]; exact n0_.out⟩⟩
        case measure => simp [intOf]; omega
       | true =>
        rw [htb] at htk
        cases hst2 : starT t with
        | true =>
         have HE := Aside0.mk (show nxS l (stS l a1 i) cb (k + 1) = addS (nxS l (stS l a1 i) cb k) k by rw [hnx, hb, htb, hst2]; rfl)
         rcases kindT_star hst2 with hkk | hkk
         all_goals
          rw [hkk] at hkd
          clear hkk hst2 hb htb hnx
          go_wp2
          go_quiet ((go_at_call 53; exact htk _))
          go_wp2
          have n0_ := Aside0.mk (MW2.step (MW2.put HM2.out k) (pw_below_drewN (Below.refl _ _) nq))
          go_roundw
          case rel => exact ⟨k + 1, by go_num, by omega, ⟨by rw [HE.out]; exact n0_.out⟩⟩
          case measure => simp [intOf]; omega
        | false =>
         have HE := Aside0.mk (show nxS l (stS l a1 i) cb (k + 1) = addS (nxS l (stS l a1 i) cb k) (k + 1) by rw [hnx, hb, htb, hst2]; rfl)
         obtain ⟨q1, q2⟩ := kindT_no hst2
         clear hst2 hb htb hnx
         go_wp2
         go_quiet ((go_at_call 53; exact htk _))
         go_wp2
         have n0_ := Aside0.mk (MW2.step (MW2.put HM2.out (k + 1)) (pw_below_drewN (Below.refl _ _) nq))
         go_roundw
         case rel => exact ⟨k + 1, by go_num, by omega, ⟨by rw [HE.out]; exact n0_.out⟩⟩
         case measure => simp [intOf]; omega
     ·obtain rfl : k = l.length := by omega
      have e0 : ((l.length : Int) < (l.length : Int)) = False := eq_false (by omega)
      have HM := Aside0.mk HM2.out.take
      clear HM2
      go_wp2_with (first | (go_at_call 52; (with_reducible refine (empty_call l A cp _ _ _ _ hl HM.out.sg HM.out.blk).mono ?_); rintro e w3 ⟨rfl, rfl⟩; have n0_ := Aside0.mk (MW.row HM.out (by decide) (emS l (nxS l (stS l a1 i) cb l.length) l.length)); clear HM; have HM := n0_; clear n0_))
      go_roundw
      case rel => exact ⟨i + 1, gb, by first | rfl | go_num, by first | rfl | go_num, by omega, ⟨by rw [stS_succ, hcb]; exact HM.out⟩⟩
      case measure => simp [intOf]; omega
   ·obtain rfl : i = a1.size := by omega
    have d0 : ((a1.size : Int) < (a1.size : Int)) = False := eq_false (by omega)
    have e1 : ((l.length : Int) < ((l.length : Int) + 1)) = True := eq_true (by omega)
    have hat := (blk_cell HM.out.blk l.length).trans (bA_get _ _ l.length (by omega))
    go_wp2
    go_ret
    exact ⟨rfl, HM.out.below⟩
end Go.Proofs.YtioehkeocddniaaDoor.PA
namespace Go.Proofs.YtioehkeocddniaaDoor.PA
open Go.RowKit Go.Proofs.YtioehkeocddniaaDoorW.PrintWords Go.Proofs.YtioehkeocddniaaDoorW.PrintLast Go.Proofs.YtioehkeocddniaaDoorW.PrintMore
attribute [local go_sem] max2_int min2_int max_two min_two max_three min_three max_four min_four
set_option linter.unusedVariables false
set_option linter.unusedSimpArgs false
def patO (s : ByteArray) : Option (List Tok) := if s.size ≤ 100 then parse (s.size + 1) (gL s) else none
def hdL : List Tok → List Int
 | .lit c :: r => c :: hdL r
 | _ => []
def litAll : List Tok → Bool
 | [] => true
 | .lit _ :: r => litAll r
 | _ => false
structure HRow (T U : Nat) (w0 wr : World) (A : Option Addr) (L : List Sg) (v : Value) (out : List Int) : Prop where
 below : Below w0.heap.size w0 wr
 sg : SgVal T wr A L
 row_ : (Kd.int .u8).R U wr w0.heap.size (fun k => w0.heap.size ≤ k) v out
theorem HRow.start {T U : Nat} {w0 wr : World} {A : Option Addr} {L : List Sg} {v : Value} (h : SgRow T w0 wr v L) (hS : SgVal T wr A L) : HRow T U w0 wr A L (.slice none 0 0) [] := ⟨h.1, hS, Kd.R_nil _ _ _ _ _⟩
theorem HRow.cell {T U : Nat} {w0 wr : World} {A : Option Addr} {v : Value} {out : List Int} {l : List Tok} {f : Tok → Sg} {k : Nat} {t : Tok} (h : HRow T U w0 wr A (l.map f) v out) (hk : l[k]? = some t) : ∃ g, A = some ⟨g, 0, none⟩ ∧ wr.cell? ⟨g, k * 259, none⟩ = some (.int .i64 (f t).k) ∧ wr.cell? ⟨g, k * 259 + 1, none⟩ = some (.int .u8 (f t).c) := by
 obtain ⟨g, hg, hh⟩ := h.sg.has k (f t) (by rw [List.getElem?_map, hk]; rfl)
 have h0 := hh 0 (.int .i64 (f t).k) rfl
 rw [Nat.add_zero] at h0
 exact ⟨g, hg, h0, hh 1 (.int .u8 (f t).c) rfl⟩
def HInv (l : List Tok) (k : Nat) (out : List Int) : Prop := k ≤ l.length ∧ out.length ≤ k ∧ hdL l = out ++ hdL (l.drop k) ∧ litAll l = litAll (l.drop k)
theorem HInv.start (l : List Tok) : HInv l 0 [] := ⟨Nat.zero_le _, Nat.le_refl _, rfl, rfl⟩
theorem drop_at {l : List Tok} {k : Nat} {t : Tok} (h : l[k]? = some t) : l.drop k = t :: l.drop (k + 1) := by
 obtain ⟨hl, hg⟩ := List.getElem?_eq_some_iff.1 h
 rw [List.drop_eq_getElem_cons hl, hg]
theorem HInv.next {l : List Tok} {k : Nat} {out : List Int} {c : Int} (h : HInv l k out) (hk : l[k]? = some (.lit c)) : HInv l (k + 1) (out ++ [c]) := by
 obtain ⟨h1, h2, h3, h4⟩ := h
 rw [drop_at hk] at h3 h4
 have := (List.getElem?_eq_some_iff.1 hk).1
 exact ⟨this, by simp; omega, by rw [h3]; simp [hdL], by rw [h4]; rfl⟩
theorem HInv.done {l : List Tok} {out : List Int} (h : HInv l l.length out) : hdL l = out ∧ litAll l = true := by
 obtain ⟨h1, h2, h3, h4⟩ := h
 rw [List.drop_length] at h3 h4
 exact ⟨by rw [h3]; simp [hdL], by rw [h4]; rfl⟩
theorem HInv.stop {l : List Tok} {k : Nat} {out : List Int} {t : Tok} (h : HInv l k out) (hk : l[k]? = some t) (ht : ∀ c, t ≠ .lit c) : hdL l = out ∧ litAll l = false := by
 obtain ⟨h1, h2, h3, h4⟩ := h
 rw [drop_at hk] at h3 h4
 cases t with
 | lit c => exact absurd rfl (ht c)
 | star2 => exact ⟨by rw [h3]; simp [hdL], by rw [h4]; rfl⟩
 | star => exact ⟨by rw [h3]; simp [hdL], by rw [h4]; rfl⟩
 | one => exact ⟨by rw [h3]; simp [hdL], by rw [h4]; rfl⟩
 | cls n s => exact ⟨by rw [h3]; simp [hdL], by rw [h4]; rfl⟩
end Go.Proofs.YtioehkeocddniaaDoor.PA
namespace Go.Proofs.YtioehkeocddniaaDoor.PA
open Go.RowKit Go.Proofs.YtioehkeocddniaaDoorW.PrintWords Go.Proofs.YtioehkeocddniaaDoorW.PrintLast Go.Proofs.YtioehkeocddniaaDoorW.PrintMore
attribute [local go_sem] max2_int min2_int max_two min_two max_three min_three max_four min_four
set_option linter.unusedVariables false
set_option linter.unusedSimpArgs false
theorem setb_eq (H : Nat → Bool) (n k : Nat) (b : Bool) : (bA H n).setIfInBounds k (.bool b) = bA (fun j => if j = k then b else H j) n := by
 apply Array.ext_getElem?
 intro i
 rw [Array.getElem?_setIfInBounds, bA_len]
 by_cases hn : i < n
 ·rw [bA_get _ _ _ hn, bA_get _ _ _ hn]
  by_cases hi : k = i
  ·subst hi
   rw [if_pos rfl, if_pos hn, if_pos rfl]
  ·rw [if_neg hi, if_neg (fun h => hi h.symm)]
 ·rw [Array.getElem?_eq_none (xs := bA (fun j => if j = k then b else H j) n) (by rw [bA_len]; omega)]
  by_cases hi : k = i
  ·subst hi
   rw [if_pos rfl, if_neg hn]
  ·rw [if_neg hi, Array.getElem?_eq_none (by rw [bA_len]; omega)]
def prtB (G : Nat → Bool) (k : Nat) : Nat → Bool := fun j => decide (j < k) && G j
section
variable {t : Tok} (s : ByteArray) (F : Nat → Bool)
end
structure RM1 (T BO : Nat) (w wr : World) (A : Option Addr) (l : List Tok) (ga : Nat) (F : Nat → Bool) (n : Nat) : Prop where
 below : Below w.heap.size w wr
 sg : SgVal T wr A (l.map refSg)
 blk : wr.heap[ga]? = some (.cells (bA F (n + 1)) BO (0, 0))
 lo : w.heap.size ≤ ga
structure RM (T BO : Nat) (w wr : World) (A : Option Addr) (l : List Tok) (ga : Nat) (F : Nat → Bool) (gb : Nat) (G : Nat → Bool) (n : Nat) : Prop extends RM1 T BO w wr A l ga F n where
 blk2 : wr.heap[gb]? = some (.cells (bA G (n + 1)) BO (0, 0))
 lo2 : ga < gb
 ne : T ≠ BO
section
variable {T BO : Nat} {w wr w2 : World} {A : Option Addr} {l : List Tok} {ga gb n : Nat} {F G : Nat → Bool}
theorem RM1.step (h : RM1 T BO w wr A l ga F n) (hb : Below wr.heap.size wr w2) : RM1 T BO w w2 A l ga F n := ⟨below_step h.below hb, h.sg.step hb, blk_below h.blk hb, h.lo⟩
theorem RM1.put (h : RM1 T BO w wr A l ga F n) (hne : T ≠ BO) (i : Nat) : RM1 T BO w (wr.setCell ⟨ga, i, none⟩ (.bool true)) A l ga (addS F i) n := by
 rw [setRow_cell h.blk, bA_set]
 exact ⟨below_setRow h.below h.lo _, h.sg.row h.blk hne _, setRow_heap _ _ _ _ _ _ h.blk, h.lo⟩
theorem RM1.make (h : RM1 76 4 w wr A l ga F n) {w9 : World} (hg : gb = wr.heap.size) (hbox : w9.heap[gb]? = some (.cells (bA noS (n + 1)) 4 (0, 0))) (hb : Below wr.heap.size wr w9) : RM 76 4 w w9 A l ga F gb noS n :=
 ⟨h.step hb, hbox, by rw [hg]; exact blk_lt h.blk, by decide⟩
theorem RM.step (h : RM T BO w wr A l ga F gb G n) (hb : Below wr.heap.size wr w2) : RM T BO w w2 A l ga F gb G n := ⟨h.toRM1.step hb, blk_below h.blk2 hb, h.lo2, h.ne⟩
theorem RM.put (h : RM T BO w wr A l ga F gb G n) (k : Nat) (b : Bool) : RM T BO w (wr.setCell ⟨gb, k, none⟩ (.bool b)) A l ga F gb (fun j => if j = k then b else G j) n := by
 rw [setRow_cell h.blk2, setb_eq]
 exact ⟨⟨below_setRow h.below (Nat.le_trans h.lo (Nat.le_of_lt h.lo2)) _, h.sg.row h.blk2 h.ne _, (setRow_other _ _ _ _ (Nat.ne_of_lt h.lo2)).trans h.blk, h.lo⟩, setRow_heap _ _ _ _ _ _ h.blk2, h.lo2, h.ne⟩
theorem RM.take (h : RM T BO w wr A l ga F gb (prtB G (n + 1)) n) : RM1 T BO w wr A l gb G n := by
 refine ⟨h.below, h.sg, ?_, Nat.le_trans h.lo (Nat.le_of_lt h.lo2)⟩
 have e : bA (prtB G (n + 1)) (n + 1) = bA G (n + 1) := by
  unfold bA
  congr 1
  apply List.map_congr_left
  intro i hi
  have : i < n + 1 := List.mem_range.1 hi
  simp [prtB, this]
 rw [← e]
 exact h.blk2
theorem RM.at_ (h : RM T BO w wr A l ga F gb G n) {k : Nat} {b : Bool} (hk : k < n + 1) (hF : F k = b) : wr.cell? ⟨ga, k, none⟩ = some (.bool b) := by
 rw [← hF]
 exact (blk_cell h.blk k).trans (bA_get _ _ k hk)
theorem RM.range {g i : Nat} {t : Tok} (h : RM T BO w wr (some ⟨g, 0, none⟩) l ga F gb G n) (ht : l[i]? = some t) : wr.rangeAt g (i * 259) (sgL (refSg t)) := by
 obtain ⟨g', e, hh⟩ := h.sg.has i (refSg t) (by rw [List.getElem?_map, ht]; rfl)
 cases e
 exact hh
end
end Go.Proofs.YtioehkeocddniaaDoor.PA
namespace Go.Proofs.YtioehkeocddniaaDoor.PA
open Go.RowKit Go.Proofs.YtioehkeocddniaaDoorW.PrintWords Go.Proofs.YtioehkeocddniaaDoorW.PrintLast Go.Proofs.YtioehkeocddniaaDoorW.PrintMore
attribute [local go_sem] max2_int min2_int max_two min_two max_three min_three max_four min_four
set_option linter.unusedVariables false
set_option linter.unusedSimpArgs false
def starM (f : List Int → Bool) (t : Tok) : List Int → Bool
 | [] => f []
 | c :: s => f (c :: s) || (tkB t c && starM f t s)
def mL : List Tok → List Int → Bool
 | [], s => s.isEmpty
 | t :: ts, s => if starT t = true then starM (mL ts) t s else (match s with | [] => false | c :: s' => tkB t c && mL ts s')
def tokM (t : Tok) (p : List Int) : Prop := if starT t = true then ∀ c ∈ p, tkB t c = true else ∃ c, p = [c] ∧ tkB t c = true
def Mp : List Tok → List Int → Prop
 | [], s => s = []
 | t :: ts, s => ∃ p q, s = p ++ q ∧ tokM t p ∧ Mp ts q
theorem tokM_star {t : Tok} (h : starT t = true) (p : List Int) : tokM t p ↔ ∀ c ∈ p, tkB t c = true := by rw [tokM, if_pos h]
theorem tokM_no {t : Tok} (h : starT t = false) (p : List Int) : tokM t p ↔ ∃ c, p = [c] ∧ tkB t c = true := by rw [tokM, if_neg (by rw [h]; decide)]
theorem starM_iff (f : List Int → Bool) (t : Tok) : ∀ s, starM f t s = true ↔ ∃ p q, s = p ++ q ∧ (∀ c ∈ p, tkB t c = true) ∧ f q = true
 | [] => by
  constructor
  ·intro h
   exact ⟨[], [], rfl, by simp, h⟩
  ·rintro ⟨p, q, h, _, hq⟩
   obtain ⟨rfl, rfl⟩ := List.append_eq_nil_iff.1 h.symm
   exact hq
 | c :: s => by
  unfold starM
  rw [Bool.or_eq_true, Bool.and_eq_true, starM_iff f t s]
  constructor
  ·rintro (h | ⟨h1, p, q, rfl, hp, hq⟩)
   ·exact ⟨[], c :: s, rfl, by simp, h⟩
   ·refine ⟨c :: p, q, rfl, ?_, hq⟩
    intro x hx
    rcases List.mem_cons.1 hx with rfl | hx
    ·exact h1
    ·exact hp x hx
  ·rintro ⟨p, q, h, hp, hq⟩
   cases p with
   | nil =>
    left
    rw [h]
    exact hq
   | cons a p =>
    right
    obtain ⟨rfl, rfl⟩ := List.cons.inj h
    exact ⟨hp _ (List.mem_cons_self), p, q, rfl, fun x hx => hp x (List.mem_cons_of_mem _ hx), hq⟩
theorem mL_iff : ∀ (l : List Tok) (s : List Int), mL l s = true ↔ Mp l s
 | [], s => by
  show s.isEmpty = true ↔ s = []
  exact List.isEmpty_iff
 | t :: ts, s => by
  unfold mL Mp
  cases hst : starT t with
  | true =>
   rw [if_pos rfl, starM_iff]
   constructor
   ·rintro ⟨p, q, h, hp, hq⟩
    exact ⟨p, q, h, (tokM_star hst p).2 hp, (mL_iff ts q).1 hq⟩
   ·rintro ⟨p, q, h, hp, hq⟩
    exact ⟨p, q, h, (tokM_star hst p).1 hp, (mL_iff ts q).2 hq⟩
  | false =>
   rw [if_neg (by decide)]
   constructor
   ·intro h
    cases s with
    | nil => simp at h
    | cons c s' =>
     rw [Bool.and_eq_true] at h
     exact ⟨[c], s', rfl, (tokM_no hst _).2 ⟨c, rfl, h.1⟩, (mL_iff ts s').1 h.2⟩
   ·rintro ⟨p, q, h, hp, hq⟩
    obtain ⟨c, rfl, hc⟩ := (tokM_no hst _).1 hp
    subst h
    show (tkB t c && mL ts q) = true
    rw [hc, (mL_iff ts q).2 hq]
    rfl
theorem Mp_append : ∀ (a b : List Tok) (s : List Int), Mp (a ++ b) s ↔ ∃ p q, s = p ++ q ∧ Mp a p ∧ Mp b q
 | [], b, s => by
  constructor
  ·intro h
   exact ⟨[], s, rfl, rfl, h⟩
  ·rintro ⟨p, q, rfl, hp, hq⟩
   have hp : p = [] := hp
   subst hp
   exact hq
 | t :: a, b, s => by
  show (∃ p q, s = p ++ q ∧ tokM t p ∧ Mp (a ++ b) q) ↔ _
  constructor
  ·rintro ⟨p, q, rfl, hp, hq⟩
   obtain ⟨x, y, rfl, hx, hy⟩ := (Mp_append a b q).1 hq
   exact ⟨p ++ x, y, by rw [List.append_assoc], ⟨p, x, rfl, hp, hx⟩, hy⟩
  ·rintro ⟨p, q, rfl, ⟨x, y, rfl, hx, hy⟩, hq⟩
   exact ⟨x, y ++ q, by rw [List.append_assoc], hx, (Mp_append a b _).2 ⟨y, q, rfl, hy, hq⟩⟩
theorem Mp_one (t : Tok) (s : List Int) : Mp [t] s ↔ tokM t s := by
 constructor
 ·rintro ⟨p, q, rfl, hp, hq⟩
  have hq : q = [] := hq
  subst hq
  rw [List.append_nil]
  exact hp
 ·intro h
  exact ⟨s, [], (List.append_nil s).symm, h, rfl⟩
theorem bool_iff {a b : Bool} (h : a = true ↔ b = true) : a = b := Bool.eq_iff_iff.2 h
theorem mL_nil_snoc (l : List Tok) (t : Tok) : mL (l ++ [t]) [] = (starT t && mL l []) := by
 apply bool_iff
 rw [Bool.and_eq_true, mL_iff, mL_iff, Mp_append]
 constructor
 ·rintro ⟨p, q, h, hp, hq⟩
  obtain ⟨rfl, rfl⟩ := List.append_eq_nil_iff.1 h.symm
  rw [Mp_one] at hq
  cases hst : starT t with
  | true => exact ⟨rfl, hp⟩
  | false =>
   obtain ⟨c, hc, _⟩ := (tokM_no hst _).1 hq
   simp at hc
 ·rintro ⟨hst, hp⟩
  exact ⟨[], [], rfl, hp, (Mp_one _ _).2 ((tokM_star hst _).2 (by simp))⟩
theorem mL_star_snoc (l : List Tok) (t : Tok) (s : List Int) (c : Int) (hst : starT t = true) : mL (l ++ [t]) (s ++ [c]) = (mL l (s ++ [c]) || (mL (l ++ [t]) s && tkB t c)) := by
 apply bool_iff
 rw [Bool.or_eq_true, Bool.and_eq_true, mL_iff, mL_iff, mL_iff, Mp_append, Mp_append]
 constructor
 ·rintro ⟨p, q, h, hp, hq⟩
  rw [Mp_one, tokM_star hst] at hq
  rcases List.eq_nil_or_concat q with rfl | ⟨q', d, rfl⟩
  ·left
   rw [List.append_nil] at h
   rw [h]
   exact hp
  ·right
   rw [List.concat_eq_append] at h hq
   rw [← List.append_assoc] at h
   obtain ⟨h1, h2⟩ := List.append_inj' h rfl
   have h2 : c = d := by simpa using h2
   subst h2
   exact ⟨⟨p, q', h1, hp, (Mp_one _ _).2 ((tokM_star hst _).2 (fun x hx => hq x (by simp [hx])))⟩, hq c (by simp)⟩
 ·rintro (h | ⟨⟨p, q, rfl, hp, hq⟩, hc⟩)
  ·exact ⟨s ++ [c], [], (List.append_nil _).symm, h, (Mp_one _ _).2 ((tokM_star hst _).2 (by simp))⟩
  ·rw [Mp_one, tokM_star hst] at hq
   refine ⟨p, q ++ [c], by rw [List.append_assoc], hp, (Mp_one _ _).2 ((tokM_star hst _).2 (fun x hx => ?_))⟩
   rcases List.mem_append.1 hx with hx | hx
   ·exact hq x hx
   ·rw [List.mem_singleton.1 hx]
    exact hc
theorem mL_no_snoc (l : List Tok) (t : Tok) (s : List Int) (c : Int) (hst : starT t = false) : mL (l ++ [t]) (s ++ [c]) = (mL l s && tkB t c) := by
 apply bool_iff
 rw [Bool.and_eq_true, mL_iff, mL_iff, Mp_append]
 constructor
 ·rintro ⟨p, q, h, hp, hq⟩
  rw [Mp_one, tokM_no hst] at hq
  obtain ⟨d, rfl, hd⟩ := hq
  obtain ⟨h1, h2⟩ := List.append_inj' h rfl
  have h2 : c = d := by simpa using h2
  subst h2
  rw [h1]
  exact ⟨hp, hd⟩
 ·rintro ⟨hp, hc⟩
  exact ⟨s, [c], rfl, hp, (Mp_one _ _).2 ((tokM_no hst _).2 ⟨c, rfl, hc⟩)⟩
theorem mL_nil_cons (c : Int) (s : List Int) : mL [] (s ++ [c]) = false := by
 show (s ++ [c]).isEmpty = false
 simp
def DD (l : List Tok) (s : ByteArray) (i k : Nat) : Bool := mL (l.take k) ((gL s).take i)
theorem take_tok {l : List Tok} {k : Nat} (h : k < l.length) : l.take (k + 1) = l.take k ++ [l.getD k .one] := by
 rw [List.take_succ_eq_append_getElem h, List.getD_eq_getElem?_getD, List.getElem?_eq_getElem h]
 rfl
section
variable (l : List Tok) (s : ByteArray)
theorem DD_n0 (i : Nat) (h : i < s.size) : DD l s (i + 1) 0 = false := by
 unfold DD
 rw [take_next s i h]
 exact mL_nil_cons _ _
theorem DD_0n (k : Nat) (h : k < l.length) : DD l s 0 (k + 1) = (starT (l.getD k .one) && DD l s 0 k) := by
 unfold DD
 rw [take_tok h]
 exact mL_nil_snoc _ _
theorem DD_star (i k : Nat) (hi : i < s.size) (h : k < l.length) (hst : starT (l.getD k .one) = true) : DD l s (i + 1) (k + 1) = (DD l s (i + 1) k || (DD l s i (k + 1) && tkB (l.getD k .one) (bt s (i : Int)))) := by
 unfold DD
 rw [take_tok h, take_next s i hi]
 exact mL_star_snoc _ _ _ _ hst
theorem DD_no (i k : Nat) (hi : i < s.size) (h : k < l.length) (hst : starT (l.getD k .one) = false) : DD l s (i + 1) (k + 1) = (DD l s i k && tkB (l.getD k .one) (bt s (i : Int))) := by
 unfold DD
 rw [take_tok h, take_next s i hi]
 exact mL_no_snoc _ _ _ _ hst
theorem DD_all : DD l s s.size l.length = mL l (gL s) := by
 unfold DD
 rw [List.take_length, List.take_of_length_le (by rw [gl_len]; exact Nat.le_refl _)]
def finR (f : Nat → Bool) : Nat → Bool
 | 0 => f 0
 | j + 1 => f (j + 1) || (finR f j && starT (l.getD j .one))
theorem emS_val (f : Nat → Bool) : ∀ k j, emS l f k j = if j ≤ k then finR l f j else f j
 | 0, j => by
  rw [emS]
  by_cases h : j ≤ 0
  ·obtain rfl : j = 0 := by omega
   rfl
  ·rw [if_neg h]
 | k + 1, j => by
  have ih := emS_val f k
  have hk := ih k
  rw [if_pos (Nat.le_refl _)] at hk
  rw [emS, hk]
  cases hc : (finR l f k && starT (l.getD k .one)) with
  | true =>
   rw [if_pos rfl]
   by_cases hj : j = k + 1
   ·subst hj
    rw [if_pos (Nat.le_refl _), finR, hc]
    simp [addS]
   ·have e : (j == k + 1) = false := beq_eq_false_iff_ne.2 hj
    rw [addS, e, Bool.false_or, ih j]
    by_cases h2 : j ≤ k
    ·rw [if_pos h2, if_pos (by omega)]
    ·rw [if_neg h2, if_neg (by omega)]
  | false =>
   rw [if_neg (by decide), ih j]
   by_cases hj : j = k + 1
   ·subst hj
    rw [if_neg (by omega), if_pos (Nat.le_refl _), finR, hc, Bool.or_false]
   ·by_cases h2 : j ≤ k
    ·rw [if_pos h2, if_pos (by omega)]
    ·rw [if_neg h2, if_neg (by omega)]
def nxV (f : Nat → Bool) (c : Int) (k j : Nat) : Bool := (decide (j < k) && (f j && tkB (l.getD j .one) c && starT (l.getD j .one))) || (match j with | 0 => false | m + 1 => decide (m < k) && (f m && tkB (l.getD m .one) c && !starT (l.getD m .one)))
theorem nxS_val (f : Nat → Bool) (c : Int) : ∀ k j, nxS l f c k j = nxV l f c k j
 | 0, j => by
  cases j with
  | zero => rfl
  | succ m => simp [nxS, nxV, noS]
 | k + 1, j => by
  have ih := nxS_val f c k
  have d1 : ∀ j, decide (j < k + 1) = (decide (j < k) || (j == k)) := fun j => by
   rw [Bool.eq_iff_iff, Bool.or_eq_true, decide_eq_true_iff, decide_eq_true_iff, beq_iff_eq]
   omega
  have key : nxV l f c (k + 1) j = (nxV l f c k j || (((j == k) && (f k && tkB (l.getD k .one) c && starT (l.getD k .one))) || ((j == k + 1) && (f k && tkB (l.getD k .one) c && !starT (l.getD k .one))))) := by
   unfold nxV
   rw [d1 j]
   have h1 : ((decide (j < k) || (j == k)) && (f j && tkB (l.getD j .one) c && starT (l.getD j .one))) = ((decide (j < k) && (f j && tkB (l.getD j .one) c && starT (l.getD j .one))) || ((j == k) && (f k && tkB (l.getD k .one) c && starT (l.getD k .one)))) := by
    by_cases hj : j = k
    ·subst hj
     simp
    ·have : (j == k) = false := beq_eq_false_iff_ne.2 hj
     rw [this]
     simp
   rw [h1]
   cases j with
   | zero => simp
   | succ m =>
    dsimp only
    rw [d1 m]
    have h2 : ((decide (m < k) || (m == k)) && (f m && tkB (l.getD m .one) c && !starT (l.getD m .one))) = ((decide (m < k) && (f m && tkB (l.getD m .one) c && !starT (l.getD m .one))) || ((m == k) && (f k && tkB (l.getD k .one) c && !starT (l.getD k .one)))) := by
     by_cases hj : m = k
     ·subst hj
      simp
     ·have : (m == k) = false := beq_eq_false_iff_ne.2 hj
      rw [this]
      simp
    rw [h2, show (m + 1 == k + 1) = (m == k) from by rw [Bool.eq_iff_iff, beq_iff_eq, beq_iff_eq]; omega]
    generalize (decide (m + 1 < k) && _) = a1
    generalize ((m + 1 == k) && _) = a2
    generalize (decide (m < k) && _) = a3
    generalize ((m == k) && _) = a4
    cases a1 <;> cases a2 <;> cases a3 <;> cases a4 <;> rfl
  rw [key, nxS]
  cases hc : (f k && tkB (l.getD k .one) c) with
  | true =>
   rw [if_pos rfl]
   cases hst : starT (l.getD k .one) with
   | true =>
    rw [if_pos rfl, addS, ih j]
    cases (j == k) <;> cases nxV l f c k j <;> simp
   | false =>
    rw [if_neg (by decide), addS, ih j]
    cases (j == k + 1) <;> cases nxV l f c k j <;> simp
  | false =>
   rw [if_neg (by decide), ih j]
   simp
def QQ (i k : Nat) : Bool := if starT (l.getD k .one) = true then DD l s i (k + 1) else DD l s i k
theorem getD_out {k : Nat} (h : ¬ k < l.length) : starT (l.getD k .one) = false := by
 rw [List.getD_eq_getElem?_getD, List.getElem?_eq_none (by omega)]
 rfl
theorem lt_star {k : Nat} (h : starT (l.getD k .one) = true) : k < l.length := Classical.not_not.1 (fun hn => by rw [getD_out l hn] at h; cases h)
theorem fin0 : ∀ j, j ≤ l.length → finR l (addS noS 0) j = QQ l s 0 j
 | 0, _ => by
  unfold QQ
  cases hst : starT (l.getD 0 .one) with
  | true => rw [if_pos rfl, DD_0n l s 0 (lt_star l hst), hst]; rfl
  | false => rfl
 | j + 1, hj => by
  have ih := fin0 j (by omega)
  have e : finR l (addS noS 0) (j + 1) = DD l s 0 (j + 1) := by
   rw [finR, ih, DD_0n l s j (by omega)]
   unfold QQ
   cases hst : starT (l.getD j .one) with
   | true =>
    rw [if_pos rfl, DD_0n l s j (by omega), hst]
    simp [addS, noS]
   | false => simp [addS, noS]
  rw [e]
  unfold QQ
  cases hst : starT (l.getD (j + 1) .one) with
  | true => rw [if_pos rfl, DD_0n l s (j + 1) (lt_star l hst), hst]; rfl
  | false => rfl
theorem finN (i : Nat) (hi : i < s.size) (f : Nat → Bool) (hf : ∀ j, j ≤ l.length → f j = QQ l s i j) : ∀ j, j ≤ l.length → finR l (nxS l f (bt s (i : Int)) l.length) j = QQ l s (i + 1) j := by
 have key : ∀ j, j ≤ l.length → ∀ M : Bool, M = DD l s (i + 1) j → ((decide (j < l.length) && (f j && tkB (l.getD j .one) (bt s (i : Int)) && starT (l.getD j .one))) || M) = QQ l s (i + 1) j := by
  intro j hj M hM
  subst hM
  rw [hf j hj]
  unfold QQ
  cases hst : starT (l.getD j .one) with
  | true =>
   have hlt := lt_star l hst
   rw [if_pos rfl, if_pos rfl, DD_star l s i j hi hlt hst, decide_eq_true hlt]
   generalize DD l s i (j + 1) = x
   generalize DD l s (i + 1) j = y
   generalize tkB (l.getD j .one) (bt s (i : Int)) = z
   cases x <;> cases y <;> cases z <;> rfl
  | false => simp
 intro j
 induction j with
 | zero =>
  intro hj
  rw [finR, nxS_val]
  exact key 0 hj false (DD_n0 l s i hi).symm
 | succ j ih =>
  intro hj
  have ih := ih (by omega)
  rw [finR, ih, nxS_val]
  have e : (nxV l f (bt s (i : Int)) l.length (j + 1) || (QQ l s (i + 1) j && starT (l.getD j .one))) = ((decide (j + 1 < l.length) && (f (j + 1) && tkB (l.getD (j + 1) .one) (bt s (i : Int)) && starT (l.getD (j + 1) .one))) || ((decide (j < l.length) && (f j && tkB (l.getD j .one) (bt s (i : Int)) && !starT (l.getD j .one))) || (QQ l s (i + 1) j && starT (l.getD j .one)))) := by
   unfold nxV
   exact Bool.or_assoc _ _ _
  rw [e]
  refine key (j + 1) hj _ ?_
  rw [hf j (by omega), decide_eq_true (show j < l.length by omega)]
  unfold QQ
  cases hst : starT (l.getD j .one) with
  | true => simp
  | false =>
   rw [DD_no l s i j hi (by omega) hst]
   simp
theorem stS_QQ : ∀ i, i ≤ s.size → ∀ j, j ≤ l.length → stS l s i j = QQ l s i j
 | 0, _, j, hj => by rw [stS, emS_val, if_pos hj, fin0 l s j hj]
 | i + 1, hi, j, hj => by rw [stS, emS_val, if_pos hj, finN l s i (by omega) _ (stS_QQ i (by omega)) j hj]
theorem stS_mL : stS l s s.size l.length = mL l (gL s) := by
 rw [stS_QQ l s _ (Nat.le_refl _) _ (Nat.le_refl _), QQ, getD_out l (Nat.lt_irrefl _), if_neg (by decide), DD_all]
end
def mO (o : Option (List Tok)) (s : ByteArray) : Bool :=
 match o with
 | none => false
 | some l => mL l (gL s)
end Go.Proofs.YtioehkeocddniaaDoor.PA
namespace Go.Proofs.YtioehkeocddniaaDoor.PA
open Go.RowKit Go.Proofs.YtioehkeocddniaaDoorW.PrintWords Go.Proofs.YtioehkeocddniaaDoorW.PrintLast Go.Proofs.YtioehkeocddniaaDoorW.PrintMore
attribute [local go_sem] max2_int min2_int max_two min_two max_three min_three max_four min_four
set_option linter.unusedVariables false
set_option linter.unusedSimpArgs false
def glob_Match.f (a0 a1 : ByteArray) : Option Bool := if a0.size < 1000000 ∧ a1.size < 1000000 then some (mO (patO a0) a1) else none
theorem glob_Match.calls (a0 a1 : ByteArray) (r : Bool) (w : World) (h : glob_Match.f a0 a1 = some r) : Calls Tryd.prog 27 #[.string a0, .string a1] w fun e w' => e = .returned (.bool r) ∧ Below w.heap.size w w' := by
 unfold glob_Match.f at h
 split at h
 ·rename_i hs
  obtain rfl := Option.some.inj h
  refine (match_call a0 a1 hs.1 hs.2 w).mono ?_
  rintro e w' ⟨rfl, hb⟩
  refine ⟨?_, hb⟩
  unfold mO patO
  cases (if a0.size ≤ 100 then parse (a0.size + 1) (gL a0) else none) with
  | none => rfl
  | some l =>
   dsimp only
   rw [stS_mL]
 ·cases h
end Go.Proofs.YtioehkeocddniaaDoor.PA
