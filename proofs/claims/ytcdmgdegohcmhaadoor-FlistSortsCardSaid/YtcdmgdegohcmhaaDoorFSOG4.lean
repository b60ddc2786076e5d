/- Own texts and the print's words: PAfflistBytes to PAfremoraref20Small. -/
import Derived.Test.YtcdmgdegohcmhaaDoorFSOG1
import Derived.Test.YtcdmgdegohcmhaaDoorFSOG3
namespace Go.Proofs.YtcdmgdegohcmhaaDoor.PA
open Go.RowKit Go.Proofs.YtcdmgdegohcmhaaDoorW.PrintWords Go.Proofs.YtcdmgdegohcmhaaDoorW.PrintLast Go.Proofs.YtcdmgdegohcmhaaDoorW.PrintMore
attribute [local go_sem] max2_int min2_int max_two min_two max_three min_three max_four min_four   -- for this text's walks alone
set_option linter.unusedVariables false
set_option linter.unusedSimpArgs false
mutual
def flist_Bytes.l0 : Nat → List Int → ByteArray → List (S35) → Int → Int → Option (List Int × Int)
 | 0, _, _, _, _, _ => none
 | k + 1, x5, x6, x21, x22, x23 => if x23 < x22 then (if 0 ≤ x23 then (if x23 < (x21.length : Int) then ((flist_like.f ((rd_T35 x21 x23).f0) x6).bind fun t110 => (if ((rd_T35 x21 x23).f5).toList = ([] : List UInt8) then (flist_Bytes.j1 k x5 ((rd_T35 x21 x23).f0) t110 ((rd_T35 x21 x23).f1) x21 x22 x23 ((rd_T35 x21 x23).f0) ((rd_T35 x21 x23).f1) ((rd_T35 x21 x23).f2) ((rd_T35 x21 x23).f3.f0) ((rd_T35 x21 x23).f3.f1) ((rd_T35 x21 x23).f3.f2) ((rd_T35 x21 x23).f3.f3) ((rd_T35 x21 x23).f3.f4) ((rd_T35 x21 x23).f4) ((rd_T35 x21 x23).f5) ((rd_T35 x21 x23).f6)) else (flist_Bytes.j1 k x5 ((rd_T35 x21 x23).f0) t110 (wrap64 (((rd_T35 x21 x23).f1) + 4)) x21 x22 x23 ((rd_T35 x21 x23).f0) ((rd_T35 x21 x23).f1) ((rd_T35 x21 x23).f2) ((rd_T35 x21 x23).f3.f0) ((rd_T35 x21 x23).f3.f1) ((rd_T35 x21 x23).f3.f2) ((rd_T35 x21 x23).f3.f3) ((rd_T35 x21 x23).f3.f4) ((rd_T35 x21 x23).f4) ((rd_T35 x21 x23).f5) ((rd_T35 x21 x23).f6)))) else (none)) else (none)) else ((crc_Seal.f x5).bind fun t105 => (some (t105, 0)))
def flist_Bytes.j1 : Nat → List Int → ByteArray → Int → Int → List (S35) → Int → Int → ByteArray → Int → Int → Int → Int → Int → Int → Int → ByteArray → ByteArray → Int → Option (List Int × Int)
 | 0, _, _, _, _, _, _, _, _, _, _, _, _, _, _, _, _, _, _ => none
 | k + 1, x5, x6, x9, x10, x21, x22, x23, x110000, x110001, x110002, x110003, x110004, x110005, x110006, x110007, x110008, x110009, x110010 => (num_Put.f x5 x9).bind fun t111 => (if 0 ≤ x9 then (if x9 ≤ (x110000.size : Int) then ((num_PutText.f t111 (x110000.extract (x9 : Int).toNat x110000.size)).bind fun t114 => ((num_Put.f t114 x10).bind fun t117 => ((num_Put.f t117 x110002).bind fun t120 => ((meta_Bytes.f x110003 x110004 x110005 x110006 x110007).bind fun bt123 => (if t120.length + bt123.1.length < 140737488355328 then ((some (t120 ++ bt123.1 : List Int)).bind fun y127 => (if x110001 = 3 then ((num_PutText.f y127 x110008).bind fun t130 => (if t130.length + x110009.size < 140737488355328 then ((some (t130 ++ bytesOf x110009 : List Int)).bind fun y133 => (if x110001 = 1 then ((num_Put.f y133 x110010).bind fun t136 => (flist_Bytes.l0 k t136 x6 x21 x22 (wrap64 (x23 + 1)))) else (flist_Bytes.l0 k y133 x6 x21 x22 (wrap64 (x23 + 1))))) else (none))) else (if y127.length + x110009.size < 140737488355328 then ((some (y127 ++ bytesOf x110009 : List Int)).bind fun y139 => (if x110001 = 1 then ((num_Put.f y139 x110010).bind fun t142 => (flist_Bytes.l0 k t142 x6 x21 x22 (wrap64 (x23 + 1)))) else (flist_Bytes.l0 k y139 x6 x21 x22 (wrap64 (x23 + 1))))) else (none)))) else (none)))))) else (none)) else (none))
end
def flist_Bytes.f (k : Nat) (l0 : List (S35)) : Option (List Int × Int) := (flist_Check.f l0).bind fun t101 => (if t101 = 0 then ((num_Put.f ([] : List Int) (l0.length : Int)).bind fun t102 => (flist_Bytes.l0 k t102 (⟨#[]⟩ : ByteArray) l0 (l0.length : Int) 0)) else (some (([] : List Int), t101)))
def flist_Bytes.T14 : Bool × List (List Nat × List Nat) := (true, [([], []), ([], []), ([0, 1], [0, 1]), ([], []), ([3], [3]), ([], []), ([4, 5], [4, 5]), ([2, 6, 2], [2, 6]), ([], []), ([7, 8, 7], [7, 8]), ([], []), ([10], [10]), ([9, 11, 9], [9, 11]), ([12, 12, 0, 1, 2, 3, 4, 5, 6, 7, 8, 9, 10, 11, 12], [0, 12])])
def flist_Bytes.B14 : List Nat := [0, 0, 3, 0, 8, 0, 56, 127, 0, 511, 0, 1024, 4095, 8191]
theorem flist_Bytes.tab14 : rtab .any (opsOf Tryd.f14 14) = flist_Bytes.T14 := by kernel_rfl
theorem flist_Bytes.bits14 : waitsOk flist_Bytes.T14.2 flist_Bytes.B14 = true := by kernel_rfl
set_option maxHeartbeats 8000000 in
set_option maxRecDepth 100000 in
theorem flist_Bytes.calls (k : Nat) (A0 : Option Addr) (c0 : Nat) (l0 : List (S35)) (r1 : List Int) (r2 : Int) (w : World) (hr0 : Kd.C k35 w A0 l0.length l0) (hc0 : l0.length ≤ c0) (h : flist_Bytes.f k l0 = some (r1, r2)) (hT_ : TabW w) :
  Calls Tryd.prog 14 #[.slice A0 l0.length c0] w fun e w' => ∃ v0_ : Value, e = .returned (.tuple #[v0_, .int .i64 r2]) ∧ Kd.R (Kd.int .u8) 5 w' w.heap.size (fun _ => True) v0_ r1 ∧ Below w.heap.size w w' := by
 have hu35 := Tryd.underlying35
 have hu33 := Tryd.underlying33
 have HR0 := Aside0.mk hr0
 have HC0 := Aside0.mk hc0
 clear hr0 hc0
 have HT := Aside0.mk hT_
 clear hT_
 have HB := Aside0.mk (Below.refl w.heap.size w)
 have H : ((flist_Check.f l0).bind fun t101 => (if t101 = 0 then ((num_Put.f ([] : List Int) (l0.length : Int)).bind fun t102 => (flist_Bytes.l0 k t102 (⟨#[]⟩ : ByteArray) l0 (l0.length : Int) 0)) else (some (([] : List Int), t101)))) = some (r1, r2) := h
 clear h
 replace H := Option.bind_eq_some_iff.mp H
 obtain ⟨t101, A20, H⟩ := H
 replace H : (if t101 = 0 then ((num_Put.f ([] : List Int) (l0.length : Int)).bind fun t102 => (flist_Bytes.l0 k t102 (⟨#[]⟩ : ByteArray) l0 (l0.length : Int) 0)) else (some (([] : List Int), t101))) = some (r1, r2) := H
 have A2 := Aside0.mk A20
 clear A20
 by_cases c3 : t101 = 0
 ·rw [if_pos c3] at H
  have c3b0 : (t101 == 0) = true := beq_iff_eq.mpr c3
  have c3b1 : (t101 != 0) = false := bne_eq_false_iff_eq.mpr c3
  clear c3
  replace H := Option.bind_eq_some_iff.mp H
  obtain ⟨t102, A40, H⟩ := H
  replace H : (flist_Bytes.l0 k t102 (⟨#[]⟩ : ByteArray) l0 (l0.length : Int) 0) = some (r1, r2) := H
  have A4 := Aside0.mk A40
  clear A40
  have H' := Aside0.mk H
  clear H
  go_enter Tryd.func14, Tryd.ntmps14
  go_wp2_with (first | ((with_reducible refine gate_callee (f := 12) rfl ?_); refine goesL_ (some 14) rfl rfl Tryd.func12 (by kernel_rfl) rfl #[.slice A0 l0.length c0] rfl (by (try simp only [List.map_toArray, List.map_cons, List.map_nil]); first | done | rfl | (simp only [List.length_drop, List.length_take]; rfl)) ?_; (with_reducible refine (flist_Check.calls _ _ l0 t101 _ ?side1 ?side2 A2.out).mono ?_); (case side1 => repeat (first | exact HR0.out | (with_reducible refine Kd.C_alloc ?_ _) | (with_reducible refine Kd.C_drewN ?_ _) | (with_reducible refine Kd.C_drew ?_))); (case side2 => exact HC0.out); rintro e w5 ⟨rfl, hb⟩; refine ⟨_, rfl, ?_⟩; have n0_ := Aside0.mk (below_step (by repeat (first | (with_reducible first | exact HB.out | apply below_alloc | apply pw_below_drewN | apply below_drew1) | exact HB.out)) hb); clear HB; have HB := n0_; clear n0_; (try clear hb); (try clear hb2); (try clear hk); (try clear hi)) | ((with_reducible refine gate_callee (f := 33) rfl ?_); refine goesL_ (some 20) rfl rfl Tryd.func33 (by kernel_rfl) rfl #[.slice none 0 0, .int .i64 (l0.length : Int)] rfl (by (try simp only [List.map_toArray, List.map_cons, List.map_nil]); first | done | rfl | (simp only [List.length_drop, List.length_take]; rfl)) ?_; (refine (num_Put.calls _ _ ([] : List Int) (l0.length : Int) t102 _ ?side1 ?side2 A4.out).mono ?_); (case side1 => exact Kd.C_nil _ _); (case side2 => exact Nat.le_refl _); rintro e w6 ⟨v103, rfl, ho0, hb⟩; refine ⟨_, rfl, ?_⟩; have n0_ := Aside0.mk (Kd.R_lower ho0 (below_size (by repeat (first | (with_reducible first | exact HB.out | apply below_alloc | apply pw_below_drewN | apply below_drew1) | exact HB.out)))); have n1_ := Aside0.mk (below_step (by repeat (first | (with_reducible first | exact HB.out | apply below_alloc | apply pw_below_drewN | apply below_drew1) | exact HB.out)) hb); clear HB; have HO104 := n0_; have HB := n1_; clear n0_ n1_; (try clear hb); (try clear hb2); (try clear hk); (try clear hi); (try clear ho0)))
  go_loopg [5, 6, 23] k (fun kq v5 v6 v23 w' => ∃ (x5_1 : List Int) (x6_1 : ByteArray) (x23_1 : Int), v6 = .string x6_1 ∧ v23 = .int .i64 x23_1 ∧ Aside0 (flist_Bytes.l0 kq x5_1 x6_1 l0 (l0.length : Int) x23_1 = some (r1, r2)) ∧ Aside0 (kq ≤ k) ∧ Aside0 (Kd.R (Kd.int .u8) 5 w' w.heap.size (fun _ => True) v5 x5_1) ∧ Aside0 (Below w.heap.size w w'))
  case atStart => exact ⟨(t102), ((⟨#[]⟩ : ByteArray)), (0), (by first | rfl | (simp; done) | (simp [*]; done)), (by first | rfl | (simp; done) | (simp [*]; done)), H', ⟨Nat.le_refl _⟩, ⟨by (with_reducible repeat (first | apply Kd.R_alloc | apply Kd.R_drewN | apply Kd.R_drew)); exact HO104.out⟩, ⟨by repeat (first | (with_reducible first | exact HB.out | apply below_alloc | apply pw_below_drewN | apply below_drew1) | exact HB.out)⟩⟩
  case round =>
   clear H'
   try clear c1
   try clear p2
   try clear c3
   try clear c3b0
   try clear c3b1
   obtain ⟨x5_1, x6_1, x23_1, rfl, rfl, HA, HK1, HO_5, HB⟩ := hrel
   cases gk with
   | zero => exact absurd HA.out (by simp [flist_Bytes.l0])
   | succ k1 =>
    have H := HA.out
    clear HA
    simp only [flist_Bytes.l0] at H
    by_cases c7 : x23_1 < (l0.length : Int)
    ·rw [if_pos c7] at H
     have c7b0 : decide (x23_1 < (l0.length : Int)) = true := decide_eq_true c7
     clear c7
     by_cases c8 : 0 ≤ x23_1
     ·rw [if_pos c8] at H
      have c8b0 : decide (0 ≤ x23_1) = true := decide_eq_true c8
      clear c8
      by_cases c9 : x23_1 < (l0.length : Int)
      ·rw [if_pos c9] at H
       have c9b0 : decide (x23_1 < (l0.length : Int)) = true := decide_eq_true c9
       clear c9
       replace H := Option.bind_eq_some_iff.mp H
       obtain ⟨t110, A100, H⟩ := H
       replace H : (if ((rd_T35 l0 x23_1).f5).toList = ([] : List UInt8) then (flist_Bytes.j1 k1 x5_1 ((rd_T35 l0 x23_1).f0) t110 ((rd_T35 l0 x23_1).f1) l0 (l0.length : Int) x23_1 ((rd_T35 l0 x23_1).f0) ((rd_T35 l0 x23_1).f1) ((rd_T35 l0 x23_1).f2) ((rd_T35 l0 x23_1).f3.f0) ((rd_T35 l0 x23_1).f3.f1) ((rd_T35 l0 x23_1).f3.f2) ((rd_T35 l0 x23_1).f3.f3) ((rd_T35 l0 x23_1).f3.f4) ((rd_T35 l0 x23_1).f4) ((rd_T35 l0 x23_1).f5) ((rd_T35 l0 x23_1).f6)) else (flist_Bytes.j1 k1 x5_1 ((rd_T35 l0 x23_1).f0) t110 (wrap64 (((rd_T35 l0 x23_1).f1) + 4)) l0 (l0.length : Int) x23_1 ((rd_T35 l0 x23_1).f0) ((rd_T35 l0 x23_1).f1) ((rd_T35 l0 x23_1).f2) ((rd_T35 l0 x23_1).f3.f0) ((rd_T35 l0 x23_1).f3.f1) ((rd_T35 l0 x23_1).f3.f2) ((rd_T35 l0 x23_1).f3.f3) ((rd_T35 l0 x23_1).f3.f4) ((rd_T35 l0 x23_1).f4) ((rd_T35 l0 x23_1).f5) ((rd_T35 l0 x23_1).f6))) = some (r1, r2) := H
       have A10 := Aside0.mk A100
       clear A100
       have HC11 := Aside0.mk H
       clear H
       have p108 : 0 ≤ (x23_1 : Int) := of_decide_eq_true (by first | (with_reducible assumption) | assumption)
       have q108 : x23_1 < (l0.length : Int) := of_decide_eq_true (by first | (with_reducible assumption) | assumption)
       obtain ⟨ad108, e108, hx108_0, hx108_1, hx108_2, hx108_3, hx108_4, hx108_5, hx108_6, hx108_7, hx108_8, hx108_9, hx108_10⟩ := at_T35 HR0.out x23_1 p108 q108
       cases e108
       replace hx108_0 := (HB.out.cell (World.block_lt_of_cell? w _ hx108_0)).trans hx108_0
       replace hx108_1 := (HB.out.cell (World.block_lt_of_cell? w _ hx108_1)).trans hx108_1
       replace hx108_2 := (HB.out.cell (World.block_lt_of_cell? w _ hx108_2)).trans hx108_2
       replace hx108_3 := (HB.out.cell (World.block_lt_of_cell? w _ hx108_3)).trans hx108_3
       replace hx108_4 := (HB.out.cell (World.block_lt_of_cell? w _ hx108_4)).trans hx108_4
       replace hx108_5 := (HB.out.cell (World.block_lt_of_cell? w _ hx108_5)).trans hx108_5
       replace hx108_6 := (HB.out.cell (World.block_lt_of_cell? w _ hx108_6)).trans hx108_6
       replace hx108_7 := (HB.out.cell (World.block_lt_of_cell? w _ hx108_7)).trans hx108_7
       replace hx108_8 := (HB.out.cell (World.block_lt_of_cell? w _ hx108_8)).trans hx108_8
       replace hx108_9 := (HB.out.cell (World.block_lt_of_cell? w _ hx108_9)).trans hx108_9
       replace hx108_10 := (HB.out.cell (World.block_lt_of_cell? w _ hx108_10)).trans hx108_10
       replace p108 := eq_true p108
       replace q108 := eq_true q108
       go_upto_if 37 with (first | ((with_reducible refine gate_dst (N := 8) rfl ?_); refine box_event ?hg (N := 8) ?hd (cs := #[.string (⟨#[]⟩ : ByteArray), .int .i64 0, .int .i64 0, .int .i64 0, .int .i64 0, .int .i64 0, .int .i64 0, .int .i64 0, .string (⟨#[]⟩ : ByteArray), .string (⟨#[]⟩ : ByteArray), .int .i64 0]) (t := 35) ?hr ?_; (case hd => rfl); (case hg => rfl); (case hr => first | (go_simp; done) | (go_simp; rfl)); intro gb109 hg w12 hbox hb; have n0_ := Aside0.mk (Kd.R_below (by (with_reducible repeat (first | apply Kd.R_alloc | apply Kd.R_drewN | apply Kd.R_drew)); exact HO_5.out) hb); have n1_ := Aside0.mk (below_step (by repeat (first | (with_reducible first | exact HB.out | apply below_alloc | apply pw_below_drewN | apply below_drew1) | exact HB.out)) hb); have n2_ := Aside0.mk (hbox); have n3_ := Aside0.mk ((by rw [hg]; exact (below_size (by repeat (first | (with_reducible first | exact HB.out | apply below_alloc | apply pw_below_drewN | apply below_drew1) | exact HB.out))) : w.heap.size ≤ gb109)); have n4_ := Aside0.mk ((by rw [hg]; exact (below_size (by repeat (first | (with_reducible first | exact HB.out | apply below_alloc | apply pw_below_drewN | apply below_drew1) | exact HB.out))) : w.heap.size ≤ gb109)); clear HO_5; clear HB; have HO_5 := n0_; have HB := n1_; have BK109 := n2_; have GW109 := n3_; have GE109 := n4_; clear n0_ n1_ n2_ n3_ n4_; clear hb hbox hg; have hcz13_0 : w12.cell? ⟨gb109, 0, none⟩ = some (.string (⟨#[]⟩ : ByteArray)) := (blk_cell BK109.out 0).trans rfl; have hcz13_1 : w12.cell? ⟨gb109, 1, none⟩ = some (.int .i64 0) := (blk_cell BK109.out 1).trans rfl; have hcz13_2 : w12.cell? ⟨gb109, 2, none⟩ = some (.int .i64 0) := (blk_cell BK109.out 2).trans rfl; have hcz13_3 : w12.cell? ⟨gb109, 3, none⟩ = some (.int .i64 0) := (blk_cell BK109.out 3).trans rfl; have hcz13_4 : w12.cell? ⟨gb109, 4, none⟩ = some (.int .i64 0) := (blk_cell BK109.out 4).trans rfl; have hcz13_5 : w12.cell? ⟨gb109, 5, none⟩ = some (.int .i64 0) := (blk_cell BK109.out 5).trans rfl; have hcz13_6 : w12.cell? ⟨gb109, 6, none⟩ = some (.int .i64 0) := (blk_cell BK109.out 6).trans rfl; have hcz13_7 : w12.cell? ⟨gb109, 7, none⟩ = some (.int .i64 0) := (blk_cell BK109.out 7).trans rfl; have hcz13_8 : w12.cell? ⟨gb109, 8, none⟩ = some (.string (⟨#[]⟩ : ByteArray)) := (blk_cell BK109.out 8).trans rfl; have hcz13_9 : w12.cell? ⟨gb109, 9, none⟩ = some (.string (⟨#[]⟩ : ByteArray)) := (blk_cell BK109.out 9).trans rfl; have hcz13_10 : w12.cell? ⟨gb109, 10, none⟩ = some (.int .i64 0) := (blk_cell BK109.out 10).trans rfl; have hfz13_0 := blk_frozen BK109.out 0; have hfz13_1 := blk_frozen BK109.out 1; have hfz13_2 := blk_frozen BK109.out 2; have hfz13_3 := blk_frozen BK109.out 3; have hfz13_4 := blk_frozen BK109.out 4; have hfz13_5 := blk_frozen BK109.out 5; have hfz13_6 := blk_frozen BK109.out 6; have hfz13_7 := blk_frozen BK109.out 7; have hfz13_8 := blk_frozen BK109.out 8; have hfz13_9 := blk_frozen BK109.out 9; have hfz13_10 := blk_frozen BK109.out 10) | ((with_reducible refine gate_callee (f := 34) rfl ?_); refine goesL_ (some 30) rfl rfl Tryd.func34 (by kernel_rfl) rfl #[.string ((rd_T35 l0 x23_1).f0), .string x6_1] rfl (by (try simp only [List.map_toArray, List.map_cons, List.map_nil]); first | done | rfl | (simp only [List.length_drop, List.length_take]; rfl)) ?_; (with_reducible refine (flist_like.calls ((rd_T35 l0 x23_1).f0) x6_1 t110 _ A10.out).mono ?_); rintro e w14 ⟨rfl, hb⟩; refine ⟨_, rfl, ?_⟩; have n0_ := Aside0.mk (Kd.R_below (by (with_reducible repeat (first | apply Kd.R_alloc | apply Kd.R_drewN | apply Kd.R_drew)); exact (Kd.R_mono (Kd.R_far (p := ⟨gb109, 10, none⟩) (Kd.R_far (p := ⟨gb109, 9, none⟩) (Kd.R_far (p := ⟨gb109, 8, none⟩) (Kd.R_far (p := ⟨gb109, 7, none⟩) (Kd.R_far (p := ⟨gb109, 6, none⟩) (Kd.R_far (p := ⟨gb109, 5, none⟩) (Kd.R_far (p := ⟨gb109, 4, none⟩) (Kd.R_far (p := ⟨gb109, 3, none⟩) (Kd.R_far (p := ⟨gb109, 2, none⟩) (Kd.R_far (p := ⟨gb109, 1, none⟩) (Kd.R_far (p := ⟨gb109, 0, none⟩) (Kd.R_types HO_5.out BK109.out (by decide)) (fun _ hk => hk.2) (.string ((rd_T35 l0 x23_1).f0))) (fun _ hk => hk.2) (.int .i64 ((rd_T35 l0 x23_1).f1))) (fun _ hk => hk.2) (.int .i64 ((rd_T35 l0 x23_1).f2))) (fun _ hk => hk.2) (.int .i64 ((rd_T35 l0 x23_1).f3.f0))) (fun _ hk => hk.2) (.int .i64 ((rd_T35 l0 x23_1).f3.f1))) (fun _ hk => hk.2) (.int .i64 ((rd_T35 l0 x23_1).f3.f2))) (fun _ hk => hk.2) (.int .i64 ((rd_T35 l0 x23_1).f3.f3))) (fun _ hk => hk.2) (.int .i64 ((rd_T35 l0 x23_1).f3.f4))) (fun _ hk => hk.2) (.string ((rd_T35 l0 x23_1).f4))) (fun _ hk => hk.2) (.string ((rd_T35 l0 x23_1).f5))) (fun _ hk => hk.2) (.int .i64 ((rd_T35 l0 x23_1).f6))) (fun _ h_ => h_.1))) hb); have n1_ := Aside0.mk (blk_below (g := gb109) (o := .cells #[.string ((rd_T35 l0 x23_1).f0), .int .i64 ((rd_T35 l0 x23_1).f1), .int .i64 ((rd_T35 l0 x23_1).f2), .int .i64 ((rd_T35 l0 x23_1).f3.f0), .int .i64 ((rd_T35 l0 x23_1).f3.f1), .int .i64 ((rd_T35 l0 x23_1).f3.f2), .int .i64 ((rd_T35 l0 x23_1).f3.f3), .int .i64 ((rd_T35 l0 x23_1).f3.f4), .string ((rd_T35 l0 x23_1).f4), .string ((rd_T35 l0 x23_1).f5), .int .i64 ((rd_T35 l0 x23_1).f6)] 35 (0, 0)) (by (with_reducible repeat (first | refine blk_drewN ?_ _ | refine blk_drew ?_ | refine blk_alloc ?_ _)); refine blk_put (cs := #[.string ((rd_T35 l0 x23_1).f0), .int .i64 ((rd_T35 l0 x23_1).f1), .int .i64 ((rd_T35 l0 x23_1).f2), .int .i64 ((rd_T35 l0 x23_1).f3.f0), .int .i64 ((rd_T35 l0 x23_1).f3.f1), .int .i64 ((rd_T35 l0 x23_1).f3.f2), .int .i64 ((rd_T35 l0 x23_1).f3.f3), .int .i64 ((rd_T35 l0 x23_1).f3.f4), .string ((rd_T35 l0 x23_1).f4), .string ((rd_T35 l0 x23_1).f5), .int .i64 0]) ?_ 10 _ rfl; (with_reducible repeat (first | refine blk_drewN ?_ _ | refine blk_drew ?_ | refine blk_alloc ?_ _)); refine blk_put (cs := #[.string ((rd_T35 l0 x23_1).f0), .int .i64 ((rd_T35 l0 x23_1).f1), .int .i64 ((rd_T35 l0 x23_1).f2), .int .i64 ((rd_T35 l0 x23_1).f3.f0), .int .i64 ((rd_T35 l0 x23_1).f3.f1), .int .i64 ((rd_T35 l0 x23_1).f3.f2), .int .i64 ((rd_T35 l0 x23_1).f3.f3), .int .i64 ((rd_T35 l0 x23_1).f3.f4), .string ((rd_T35 l0 x23_1).f4), .string (⟨#[]⟩ : ByteArray), .int .i64 0]) ?_ 9 _ rfl; (with_reducible repeat (first | refine blk_drewN ?_ _ | refine blk_drew ?_ | refine blk_alloc ?_ _)); refine blk_put (cs := #[.string ((rd_T35 l0 x23_1).f0), .int .i64 ((rd_T35 l0 x23_1).f1), .int .i64 ((rd_T35 l0 x23_1).f2), .int .i64 ((rd_T35 l0 x23_1).f3.f0), .int .i64 ((rd_T35 l0 x23_1).f3.f1), .int .i64 ((rd_T35 l0 x23_1).f3.f2), .int .i64 ((rd_T35 l0 x23_1).f3.f3), .int .i64 ((rd_T35 l0 x23_1).f3.f4), .string (⟨#[]⟩ : ByteArray), .string (⟨#[]⟩ : ByteArray), .int .i64 0]) ?_ 8 _ rfl; (with_reducible repeat (first | refine blk_drewN ?_ _ | refine blk_drew ?_ | refine blk_alloc ?_ _)); refine blk_put (cs := #[.string ((rd_T35 l0 x23_1).f0), .int .i64 ((rd_T35 l0 x23_1).f1), .int .i64 ((rd_T35 l0 x23_1).f2), .int .i64 ((rd_T35 l0 x23_1).f3.f0), .int .i64 ((rd_T35 l0 x23_1).f3.f1), .int .i64 ((rd_T35 l0 x23_1).f3.f2), .int .i64 ((rd_T35 l0 x23_1).f3.f3), .int .i64 0, .string (⟨#[]⟩ : ByteArray), .string (⟨#[]⟩ : ByteArray), .int .i64 0]) ?_ 7 _ rfl; (with_reducible repeat (first | refine blk_drewN ?_ _ | refine blk_drew ?_ | refine blk_alloc ?_ _)); refine blk_put (cs := #[.string ((rd_T35 l0 x23_1).f0), .int .i64 ((rd_T35 l0 x23_1).f1), .int .i64 ((rd_T35 l0 x23_1).f2), .int .i64 ((rd_T35 l0 x23_1).f3.f0), .int .i64 ((rd_T35 l0 x23_1).f3.f1), .int .i64 ((rd_T35 l0 x23_1).f3.f2), .int .i64 0, .int .i64 0, .string (⟨#[]⟩ : ByteArray), .string (⟨#[]⟩ : ByteArray), .int .i64 0]) ?_ 6 _ rfl; (with_reducible repeat (first | refine blk_drewN ?_ _ | refine blk_drew ?_ | refine blk_alloc ?_ _)); refine blk_put (cs := #[.string ((rd_T35 l0 x23_1).f0), .int .i64 ((rd_T35 l0 x23_1).f1), .int .i64 ((rd_T35 l0 x23_1).f2), .int .i64 ((rd_T35 l0 x23_1).f3.f0), .int .i64 ((rd_T35 l0 x23_1).f3.f1), .int .i64 0, .int .i64 0, .int .i64 0, .string (⟨#[]⟩ : ByteArray), .string (⟨#[]⟩ : ByteArray), .int .i64 0]) ?_ 5 _ rfl; (with_reducible repeat (first | refine blk_drewN ?_ _ | refine blk_drew ?_ | refine blk_alloc ?_ _)); refine blk_put (cs := #[.string ((rd_T35 l0 x23_1).f0), .int .i64 ((rd_T35 l0 x23_1).f1), .int .i64 ((rd_T35 l0 x23_1).f2), .int .i64 ((rd_T35 l0 x23_1).f3.f0), .int .i64 0, .int .i64 0, .int .i64 0, .int .i64 0, .string (⟨#[]⟩ : ByteArray), .string (⟨#[]⟩ : ByteArray), .int .i64 0]) ?_ 4 _ rfl; (with_reducible repeat (first | refine blk_drewN ?_ _ | refine blk_drew ?_ | refine blk_alloc ?_ _)); refine blk_put (cs := #[.string ((rd_T35 l0 x23_1).f0), .int .i64 ((rd_T35 l0 x23_1).f1), .int .i64 ((rd_T35 l0 x23_1).f2), .int .i64 0, .int .i64 0, .int .i64 0, .int .i64 0, .int .i64 0, .string (⟨#[]⟩ : ByteArray), .string (⟨#[]⟩ : ByteArray), .int .i64 0]) ?_ 3 _ rfl; (with_reducible repeat (first | refine blk_drewN ?_ _ | refine blk_drew ?_ | refine blk_alloc ?_ _)); refine blk_put (cs := #[.string ((rd_T35 l0 x23_1).f0), .int .i64 ((rd_T35 l0 x23_1).f1), .int .i64 0, .int .i64 0, .int .i64 0, .int .i64 0, .int .i64 0, .int .i64 0, .string (⟨#[]⟩ : ByteArray), .string (⟨#[]⟩ : ByteArray), .int .i64 0]) ?_ 2 _ rfl; (with_reducible repeat (first | refine blk_drewN ?_ _ | refine blk_drew ?_ | refine blk_alloc ?_ _)); refine blk_put (cs := #[.string ((rd_T35 l0 x23_1).f0), .int .i64 0, .int .i64 0, .int .i64 0, .int .i64 0, .int .i64 0, .int .i64 0, .int .i64 0, .string (⟨#[]⟩ : ByteArray), .string (⟨#[]⟩ : ByteArray), .int .i64 0]) ?_ 1 _ rfl; (with_reducible repeat (first | refine blk_drewN ?_ _ | refine blk_drew ?_ | refine blk_alloc ?_ _)); refine blk_put (cs := #[.string (⟨#[]⟩ : ByteArray), .int .i64 0, .int .i64 0, .int .i64 0, .int .i64 0, .int .i64 0, .int .i64 0, .int .i64 0, .string (⟨#[]⟩ : ByteArray), .string (⟨#[]⟩ : ByteArray), .int .i64 0]) ?_ 0 _ rfl; (with_reducible repeat (first | refine blk_drewN ?_ _ | refine blk_drew ?_ | refine blk_alloc ?_ _)); exact BK109.out) hb); have n2_ := Aside0.mk (below_step (by repeat (first | (with_reducible first | exact HB.out | apply below_alloc | apply pw_below_drewN | apply below_drew1 | refine below_set ?_ GE109.out) | exact HB.out)) hb); clear HO_5; clear BK109; clear HB; have HO_5 := n0_; have BK109 := n1_; have HB := n2_; clear n0_ n1_ n2_; (try clear hb); (try clear hb2); (try clear hk); (try clear hi); have hcz15_0 : w14.cell? ⟨gb109, 0, none⟩ = some (.string ((rd_T35 l0 x23_1).f0)) := (blk_cell BK109.out 0).trans rfl; have hcz15_1 : w14.cell? ⟨gb109, 1, none⟩ = some (.int .i64 ((rd_T35 l0 x23_1).f1)) := (blk_cell BK109.out 1).trans rfl; have hcz15_2 : w14.cell? ⟨gb109, 2, none⟩ = some (.int .i64 ((rd_T35 l0 x23_1).f2)) := (blk_cell BK109.out 2).trans rfl; have hcz15_3 : w14.cell? ⟨gb109, 3, none⟩ = some (.int .i64 ((rd_T35 l0 x23_1).f3.f0)) := (blk_cell BK109.out 3).trans rfl; have hcz15_4 : w14.cell? ⟨gb109, 4, none⟩ = some (.int .i64 ((rd_T35 l0 x23_1).f3.f1)) := (blk_cell BK109.out 4).trans rfl; have hcz15_5 : w14.cell? ⟨gb109, 5, none⟩ = some (.int .i64 ((rd_T35 l0 x23_1).f3.f2)) := (blk_cell BK109.out 5).trans rfl; have hcz15_6 : w14.cell? ⟨gb109, 6, none⟩ = some (.int .i64 ((rd_T35 l0 x23_1).f3.f3)) := (blk_cell BK109.out 6).trans rfl; have hcz15_7 : w14.cell? ⟨gb109, 7, none⟩ = some (.int .i64 ((rd_T35 l0 x23_1).f3.f4)) := (blk_cell BK109.out 7).trans rfl; have hcz15_8 : w14.cell? ⟨gb109, 8, none⟩ = some (.string ((rd_T35 l0 x23_1).f4)) := (blk_cell BK109.out 8).trans rfl; have hcz15_9 : w14.cell? ⟨gb109, 9, none⟩ = some (.string ((rd_T35 l0 x23_1).f5)) := (blk_cell BK109.out 9).trans rfl; have hcz15_10 : w14.cell? ⟨gb109, 10, none⟩ = some (.int .i64 ((rd_T35 l0 x23_1).f6)) := (blk_cell BK109.out 10).trans rfl; have hfz15_0 := blk_frozen BK109.out 0; have hfz15_1 := blk_frozen BK109.out 1; have hfz15_2 := blk_frozen BK109.out 2; have hfz15_3 := blk_frozen BK109.out 3; have hfz15_4 := blk_frozen BK109.out 4; have hfz15_5 := blk_frozen BK109.out 5; have hfz15_6 := blk_frozen BK109.out 6; have hfz15_7 := blk_frozen BK109.out 7; have hfz15_8 := blk_frozen BK109.out 8; have hfz15_9 := blk_frozen BK109.out 9; have hfz15_10 := blk_frozen BK109.out 10))
       (try simp only [Act.put, List.setIfInBounds_toArray, List.set_cons_zero, List.set_cons_succ])
       go_cut [10] (fun v10 wc => ∃ (kq : Nat) (x10_10 : Int), v10 = .int .i64 x10_10 ∧ Aside0 (flist_Bytes.j1 kq x5_1 ((rd_T35 l0 x23_1).f0) t110 x10_10 l0 (l0.length : Int) x23_1 ((rd_T35 l0 x23_1).f0) ((rd_T35 l0 x23_1).f1) ((rd_T35 l0 x23_1).f2) ((rd_T35 l0 x23_1).f3.f0) ((rd_T35 l0 x23_1).f3.f1) ((rd_T35 l0 x23_1).f3.f2) ((rd_T35 l0 x23_1).f3.f3) ((rd_T35 l0 x23_1).f3.f4) ((rd_T35 l0 x23_1).f4) ((rd_T35 l0 x23_1).f5) ((rd_T35 l0 x23_1).f6) = some (r1, r2)) ∧ Aside0 (kq ≤ k1) ∧ Aside0 (Kd.R (Kd.int .u8) 5 wc w.heap.size (fun _ => True) u5 x5_1) ∧ Aside0 (wc.heap[gb109]? = some (.cells #[.string ((rd_T35 l0 x23_1).f0), .int .i64 ((rd_T35 l0 x23_1).f1), .int .i64 ((rd_T35 l0 x23_1).f2), .int .i64 ((rd_T35 l0 x23_1).f3.f0), .int .i64 ((rd_T35 l0 x23_1).f3.f1), .int .i64 ((rd_T35 l0 x23_1).f3.f2), .int .i64 ((rd_T35 l0 x23_1).f3.f3), .int .i64 ((rd_T35 l0 x23_1).f3.f4), .string ((rd_T35 l0 x23_1).f4), .string ((rd_T35 l0 x23_1).f5), .int .i64 ((rd_T35 l0 x23_1).f6)] 35 (0, 0))) ∧ Aside0 (Below w.heap.size w wc))
       case first =>
        have H := HC11.out
        clear HC11
        by_cases c16 : ((rd_T35 l0 x23_1).f5).toList = ([] : List UInt8)
        ·rw [if_pos c16] at H
         have c16b0 : (((rd_T35 l0 x23_1).f5).toList == ([] : List UInt8)) = true := beq_iff_eq.mpr c16
         have c16e : (((rd_T35 l0 x23_1).f5).toList.isEmpty) = true := by rw [c16]; rfl
         have c16b1 : (((rd_T35 l0 x23_1).f5).toList != ([] : List UInt8)) = false := bne_eq_false_iff_eq.mpr c16
         clear c16
         (first | rw [c16b0] | (simp only [i64_w, i32_w]; rw [c16b0]) | skip)
         (try rw [c16e])
         (try simp only [Bool.not_true, Bool.not_false])
         have H' := Aside0.mk H
         clear H
         go_wp2
         go_meet
         case rel => exact ⟨_, ((rd_T35 l0 x23_1).f1), (by first | rfl | (simp; done) | (simp [*]; done)), H', ⟨by have := HK1.out; first | omega | exact Nat.le_refl _⟩, ⟨by (with_reducible repeat (first | apply Kd.R_alloc | apply Kd.R_drewN | apply Kd.R_drew)); exact HO_5.out⟩, ⟨by (with_reducible repeat (first | refine blk_drewN ?_ _ | refine blk_drew ?_ | refine blk_alloc ?_ _)); exact BK109.out⟩, ⟨by repeat (first | (with_reducible first | exact HB.out | apply below_alloc | apply pw_below_drewN | apply below_drew1 | refine below_set ?_ GE109.out) | exact HB.out)⟩⟩
        ·rw [if_neg c16] at H
         have c16b0 : (((rd_T35 l0 x23_1).f5).toList == ([] : List UInt8)) = false := beq_eq_false_iff_ne.mpr c16
         have c16e : (((rd_T35 l0 x23_1).f5).toList.isEmpty) = false := by cases hc_ : ((rd_T35 l0 x23_1).f5).toList with | nil => exact absurd hc_ c16 | cons _ _ => rfl
         have c16b1 : (((rd_T35 l0 x23_1).f5).toList != ([] : List UInt8)) = true := bne_iff_ne.mpr c16
         (first | rw [c16b0] | (simp only [i64_w, i32_w]; rw [c16b0]) | skip)
         (try rw [c16e])
         (try simp only [Bool.not_true, Bool.not_false])
         have H' := Aside0.mk H
         clear H
         go_wp2
         go_meet
         case rel => exact ⟨_, (wrap64 (((rd_T35 l0 x23_1).f1) + 4)), (by first | rfl | (simp; done) | (simp [*]; done)), H', ⟨by have := HK1.out; first | omega | exact Nat.le_refl _⟩, ⟨by (with_reducible repeat (first | apply Kd.R_alloc | apply Kd.R_drewN | apply Kd.R_drew)); exact HO_5.out⟩, ⟨by (with_reducible repeat (first | refine blk_drewN ?_ _ | refine blk_drew ?_ | refine blk_alloc ?_ _)); exact BK109.out⟩, ⟨by repeat (first | (with_reducible first | exact HB.out | apply below_alloc | apply pw_below_drewN | apply below_drew1 | refine below_set ?_ GE109.out) | exact HB.out)⟩⟩
       case rest =>
        clear HC11
        try clear c1
        try clear p1
        try clear q1
        try clear hx1
        try clear p2
        try clear c3
        try clear c3b0
        try clear c3b1
        try clear p6
        try clear c7
        try clear c7b0
        try clear c8
        try clear c8b0
        try clear c9
        try clear c9b0
        try clear p10
        try clear q10
        try clear hx10
        try clear c12
        try clear c14
        try clear c16
        try clear c16b0
        try clear c16b1
        try clear hcz13_0
        try clear hcz13_1
        try clear hcz13_10
        try clear hcz13_2
        try clear hcz13_3
        try clear hcz13_4
        try clear hcz13_5
        try clear hcz13_6
        try clear hcz13_7
        try clear hcz13_8
        try clear hcz13_9
        try clear hcz15_0
        try clear hcz15_1
        try clear hcz15_10
        try clear hcz15_2
        try clear hcz15_3
        try clear hcz15_4
        try clear hcz15_5
        try clear hcz15_6
        try clear hcz15_7
        try clear hcz15_8
        try clear hcz15_9
        try clear hfz13_0
        try clear hfz13_1
        try clear hfz13_10
        try clear hfz13_2
        try clear hfz13_3
        try clear hfz13_4
        try clear hfz13_5
        try clear hfz13_6
        try clear hfz13_7
        try clear hfz13_8
        try clear hfz13_9
        try clear hfz15_0
        try clear hfz15_1
        try clear hfz15_10
        try clear hfz15_2
        try clear hfz15_3
        try clear hfz15_4
        try clear hfz15_5
        try clear hfz15_6
        try clear hfz15_7
        try clear hfz15_8
        try clear hfz15_9
        try clear hx108_0
        try clear hx108_1
        try clear hx108_10
        try clear hx108_2
        try clear hx108_3
        try clear hx108_4
        try clear hx108_5
        try clear hx108_6
        try clear hx108_7
        try clear hx108_8
        try clear hx108_9
        try clear p108
        try clear p2
        try clear q108
        obtain ⟨kq, x10_10, rfl, HA, HJ10, HO_5, BK109, HB⟩ := hcut
        cases kq with
        | zero => exact absurd HA.out (by simp [flist_Bytes.j1])
        | succ kj10 =>
         have H := HA.out
         clear HA
         simp only [flist_Bytes.j1] at H
         replace H := Option.bind_eq_some_iff.mp H
         obtain ⟨t111, A170, H⟩ := H
         replace H : (if 0 ≤ t110 then (if t110 ≤ (((rd_T35 l0 x23_1).f0).size : Int) then ((num_PutText.f t111 (((rd_T35 l0 x23_1).f0).extract (t110 : Int).toNat ((rd_T35 l0 x23_1).f0).size)).bind fun t114 => ((num_Put.f t114 x10_10).bind fun t117 => ((num_Put.f t117 ((rd_T35 l0 x23_1).f2)).bind fun t120 => ((meta_Bytes.f ((rd_T35 l0 x23_1).f3.f0) ((rd_T35 l0 x23_1).f3.f1) ((rd_T35 l0 x23_1).f3.f2) ((rd_T35 l0 x23_1).f3.f3) ((rd_T35 l0 x23_1).f3.f4)).bind fun bt123 => (if t120.length + bt123.1.length < 140737488355328 then ((some (t120 ++ bt123.1 : List Int)).bind fun y127 => (if ((rd_T35 l0 x23_1).f1) = 3 then ((num_PutText.f y127 ((rd_T35 l0 x23_1).f4)).bind fun t130 => (if t130.length + ((rd_T35 l0 x23_1).f5).size < 140737488355328 then ((some (t130 ++ bytesOf ((rd_T35 l0 x23_1).f5) : List Int)).bind fun y133 => (if ((rd_T35 l0 x23_1).f1) = 1 then ((num_Put.f y133 ((rd_T35 l0 x23_1).f6)).bind fun t136 => (flist_Bytes.l0 kj10 t136 ((rd_T35 l0 x23_1).f0) l0 (l0.length : Int) (wrap64 (x23_1 + 1)))) else (flist_Bytes.l0 kj10 y133 ((rd_T35 l0 x23_1).f0) l0 (l0.length : Int) (wrap64 (x23_1 + 1))))) else (none))) else (if y127.length + ((rd_T35 l0 x23_1).f5).size < 140737488355328 then ((some (y127 ++ bytesOf ((rd_T35 l0 x23_1).f5) : List Int)).bind fun y139 => (if ((rd_T35 l0 x23_1).f1) = 1 then ((num_Put.f y139 ((rd_T35 l0 x23_1).f6)).bind fun t142 => (flist_Bytes.l0 kj10 t142 ((rd_T35 l0 x23_1).f0) l0 (l0.length : Int) (wrap64 (x23_1 + 1)))) else (flist_Bytes.l0 kj10 y139 ((rd_T35 l0 x23_1).f0) l0 (l0.length : Int) (wrap64 (x23_1 + 1))))) else (none)))) else (none)))))) else (none)) else (none)) = some (r1, r2) := H
         have A17 := Aside0.mk A170
         clear A170
         by_cases c18 : 0 ≤ t110
         ·rw [if_pos c18] at H
          have c18b0 := eq_true c18
          have c18b1 : decide (0 ≤ t110) = true := decide_eq_true c18
          clear c18
          by_cases c19 : t110 ≤ (((rd_T35 l0 x23_1).f0).size : Int)
          ·rw [if_pos c19] at H
           have c19b0 := eq_true c19
           have c19b1 : decide (t110 ≤ (((rd_T35 l0 x23_1).f0).size : Int)) = true := decide_eq_true c19
           clear c19
           replace H := Option.bind_eq_some_iff.mp H
           obtain ⟨t114, A200, H⟩ := H
           replace H : ((num_Put.f t114 x10_10).bind fun t117 => ((num_Put.f t117 ((rd_T35 l0 x23_1).f2)).bind fun t120 => ((meta_Bytes.f ((rd_T35 l0 x23_1).f3.f0) ((rd_T35 l0 x23_1).f3.f1) ((rd_T35 l0 x23_1).f3.f2) ((rd_T35 l0 x23_1).f3.f3) ((rd_T35 l0 x23_1).f3.f4)).bind fun bt123 => (if t120.length + bt123.1.length < 140737488355328 then ((some (t120 ++ bt123.1 : List Int)).bind fun y127 => (if ((rd_T35 l0 x23_1).f1) = 3 then ((num_PutText.f y127 ((rd_T35 l0 x23_1).f4)).bind fun t130 => (if t130.length + ((rd_T35 l0 x23_1).f5).size < 140737488355328 then ((some (t130 ++ bytesOf ((rd_T35 l0 x23_1).f5) : List Int)).bind fun y133 => (if ((rd_T35 l0 x23_1).f1) = 1 then ((num_Put.f y133 ((rd_T35 l0 x23_1).f6)).bind fun t136 => (flist_Bytes.l0 kj10 t136 ((rd_T35 l0 x23_1).f0) l0 (l0.length : Int) (wrap64 (x23_1 + 1)))) else (flist_Bytes.l0 kj10 y133 ((rd_T35 l0 x23_1).f0) l0 (l0.length : Int) (wrap64 (x23_1 + 1))))) else (none))) else (if y127.length + ((rd_T35 l0 x23_1).f5).size < 140737488355328 then ((some (y127 ++ bytesOf ((rd_T35 l0 x23_1).f5) : List Int)).bind fun y139 => (if ((rd_T35 l0 x23_1).f1) = 1 then ((num_Put.f y139 ((rd_T35 l0 x23_1).f6)).bind fun t142 => (flist_Bytes.l0 kj10 t142 ((rd_T35 l0 x23_1).f0) l0 (l0.length : Int) (wrap64 (x23_1 + 1)))) else (flist_Bytes.l0 kj10 y139 ((rd_T35 l0 x23_1).f0) l0 (l0.length : Int) (wrap64 (x23_1 + 1))))) else (none)))) else (none))))) = some (r1, r2) := H
           have A20 := Aside0.mk A200
           clear A200
           replace H := Option.bind_eq_some_iff.mp H
           obtain ⟨t117, A210, H⟩ := H
           replace H : ((num_Put.f t117 ((rd_T35 l0 x23_1).f2)).bind fun t120 => ((meta_Bytes.f ((rd_T35 l0 x23_1).f3.f0) ((rd_T35 l0 x23_1).f3.f1) ((rd_T35 l0 x23_1).f3.f2) ((rd_T35 l0 x23_1).f3.f3) ((rd_T35 l0 x23_1).f3.f4)).bind fun bt123 => (if t120.length + bt123.1.length < 140737488355328 then ((some (t120 ++ bt123.1 : List Int)).bind fun y127 => (if ((rd_T35 l0 x23_1).f1) = 3 then ((num_PutText.f y127 ((rd_T35 l0 x23_1).f4)).bind fun t130 => (if t130.length + ((rd_T35 l0 x23_1).f5).size < 140737488355328 then ((some (t130 ++ bytesOf ((rd_T35 l0 x23_1).f5) : List Int)).bind fun y133 => (if ((rd_T35 l0 x23_1).f1) = 1 then ((num_Put.f y133 ((rd_T35 l0 x23_1).f6)).bind fun t136 => (flist_Bytes.l0 kj10 t136 ((rd_T35 l0 x23_1).f0) l0 (l0.length : Int) (wrap64 (x23_1 + 1)))) else (flist_Bytes.l0 kj10 y133 ((rd_T35 l0 x23_1).f0) l0 (l0.length : Int) (wrap64 (x23_1 + 1))))) else (none))) else (if y127.length + ((rd_T35 l0 x23_1).f5).size < 140737488355328 then ((some (y127 ++ bytesOf ((rd_T35 l0 x23_1).f5) : List Int)).bind fun y139 => (if ((rd_T35 l0 x23_1).f1) = 1 then ((num_Put.f y139 ((rd_T35 l0 x23_1).f6)).bind fun t142 => (flist_Bytes.l0 kj10 t142 ((rd_T35 l0 x23_1).f0) l0 (l0.length : Int) (wrap64 (x23_1 + 1)))) else (flist_Bytes.l0 kj10 y139 ((rd_T35 l0 x23_1).f0) l0 (l0.length : Int) (wrap64 (x23_1 + 1))))) else (none)))) else (none)))) = some (r1, r2) := H
           have A21 := Aside0.mk A210
           clear A210
           replace H := Option.bind_eq_some_iff.mp H
           obtain ⟨t120, A220, H⟩ := H
           replace H : ((meta_Bytes.f ((rd_T35 l0 x23_1).f3.f0) ((rd_T35 l0 x23_1).f3.f1) ((rd_T35 l0 x23_1).f3.f2) ((rd_T35 l0 x23_1).f3.f3) ((rd_T35 l0 x23_1).f3.f4)).bind fun bt123 => (if t120.length + bt123.1.length < 140737488355328 then ((some (t120 ++ bt123.1 : List Int)).bind fun y127 => (if ((rd_T35 l0 x23_1).f1) = 3 then ((num_PutText.f y127 ((rd_T35 l0 x23_1).f4)).bind fun t130 => (if t130.length + ((rd_T35 l0 x23_1).f5).size < 140737488355328 then ((some (t130 ++ bytesOf ((rd_T35 l0 x23_1).f5) : List Int)).bind fun y133 => (if ((rd_T35 l0 x23_1).f1) = 1 then ((num_Put.f y133 ((rd_T35 l0 x23_1).f6)).bind fun t136 => (flist_Bytes.l0 kj10 t136 ((rd_T35 l0 x23_1).f0) l0 (l0.length : Int) (wrap64 (x23_1 + 1)))) else (flist_Bytes.l0 kj10 y133 ((rd_T35 l0 x23_1).f0) l0 (l0.length : Int) (wrap64 (x23_1 + 1))))) else (none))) else (if y127.length + ((rd_T35 l0 x23_1).f5).size < 140737488355328 then ((some (y127 ++ bytesOf ((rd_T35 l0 x23_1).f5) : List Int)).bind fun y139 => (if ((rd_T35 l0 x23_1).f1) = 1 then ((num_Put.f y139 ((rd_T35 l0 x23_1).f6)).bind fun t142 => (flist_Bytes.l0 kj10 t142 ((rd_T35 l0 x23_1).f0) l0 (l0.length : Int) (wrap64 (x23_1 + 1)))) else (flist_Bytes.l0 kj10 y139 ((rd_T35 l0 x23_1).f0) l0 (l0.length : Int) (wrap64 (x23_1 + 1))))) else (none)))) else (none))) = some (r1, r2) := H
           have A22 := Aside0.mk A220
           clear A220
           replace H := Option.bind_eq_some_iff.mp H
           obtain ⟨⟨t123, t126⟩, A230, H⟩ := H
           replace H : (if t120.length + t123.length < 140737488355328 then ((some (t120 ++ t123 : List Int)).bind fun y127 => (if ((rd_T35 l0 x23_1).f1) = 3 then ((num_PutText.f y127 ((rd_T35 l0 x23_1).f4)).bind fun t130 => (if t130.length + ((rd_T35 l0 x23_1).f5).size < 140737488355328 then ((some (t130 ++ bytesOf ((rd_T35 l0 x23_1).f5) : List Int)).bind fun y133 => (if ((rd_T35 l0 x23_1).f1) = 1 then ((num_Put.f y133 ((rd_T35 l0 x23_1).f6)).bind fun t136 => (flist_Bytes.l0 kj10 t136 ((rd_T35 l0 x23_1).f0) l0 (l0.length : Int) (wrap64 (x23_1 + 1)))) else (flist_Bytes.l0 kj10 y133 ((rd_T35 l0 x23_1).f0) l0 (l0.length : Int) (wrap64 (x23_1 + 1))))) else (none))) else (if y127.length + ((rd_T35 l0 x23_1).f5).size < 140737488355328 then ((some (y127 ++ bytesOf ((rd_T35 l0 x23_1).f5) : List Int)).bind fun y139 => (if ((rd_T35 l0 x23_1).f1) = 1 then ((num_Put.f y139 ((rd_T35 l0 x23_1).f6)).bind fun t142 => (flist_Bytes.l0 kj10 t142 ((rd_T35 l0 x23_1).f0) l0 (l0.length : Int) (wrap64 (x23_1 + 1)))) else (flist_Bytes.l0 kj10 y139 ((rd_T35 l0 x23_1).f0) l0 (l0.length : Int) (wrap64 (x23_1 + 1))))) else (none)))) else (none)) = some (r1, r2) := H
           have A23 := Aside0.mk A230
           clear A230
           by_cases c24 : t120.length + t123.length < 140737488355328
           ·rw [if_pos c24] at H
            have LMc24 := Aside0.mk c24
            clear c24
            obtain ⟨y127, hy127⟩ : ∃ y_ : List Int, y_ = (t120 ++ t123) := ⟨_, rfl⟩
            replace H : (if ((rd_T35 l0 x23_1).f1) = 3 then ((num_PutText.f y127 ((rd_T35 l0 x23_1).f4)).bind fun t130 => (if t130.length + ((rd_T35 l0 x23_1).f5).size < 140737488355328 then ((some (t130 ++ bytesOf ((rd_T35 l0 x23_1).f5) : List Int)).bind fun y133 => (if ((rd_T35 l0 x23_1).f1) = 1 then ((num_Put.f y133 ((rd_T35 l0 x23_1).f6)).bind fun t136 => (flist_Bytes.l0 kj10 t136 ((rd_T35 l0 x23_1).f0) l0 (l0.length : Int) (wrap64 (x23_1 + 1)))) else (flist_Bytes.l0 kj10 y133 ((rd_T35 l0 x23_1).f0) l0 (l0.length : Int) (wrap64 (x23_1 + 1))))) else (none))) else (if y127.length + ((rd_T35 l0 x23_1).f5).size < 140737488355328 then ((some (y127 ++ bytesOf ((rd_T35 l0 x23_1).f5) : List Int)).bind fun y139 => (if ((rd_T35 l0 x23_1).f1) = 1 then ((num_Put.f y139 ((rd_T35 l0 x23_1).f6)).bind fun t142 => (flist_Bytes.l0 kj10 t142 ((rd_T35 l0 x23_1).f0) l0 (l0.length : Int) (wrap64 (x23_1 + 1)))) else (flist_Bytes.l0 kj10 y139 ((rd_T35 l0 x23_1).f0) l0 (l0.length : Int) (wrap64 (x23_1 + 1))))) else (none))) = some (r1, r2) := by first | (rw [hy127]; with_reducible exact H) | (have H2_ := (Option.bind_some _ _).symm.trans H; rw [hy127]; with_reducible exact H2_) | (have H2_ := (Option.bind_some _ _).symm.trans H; with_reducible exact H2_) | with_reducible exact H | (rw [hy127]; exact H) | exact H
            have Ny127 := Aside0.mk hy127
            clear hy127
            by_cases c25 : ((rd_T35 l0 x23_1).f1) = 3
            ·rw [if_pos c25] at H
             have c25b0 : (((rd_T35 l0 x23_1).f1) == 3) = true := beq_iff_eq.mpr c25
             have c25b1 : (((rd_T35 l0 x23_1).f1) != 3) = false := bne_eq_false_iff_eq.mpr c25
             clear c25
             replace H := Option.bind_eq_some_iff.mp H
             obtain ⟨t130, A260, H⟩ := H
             replace H : (if t130.length + ((rd_T35 l0 x23_1).f5).size < 140737488355328 then ((some (t130 ++ bytesOf ((rd_T35 l0 x23_1).f5) : List Int)).bind fun y133 => (if ((rd_T35 l0 x23_1).f1) = 1 then ((num_Put.f y133 ((rd_T35 l0 x23_1).f6)).bind fun t136 => (flist_Bytes.l0 kj10 t136 ((rd_T35 l0 x23_1).f0) l0 (l0.length : Int) (wrap64 (x23_1 + 1)))) else (flist_Bytes.l0 kj10 y133 ((rd_T35 l0 x23_1).f0) l0 (l0.length : Int) (wrap64 (x23_1 + 1))))) else (none)) = some (r1, r2) := H
             have A26 := Aside0.mk A260
             clear A260
             by_cases c27 : t130.length + ((rd_T35 l0 x23_1).f5).size < 140737488355328
             ·rw [if_pos c27] at H
              have LMc27 := Aside0.mk c27
              clear c27
              obtain ⟨y133, hy133⟩ : ∃ y_ : List Int, y_ = (t130 ++ bytesOf ((rd_T35 l0 x23_1).f5)) := ⟨_, rfl⟩
              replace H : (if ((rd_T35 l0 x23_1).f1) = 1 then ((num_Put.f y133 ((rd_T35 l0 x23_1).f6)).bind fun t136 => (flist_Bytes.l0 kj10 t136 ((rd_T35 l0 x23_1).f0) l0 (l0.length : Int) (wrap64 (x23_1 + 1)))) else (flist_Bytes.l0 kj10 y133 ((rd_T35 l0 x23_1).f0) l0 (l0.length : Int) (wrap64 (x23_1 + 1)))) = some (r1, r2) := by first | (rw [hy133]; with_reducible exact H) | (have H2_ := (Option.bind_some _ _).symm.trans H; rw [hy133]; with_reducible exact H2_) | (have H2_ := (Option.bind_some _ _).symm.trans H; with_reducible exact H2_) | with_reducible exact H | (rw [hy133]; exact H) | exact H
              have Ny133 := Aside0.mk hy133
              clear hy133
              by_cases c28 : ((rd_T35 l0 x23_1).f1) = 1
              ·rw [if_pos c28] at H
               have c28b0 : (((rd_T35 l0 x23_1).f1) == 1) = true := beq_iff_eq.mpr c28
               have c28b1 : (((rd_T35 l0 x23_1).f1) != 1) = false := bne_eq_false_iff_eq.mpr c28
               clear c28
               replace H := Option.bind_eq_some_iff.mp H
               obtain ⟨t136, A290, H⟩ := H
               replace H : (flist_Bytes.l0 kj10 t136 ((rd_T35 l0 x23_1).f0) l0 (l0.length : Int) (wrap64 (x23_1 + 1))) = some (r1, r2) := H
               have A29 := Aside0.mk A290
               clear A290
               have H' := Aside0.mk H
               clear H
               try go_wp2
               have n0_ := Aside0.mk (Kd.R_drew HO_5.out)
               have n1_ := Aside0.mk (blk_drew BK109.out)
               have n2_ := Aside0.mk (below_drew1 HB.out)
               clear HO_5
               clear BK109
               clear HB
               have HO_5 := n0_
               have BK109 := n1_
               have HB := n2_
               clear n0_ n1_ n2_
               obtain ⟨Ao31, co31, eo31⟩ := Kd.R_slice HO_5.out
               (first | subst eo31 | (injection eo31 with f1_ f2_ f3_; have f4_ := f1_.symm; have f5_ := f3_.symm; clear f1_ f2_ f3_; subst f4_; subst f5_))
               refine start_ (n := 14) (S := fun w' => w'.cell? ⟨gb109, 0, none⟩ = some (.string ((rd_T35 l0 x23_1).f0)) ∧ w'.cell? ⟨gb109, 1, none⟩ = some (.int .i64 ((rd_T35 l0 x23_1).f1)) ∧ w'.cell? ⟨gb109, 2, none⟩ = some (.int .i64 ((rd_T35 l0 x23_1).f2)) ∧ w'.cell? ⟨gb109, 3, none⟩ = some (.int .i64 ((rd_T35 l0 x23_1).f3.f0)) ∧ w'.cell? ⟨gb109, 4, none⟩ = some (.int .i64 ((rd_T35 l0 x23_1).f3.f1)) ∧ w'.cell? ⟨gb109, 5, none⟩ = some (.int .i64 ((rd_T35 l0 x23_1).f3.f2)) ∧ w'.cell? ⟨gb109, 6, none⟩ = some (.int .i64 ((rd_T35 l0 x23_1).f3.f3)) ∧ w'.cell? ⟨gb109, 7, none⟩ = some (.int .i64 ((rd_T35 l0 x23_1).f3.f4)) ∧ w'.cell? ⟨gb109, 8, none⟩ = some (.string ((rd_T35 l0 x23_1).f4)) ∧ w'.cell? ⟨gb109, 9, none⟩ = some (.string ((rd_T35 l0 x23_1).f5)) ∧ w'.cell? ⟨gb109, 10, none⟩ = some (.int .i64 ((rd_T35 l0 x23_1).f6))) (ds := []) #[false, false, false, false, false, false, false, false, false, false, false, false, false, false] (by kernel_rfl) rfl rfl ⟨(blk_cell BK109.out 0).trans rfl, (blk_cell BK109.out 1).trans rfl, (blk_cell BK109.out 2).trans rfl, (blk_cell BK109.out 3).trans rfl, (blk_cell BK109.out 4).trans rfl, (blk_cell BK109.out 5).trans rfl, (blk_cell BK109.out 6).trans rfl, (blk_cell BK109.out 7).trans rfl, (blk_cell BK109.out 8).trans rfl, (blk_cell BK109.out 9).trans rfl, (blk_cell BK109.out 10).trans rfl⟩ (fun hHeld => ?_); refine with_tabW flist_Bytes.tab14 flist_Bytes.bits14 (fun HT_ HW_ => ?_)
               generalize wc.drew = w30 at HO_5 BK109 HB hHeld ⊢
               refine pure_ (i := 0) (N := some 40) (v := ?_) (a' := ?_) #[true, false, false, false, false, false, false, false, false, false, false, false, false, false] rfl rfl (any_of HT_.out (by kernel_rfl)) (fun _ _ _ h => h) (Or.inl ⟨by rfl, ?_⟩) ?_ ?_
               rotate_left
               ·intro w'
                go_simp
                with_reducible rfl
               rotate_left
               ·simp only [Act.put, List.setIfInBounds_toArray, List.set_cons_zero, List.set_cons_succ, i64_w, i32_w]
                rfl
               refine pure_ (i := 1) (N := some 41) (v := ?_) (a' := ?_) #[true, true, false, false, false, false, false, false, false, false, false, false, false, false] rfl rfl (any_of HT_.out (by kernel_rfl)) (fun _ _ _ h => h) (Or.inl ⟨by rfl, ?_⟩) ?_ ?_
               rotate_left
               ·intro w'
                go_simp
                with_reducible rfl
               rotate_left
               ·simp only [Act.put, List.setIfInBounds_toArray, List.set_cons_zero, List.set_cons_succ, i64_w, i32_w]
                rfl
               refine pure_ (i := 3) (N := some 43) (v := ?_) (a' := ?_) #[true, true, false, true, false, false, false, false, false, false, false, false, false, false] rfl rfl (any_of HT_.out (by kernel_rfl)) (fun _ _ _ h => h) (Or.inl ⟨by rfl, ?_⟩) ?_ ?_
               rotate_left
               ·intro w'
                go_simp
                with_reducible rfl
               rotate_left
               ·simp only [Act.put, List.setIfInBounds_toArray, List.set_cons_zero, List.set_cons_succ, i64_w, i32_w]
                rfl
               refine pure_ (i := 5) (N := some 45) (v := ?_) (a' := ?_) #[true, true, false, true, false, true, false, false, false, false, false, false, false, false] rfl rfl (any_of HT_.out (by kernel_rfl)) (fun _ _ _ h => h) (Or.inl ⟨by rfl, ?_⟩) ?_ ?_
               rotate_left
               ·intro w'
                go_simp
                with_reducible rfl
               rotate_left
               ·simp only [Act.put, List.setIfInBounds_toArray, List.set_cons_zero, List.set_cons_succ, i64_w, i32_w]
                rfl
               refine pure_ (i := 8) (N := some 48) (v := ?_) (a' := ?_) #[true, true, false, true, false, true, false, false, true, false, false, false, false, false] rfl rfl (any_of HT_.out (by kernel_rfl)) (fun _ _ _ h => h) (Or.inl ⟨by rfl, ?_⟩) ?_ ?_
               rotate_left
               ·intro w'
                go_simp
                with_reducible rfl
               rotate_left
               ·simp only [Act.put, List.setIfInBounds_toArray, List.set_cons_zero, List.set_cons_succ, i64_w, i32_w]
                rfl
               refine pure_ (i := 10) (N := some 50) (v := ?_) (a' := ?_) #[true, true, false, true, false, true, false, false, true, false, true, false, false, false] rfl rfl (any_of HT_.out (by kernel_rfl)) (fun _ _ _ h => h) (Or.inl ⟨by rfl, ?_⟩) ?_ ?_
               rotate_left
               ·intro w'
                go_simp
                with_reducible rfl
               rotate_left
               ·simp only [Act.put, List.setIfInBounds_toArray, List.set_cons_zero, List.set_cons_succ, i64_w, i32_w]
                rfl
               refine take_ (i := 4) (N := some 44) (v := ?_) (a' := ?_) #[true, true, false, true, true, true, false, false, true, false, true, false, false, false] rfl rfl (take_ofW HT_.out HW_.out (by kernel_rfl)) (fun _ _ _ h => h) (Or.inl ⟨by rfl, ?_⟩) hHeld ?_ ?_
               rotate_left
               ·rintro w' ⟨s0, s1, s2, s3, s4, s5, s6, s7, s8, s9, s10⟩
                go_simp
                with_reducible rfl
               rotate_left
               ·simp only [Act.put, List.setIfInBounds_toArray, List.set_cons_zero, List.set_cons_succ, i64_w, i32_w]
                rfl
               refine pure_ (i := 6) (N := some 46) (v := ?_) (a' := ?_) #[true, true, false, true, true, true, true, false, true, false, true, false, false, false] rfl rfl (any_of HT_.out (by kernel_rfl)) (fun _ _ _ h => h) (Or.inl ⟨by rfl, ?_⟩) ?_ ?_
               rotate_left
               ·intro w'
                go_simp
                with_reducible rfl
               rotate_left
               ·simp only [Act.put, List.setIfInBounds_toArray, List.set_cons_zero, List.set_cons_succ, i64_w, i32_w]
                rfl
               refine take_ (i := 11) (N := some 51) (v := ?_) (a' := ?_) #[true, true, false, true, true, true, true, false, true, false, true, true, false, false] rfl rfl (take_ofW HT_.out HW_.out (by kernel_rfl)) (fun _ _ _ h => h) (Or.inl ⟨by rfl, ?_⟩) hHeld ?_ ?_
               rotate_left
               ·rintro w' ⟨s0, s1, s2, s3, s4, s5, s6, s7, s8, s9, s10⟩
                go_simp
                with_reducible rfl
               rotate_left
               ·simp only [Act.put, List.setIfInBounds_toArray, List.set_cons_zero, List.set_cons_succ, i64_w, i32_w]
                rfl
               refine one_ (i := 2) (N := some 42) #[true, true, true, true, true, true, true, false, true, false, true, true, false, false] rfl rfl (one_of HT_.out (by kernel_rfl)) (by decide) (fun K hK => ?_)
               refine goes_ Tryd.func33 (by kernel_rfl) rfl #[.slice Ao31 x5_1.length co31, .int .i64 t110] (by rfl) rfl rfl (by (try simp only [List.map_toArray, List.map_cons, List.map_nil]); first | done | rfl | (simp only [List.length_drop, List.length_take]; rfl)) ?_
               with_reducible refine (num_Put.calls _ _ x5_1 t110 t111 _ ?side1 ?side2 A17.out).mono ?_
               (case side1 => repeat (first | exact (Kd.R_reads' HO_5.out).2.2 | (with_reducible refine Kd.C_alloc ?_ _) | (with_reducible refine Kd.C_drewN ?_ _) | (with_reducible refine Kd.C_drew ?_)))
               (case side2 => exact (Kd.R_reads' HO_5.out).2.1)
               rintro e w32 ⟨v112, rfl, ho0, hb⟩
               refine ⟨_, rfl, ?_⟩
               have n0_ := Aside0.mk (Kd.R_elder' (by (with_reducible repeat (first | apply Kd.R_alloc | apply Kd.R_drewN | apply Kd.R_drew)); exact HO_5.out) (Kd.R_base ho0) hb)
               have n1_ := Aside0.mk (Kd.R_lower (Kd.R_new' ho0 (Kd.R_lt (by (with_reducible repeat (first | apply Kd.R_alloc | apply Kd.R_drewN | apply Kd.R_drew)); exact HO_5.out))) (below_size (by repeat (first | (with_reducible first | exact HB.out | apply below_alloc | apply pw_below_drewN | apply below_drew1 | refine below_set ?_ GE109.out) | exact HB.out))))
               have n2_ := Aside0.mk (blk_below (g := gb109) (o := .cells #[.string ((rd_T35 l0 x23_1).f0), .int .i64 ((rd_T35 l0 x23_1).f1), .int .i64 ((rd_T35 l0 x23_1).f2), .int .i64 ((rd_T35 l0 x23_1).f3.f0), .int .i64 ((rd_T35 l0 x23_1).f3.f1), .int .i64 ((rd_T35 l0 x23_1).f3.f2), .int .i64 ((rd_T35 l0 x23_1).f3.f3), .int .i64 ((rd_T35 l0 x23_1).f3.f4), .string ((rd_T35 l0 x23_1).f4), .string ((rd_T35 l0 x23_1).f5), .int .i64 ((rd_T35 l0 x23_1).f6)] 35 (0, 0)) (by (with_reducible repeat (first | refine blk_drewN ?_ _ | refine blk_drew ?_ | refine blk_alloc ?_ _)); exact BK109.out) hb)
               have n3_ := Aside0.mk (below_step (by repeat (first | (with_reducible first | exact HB.out | apply below_alloc | apply pw_below_drewN | apply below_drew1 | refine below_set ?_ GE109.out) | exact HB.out)) hb)
               clear HO_5
               clear BK109
               clear HB
               have HO_5 := n0_
               have HO113 := n1_
               have BK109 := n2_
               have HB := n3_
               clear n0_ n1_ n2_ n3_
               (try clear hb)
               (try clear hb2)
               (try clear hk)
               (try clear hi)
               (try clear ho0)
               obtain ⟨Ao33, co33, eo33⟩ := Kd.R_slice HO113.out
               (first | subst eo33 | (injection eo33 with f1_ f2_ f3_; have f4_ := f1_.symm; have f5_ := f3_.symm; clear f1_ f2_ f3_; subst f4_; subst f5_))
               refine hK.out _ _ ⟨(blk_cell BK109.out 0).trans rfl, (blk_cell BK109.out 1).trans rfl, (blk_cell BK109.out 2).trans rfl, (blk_cell BK109.out 3).trans rfl, (blk_cell BK109.out 4).trans rfl, (blk_cell BK109.out 5).trans rfl, (blk_cell BK109.out 6).trans rfl, (blk_cell BK109.out 7).trans rfl, (blk_cell BK109.out 8).trans rfl, (blk_cell BK109.out 9).trans rfl, (blk_cell BK109.out 10).trans rfl⟩ (fun hHeld => ?_)
               clear hK K
               refine norm_ (a' := ?_) ?_ ?_
               rotate_left
               ·show Act.put _ (some 42) _ = _
                simp only [Act.put, List.setIfInBounds_toArray, List.set_cons_zero, List.set_cons_succ, i64_w, i32_w]
                rfl
               refine one_ (i := 7) (N := some 47) #[true, true, true, true, true, true, true, true, true, false, true, true, false, false] rfl rfl (one_of HT_.out (by kernel_rfl)) (by decide) (fun K hK => ?_)
               refine goes_ Tryd.func35 (by kernel_rfl) rfl #[.slice Ao33 t111.length co33, .string (((rd_T35 l0 x23_1).f0).extract (t110 : Int).toNat ((rd_T35 l0 x23_1).f0).size)] (by rfl) rfl rfl (by (try simp only [List.map_toArray, List.map_cons, List.map_nil]); first | done | rfl | (simp only [List.length_drop, List.length_take]; rfl)) ?_
               with_reducible refine (num_PutText.calls _ _ t111 (((rd_T35 l0 x23_1).f0).extract (t110 : Int).toNat ((rd_T35 l0 x23_1).f0).size) t114 _ ?side1 ?side2 A20.out).mono ?_
               (case side1 => repeat (first | exact (Kd.R_reads' HO113.out).2.2 | (with_reducible refine Kd.C_alloc ?_ _) | (with_reducible refine Kd.C_drewN ?_ _) | (with_reducible refine Kd.C_drew ?_)))
               (case side2 => exact (Kd.R_reads' HO113.out).2.1)
               rintro e w34 ⟨v115, rfl, ho0, hb⟩
               refine ⟨_, rfl, ?_⟩
               have n0_ := Aside0.mk (Kd.R_elder' (by (with_reducible repeat (first | apply Kd.R_alloc | apply Kd.R_drewN | apply Kd.R_drew)); exact HO_5.out) (Kd.R_base ho0) hb)
               have n1_ := Aside0.mk (Kd.R_elder' (by (with_reducible repeat (first | apply Kd.R_alloc | apply Kd.R_drewN | apply Kd.R_drew)); exact HO113.out) (Kd.R_base ho0) hb)
               have n2_ := Aside0.mk (Kd.R_lower (Kd.R_new' (Kd.R_new' ho0 (Kd.R_lt (by (with_reducible repeat (first | apply Kd.R_alloc | apply Kd.R_drewN | apply Kd.R_drew)); exact HO_5.out))) (Kd.R_lt (by (with_reducible repeat (first | apply Kd.R_alloc | apply Kd.R_drewN | apply Kd.R_drew)); exact HO113.out))) (below_size (by repeat (first | (with_reducible first | exact HB.out | apply below_alloc | apply pw_below_drewN | apply below_drew1 | refine below_set ?_ GE109.out) | exact HB.out))))
               have n3_ := Aside0.mk (blk_below (g := gb109) (o := .cells #[.string ((rd_T35 l0 x23_1).f0), .int .i64 ((rd_T35 l0 x23_1).f1), .int .i64 ((rd_T35 l0 x23_1).f2), .int .i64 ((rd_T35 l0 x23_1).f3.f0), .int .i64 ((rd_T35 l0 x23_1).f3.f1), .int .i64 ((rd_T35 l0 x23_1).f3.f2), .int .i64 ((rd_T35 l0 x23_1).f3.f3), .int .i64 ((rd_T35 l0 x23_1).f3.f4), .string ((rd_T35 l0 x23_1).f4), .string ((rd_T35 l0 x23_1).f5), .int .i64 ((rd_T35 l0 x23_1).f6)] 35 (0, 0)) (by (with_reducible repeat (first | refine blk_drewN ?_ _ | refine blk_drew ?_ | refine blk_alloc ?_ _)); exact BK109.out) hb)
               have n4_ := Aside0.mk (below_step (by repeat (first | (with_reducible first | exact HB.out | apply below_alloc | apply pw_below_drewN | apply below_drew1 | refine below_set ?_ GE109.out) | exact HB.out)) hb)
               clear HO_5
               clear HO113
               clear BK109
               clear HB
               have HO_5 := n0_
               have HO113 := n1_
               have HO116 := n2_
               have BK109 := n3_
               have HB := n4_
               clear n0_ n1_ n2_ n3_ n4_
               (try clear hb)
               (try clear hb2)
               (try clear hk)
               (try clear hi)
               (try clear ho0)
               obtain ⟨Ao35, co35, eo35⟩ := Kd.R_slice HO116.out
               (first | subst eo35 | (injection eo35 with f1_ f2_ f3_; have f4_ := f1_.symm; have f5_ := f3_.symm; clear f1_ f2_ f3_; subst f4_; subst f5_))
               refine hK.out _ _ ⟨(blk_cell BK109.out 0).trans rfl, (blk_cell BK109.out 1).trans rfl, (blk_cell BK109.out 2).trans rfl, (blk_cell BK109.out 3).trans rfl, (blk_cell BK109.out 4).trans rfl, (blk_cell BK109.out 5).trans rfl, (blk_cell BK109.out 6).trans rfl, (blk_cell BK109.out 7).trans rfl, (blk_cell BK109.out 8).trans rfl, (blk_cell BK109.out 9).trans rfl, (blk_cell BK109.out 10).trans rfl⟩ (fun hHeld => ?_)
               clear hK K
               refine norm_ (a' := ?_) ?_ ?_
               rotate_left
               ·show Act.put _ (some 47) _ = _
                simp only [Act.put, List.setIfInBounds_toArray, List.set_cons_zero, List.set_cons_succ, i64_w, i32_w]
                rfl
               refine one_ (i := 9) (N := some 49) #[true, true, true, true, true, true, true, true, true, true, true, true, false, false] rfl rfl (one_of HT_.out (by kernel_rfl)) (by decide) (fun K hK => ?_)
               refine goes_ Tryd.func33 (by kernel_rfl) rfl #[.slice Ao35 t114.length co35, .int .i64 x10_10] (by rfl) rfl rfl (by (try simp only [List.map_toArray, List.map_cons, List.map_nil]); first | done | rfl | (simp only [List.length_drop, List.length_take]; rfl)) ?_
               with_reducible refine (num_Put.calls _ _ t114 x10_10 t117 _ ?side1 ?side2 A21.out).mono ?_
               (case side1 => repeat (first | exact (Kd.R_reads' HO116.out).2.2 | (with_reducible refine Kd.C_alloc ?_ _) | (with_reducible refine Kd.C_drewN ?_ _) | (with_reducible refine Kd.C_drew ?_)))
               (case side2 => exact (Kd.R_reads' HO116.out).2.1)
               rintro e w36 ⟨v118, rfl, ho0, hb⟩
               refine ⟨_, rfl, ?_⟩
               have n0_ := Aside0.mk (Kd.R_elder' (by (with_reducible repeat (first | apply Kd.R_alloc | apply Kd.R_drewN | apply Kd.R_drew)); exact HO_5.out) (Kd.R_base ho0) hb)
               have n1_ := Aside0.mk (Kd.R_elder' (by (with_reducible repeat (first | apply Kd.R_alloc | apply Kd.R_drewN | apply Kd.R_drew)); exact HO113.out) (Kd.R_base ho0) hb)
               have n2_ := Aside0.mk (Kd.R_elder' (by (with_reducible repeat (first | apply Kd.R_alloc | apply Kd.R_drewN | apply Kd.R_drew)); exact HO116.out) (Kd.R_base ho0) hb)
               have n3_ := Aside0.mk (Kd.R_lower (Kd.R_new' (Kd.R_new' (Kd.R_new' ho0 (Kd.R_lt (by (with_reducible repeat (first | apply Kd.R_alloc | apply Kd.R_drewN | apply Kd.R_drew)); exact HO_5.out))) (Kd.R_lt (by (with_reducible repeat (first | apply Kd.R_alloc | apply Kd.R_drewN | apply Kd.R_drew)); exact HO113.out))) (Kd.R_lt (by (with_reducible repeat (first | apply Kd.R_alloc | apply Kd.R_drewN | apply Kd.R_drew)); exact HO116.out))) (below_size (by repeat (first | (with_reducible first | exact HB.out | apply below_alloc | apply pw_below_drewN | apply below_drew1 | refine below_set ?_ GE109.out) | exact HB.out))))
               have n4_ := Aside0.mk (blk_below (g := gb109) (o := .cells #[.string ((rd_T35 l0 x23_1).f0), .int .i64 ((rd_T35 l0 x23_1).f1), .int .i64 ((rd_T35 l0 x23_1).f2), .int .i64 ((rd_T35 l0 x23_1).f3.f0), .int .i64 ((rd_T35 l0 x23_1).f3.f1), .int .i64 ((rd_T35 l0 x23_1).f3.f2), .int .i64 ((rd_T35 l0 x23_1).f3.f3), .int .i64 ((rd_T35 l0 x23_1).f3.f4), .string ((rd_T35 l0 x23_1).f4), .string ((rd_T35 l0 x23_1).f5), .int .i64 ((rd_T35 l0 x23_1).f6)] 35 (0, 0)) (by (with_reducible repeat (first | refine blk_drewN ?_ _ | refine blk_drew ?_ | refine blk_alloc ?_ _)); exact BK109.out) hb)
               have n5_ := Aside0.mk (below_step (by repeat (first | (with_reducible first | exact HB.out | apply below_alloc | apply pw_below_drewN | apply below_drew1 | refine below_set ?_ GE109.out) | exact HB.out)) hb)
               clear HO_5
               clear HO113
               clear HO116
               clear BK109
               clear HB
               have HO_5 := n0_
               have HO113 := n1_
               have HO116 := n2_
               have HO119 := n3_
               have BK109 := n4_
               have HB := n5_
               clear n0_ n1_ n2_ n3_ n4_ n5_
               (try clear hb)
               (try clear hb2)
               (try clear hk)
               (try clear hi)
               (try clear ho0)
               obtain ⟨Ao37, co37, eo37⟩ := Kd.R_slice HO119.out
               (first | subst eo37 | (injection eo37 with f1_ f2_ f3_; have f4_ := f1_.symm; have f5_ := f3_.symm; clear f1_ f2_ f3_; subst f4_; subst f5_))
               refine hK.out _ _ ⟨(blk_cell BK109.out 0).trans rfl, (blk_cell BK109.out 1).trans rfl, (blk_cell BK109.out 2).trans rfl, (blk_cell BK109.out 3).trans rfl, (blk_cell BK109.out 4).trans rfl, (blk_cell BK109.out 5).trans rfl, (blk_cell BK109.out 6).trans rfl, (blk_cell BK109.out 7).trans rfl, (blk_cell BK109.out 8).trans rfl, (blk_cell BK109.out 9).trans rfl, (blk_cell BK109.out 10).trans rfl⟩ (fun hHeld => ?_)
               clear hK K
               refine norm_ (a' := ?_) ?_ ?_
               rotate_left
               ·show Act.put _ (some 49) _ = _
                simp only [Act.put, List.setIfInBounds_toArray, List.set_cons_zero, List.set_cons_succ, i64_w, i32_w]
                rfl
               refine one_ (i := 12) (N := some 52) #[true, true, true, true, true, true, true, true, true, true, true, true, true, false] rfl rfl (one_of HT_.out (by kernel_rfl)) (by decide) (fun K hK => ?_)
               refine goes_ Tryd.func33 (by kernel_rfl) rfl #[.slice Ao37 t117.length co37, .int .i64 ((rd_T35 l0 x23_1).f2)] (by rfl) rfl rfl (by (try simp only [List.map_toArray, List.map_cons, List.map_nil]); first | done | rfl | (simp only [List.length_drop, List.length_take]; rfl)) ?_
               with_reducible refine (num_Put.calls _ _ t117 ((rd_T35 l0 x23_1).f2) t120 _ ?side1 ?side2 A22.out).mono ?_
               (case side1 => repeat (first | exact (Kd.R_reads' HO119.out).2.2 | (with_reducible refine Kd.C_alloc ?_ _) | (with_reducible refine Kd.C_drewN ?_ _) | (with_reducible refine Kd.C_drew ?_)))
               (case side2 => exact (Kd.R_reads' HO119.out).2.1)
               rintro e w38 ⟨v121, rfl, ho0, hb⟩
               refine ⟨_, rfl, ?_⟩
               have n0_ := Aside0.mk (Kd.R_elder' (by (with_reducible repeat (first | apply Kd.R_alloc | apply Kd.R_drewN | apply Kd.R_drew)); exact HO_5.out) (Kd.R_base ho0) hb)
               have n1_ := Aside0.mk (Kd.R_elder' (by (with_reducible repeat (first | apply Kd.R_alloc | apply Kd.R_drewN | apply Kd.R_drew)); exact HO113.out) (Kd.R_base ho0) hb)
               have n2_ := Aside0.mk (Kd.R_elder' (by (with_reducible repeat (first | apply Kd.R_alloc | apply Kd.R_drewN | apply Kd.R_drew)); exact HO116.out) (Kd.R_base ho0) hb)
               have n3_ := Aside0.mk (Kd.R_elder' (by (with_reducible repeat (first | apply Kd.R_alloc | apply Kd.R_drewN | apply Kd.R_drew)); exact HO119.out) (Kd.R_base ho0) hb)
               have n4_ := Aside0.mk (Kd.R_lower (Kd.R_new' (Kd.R_new' (Kd.R_new' (Kd.R_new' ho0 (Kd.R_lt (by (with_reducible repeat (first | apply Kd.R_alloc | apply Kd.R_drewN | apply Kd.R_drew)); exact HO_5.out))) (Kd.R_lt (by (with_reducible repeat (first | apply Kd.R_alloc | apply Kd.R_drewN | apply Kd.R_drew)); exact HO113.out))) (Kd.R_lt (by (with_reducible repeat (first | apply Kd.R_alloc | apply Kd.R_drewN | apply Kd.R_drew)); exact HO116.out))) (Kd.R_lt (by (with_reducible repeat (first | apply Kd.R_alloc | apply Kd.R_drewN | apply Kd.R_drew)); exact HO119.out))) (below_size (by repeat (first | (with_reducible first | exact HB.out | apply below_alloc | apply pw_below_drewN | apply below_drew1 | refine below_set ?_ GE109.out) | exact HB.out))))
               have n5_ := Aside0.mk (blk_below (g := gb109) (o := .cells #[.string ((rd_T35 l0 x23_1).f0), .int .i64 ((rd_T35 l0 x23_1).f1), .int .i64 ((rd_T35 l0 x23_1).f2), .int .i64 ((rd_T35 l0 x23_1).f3.f0), .int .i64 ((rd_T35 l0 x23_1).f3.f1), .int .i64 ((rd_T35 l0 x23_1).f3.f2), .int .i64 ((rd_T35 l0 x23_1).f3.f3), .int .i64 ((rd_T35 l0 x23_1).f3.f4), .string ((rd_T35 l0 x23_1).f4), .string ((rd_T35 l0 x23_1).f5), .int .i64 ((rd_T35 l0 x23_1).f6)] 35 (0, 0)) (by (with_reducible repeat (first | refine blk_drewN ?_ _ | refine blk_drew ?_ | refine blk_alloc ?_ _)); exact BK109.out) hb)
               have n6_ := Aside0.mk (below_step (by repeat (first | (with_reducible first | exact HB.out | apply below_alloc | apply pw_below_drewN | apply below_drew1 | refine below_set ?_ GE109.out) | exact HB.out)) hb)
               clear HO_5
               clear HO113
               clear HO116
               clear HO119
               clear BK109
               clear HB
               have HO_5 := n0_
               have HO113 := n1_
               have HO116 := n2_
               have HO119 := n3_
               have HO122 := n4_
               have BK109 := n5_
               have HB := n6_
               clear n0_ n1_ n2_ n3_ n4_ n5_ n6_
               (try clear hb)
               (try clear hb2)
               (try clear hk)
               (try clear hi)
               (try clear ho0)
               refine hK.out _ _ ⟨(blk_cell BK109.out 0).trans rfl, (blk_cell BK109.out 1).trans rfl, (blk_cell BK109.out 2).trans rfl, (blk_cell BK109.out 3).trans rfl, (blk_cell BK109.out 4).trans rfl, (blk_cell BK109.out 5).trans rfl, (blk_cell BK109.out 6).trans rfl, (blk_cell BK109.out 7).trans rfl, (blk_cell BK109.out 8).trans rfl, (blk_cell BK109.out 9).trans rfl, (blk_cell BK109.out 10).trans rfl⟩ (fun hHeld => ?_)
               clear hK K
               refine norm_ (a' := ?_) ?_ ?_
               rotate_left
               ·show Act.put _ (some 52) _ = _
                simp only [Act.put, List.setIfInBounds_toArray, List.set_cons_zero, List.set_cons_succ, i64_w, i32_w]
                rfl
               refine pure_ (i := 13) (N := some 5) (v := ?_) (a' := ?_) #[true, true, true, true, true, true, true, true, true, true, true, true, true, true] rfl rfl (any_of HT_.out (by kernel_rfl)) (fun _ _ _ h => h) (Or.inl ⟨by rfl, ?_⟩) ?_ ?_
               rotate_left
               ·intro w'
                go_simp
                with_reducible rfl
               rotate_left
               ·simp only [Act.put, List.setIfInBounds_toArray, List.set_cons_zero, List.set_cons_succ, i64_w, i32_w]
                rfl
               refine done_ (done_of HT_.out (by kernel_rfl)) ?_
               have hcz39_0 : w38.cell? ⟨gb109, 0, none⟩ = some (.string ((rd_T35 l0 x23_1).f0)) := (blk_cell BK109.out 0).trans rfl
               have hcz39_1 : w38.cell? ⟨gb109, 1, none⟩ = some (.int .i64 ((rd_T35 l0 x23_1).f1)) := (blk_cell BK109.out 1).trans rfl
               have hcz39_2 : w38.cell? ⟨gb109, 2, none⟩ = some (.int .i64 ((rd_T35 l0 x23_1).f2)) := (blk_cell BK109.out 2).trans rfl
               have hcz39_3 : w38.cell? ⟨gb109, 3, none⟩ = some (.int .i64 ((rd_T35 l0 x23_1).f3.f0)) := (blk_cell BK109.out 3).trans rfl
               have hcz39_4 : w38.cell? ⟨gb109, 4, none⟩ = some (.int .i64 ((rd_T35 l0 x23_1).f3.f1)) := (blk_cell BK109.out 4).trans rfl
               have hcz39_5 : w38.cell? ⟨gb109, 5, none⟩ = some (.int .i64 ((rd_T35 l0 x23_1).f3.f2)) := (blk_cell BK109.out 5).trans rfl
               have hcz39_6 : w38.cell? ⟨gb109, 6, none⟩ = some (.int .i64 ((rd_T35 l0 x23_1).f3.f3)) := (blk_cell BK109.out 6).trans rfl
               have hcz39_7 : w38.cell? ⟨gb109, 7, none⟩ = some (.int .i64 ((rd_T35 l0 x23_1).f3.f4)) := (blk_cell BK109.out 7).trans rfl
               have hcz39_8 : w38.cell? ⟨gb109, 8, none⟩ = some (.string ((rd_T35 l0 x23_1).f4)) := (blk_cell BK109.out 8).trans rfl
               have hcz39_9 : w38.cell? ⟨gb109, 9, none⟩ = some (.string ((rd_T35 l0 x23_1).f5)) := (blk_cell BK109.out 9).trans rfl
               have hcz39_10 : w38.cell? ⟨gb109, 10, none⟩ = some (.int .i64 ((rd_T35 l0 x23_1).f6)) := (blk_cell BK109.out 10).trans rfl
               have hfz39_0 := blk_frozen BK109.out 0
               have hfz39_1 := blk_frozen BK109.out 1
               have hfz39_2 := blk_frozen BK109.out 2
               have hfz39_3 := blk_frozen BK109.out 3
               have hfz39_4 := blk_frozen BK109.out 4
               have hfz39_5 := blk_frozen BK109.out 5
               have hfz39_6 := blk_frozen BK109.out 6
               have hfz39_7 := blk_frozen BK109.out 7
               have hfz39_8 := blk_frozen BK109.out 8
               have hfz39_9 := blk_frozen BK109.out 9
               have hfz39_10 := blk_frozen BK109.out 10
               try go_wp2_with (first | ((with_reducible refine gate_callee (f := 36) rfl ?_); refine goesL_ (some 56) rfl rfl Tryd.func36 (by kernel_rfl) rfl #[.agg #[.int .i64 ((rd_T35 l0 x23_1).f3.f0), .int .i64 ((rd_T35 l0 x23_1).f3.f1), .int .i64 ((rd_T35 l0 x23_1).f3.f2), .int .i64 ((rd_T35 l0 x23_1).f3.f3), .int .i64 ((rd_T35 l0 x23_1).f3.f4)]] rfl (by (try simp only [List.map_toArray, List.map_cons, List.map_nil]); first | done | rfl | (simp only [List.length_drop, List.length_take]; rfl)) ?_; (with_reducible refine (meta_Bytes.calls ((rd_T35 l0 x23_1).f3.f0) ((rd_T35 l0 x23_1).f3.f1) ((rd_T35 l0 x23_1).f3.f2) ((rd_T35 l0 x23_1).f3.f3) ((rd_T35 l0 x23_1).f3.f4) t123 t126 _ A23.out).mono ?_); rintro e w40 ⟨v124, rfl, ho0, hb⟩; refine ⟨_, rfl, ?_⟩; have n0_ := Aside0.mk (Kd.R_elder' (by (with_reducible repeat (first | apply Kd.R_alloc | apply Kd.R_drewN | apply Kd.R_drew)); exact HO_5.out) (Kd.R_base ho0) hb); have n1_ := Aside0.mk (Kd.R_elder' (by (with_reducible repeat (first | apply Kd.R_alloc | apply Kd.R_drewN | apply Kd.R_drew)); exact HO113.out) (Kd.R_base ho0) hb); have n2_ := Aside0.mk (Kd.R_elder' (by (with_reducible repeat (first | apply Kd.R_alloc | apply Kd.R_drewN | apply Kd.R_drew)); exact HO116.out) (Kd.R_base ho0) hb); have n3_ := Aside0.mk (Kd.R_elder' (by (with_reducible repeat (first | apply Kd.R_alloc | apply Kd.R_drewN | apply Kd.R_drew)); exact HO119.out) (Kd.R_base ho0) hb); have n4_ := Aside0.mk (Kd.R_elder' (by (with_reducible repeat (first | apply Kd.R_alloc | apply Kd.R_drewN | apply Kd.R_drew)); exact HO122.out) (Kd.R_base ho0) hb); have n5_ := Aside0.mk (Kd.R_lower (Kd.R_new' (Kd.R_new' (Kd.R_new' (Kd.R_new' (Kd.R_new' ho0 (Kd.R_lt (by (with_reducible repeat (first | apply Kd.R_alloc | apply Kd.R_drewN | apply Kd.R_drew)); exact HO_5.out))) (Kd.R_lt (by (with_reducible repeat (first | apply Kd.R_alloc | apply Kd.R_drewN | apply Kd.R_drew)); exact HO113.out))) (Kd.R_lt (by (with_reducible repeat (first | apply Kd.R_alloc | apply Kd.R_drewN | apply Kd.R_drew)); exact HO116.out))) (Kd.R_lt (by (with_reducible repeat (first | apply Kd.R_alloc | apply Kd.R_drewN | apply Kd.R_drew)); exact HO119.out))) (Kd.R_lt (by (with_reducible repeat (first | apply Kd.R_alloc | apply Kd.R_drewN | apply Kd.R_drew)); exact HO122.out))) (below_size (by repeat (first | (with_reducible first | exact HB.out | apply below_alloc | apply pw_below_drewN | apply below_drew1 | refine below_set ?_ GE109.out) | exact HB.out)))); have n6_ := Aside0.mk (blk_below (g := gb109) (o := .cells #[.string ((rd_T35 l0 x23_1).f0), .int .i64 ((rd_T35 l0 x23_1).f1), .int .i64 ((rd_T35 l0 x23_1).f2), .int .i64 ((rd_T35 l0 x23_1).f3.f0), .int .i64 ((rd_T35 l0 x23_1).f3.f1), .int .i64 ((rd_T35 l0 x23_1).f3.f2), .int .i64 ((rd_T35 l0 x23_1).f3.f3), .int .i64 ((rd_T35 l0 x23_1).f3.f4), .string ((rd_T35 l0 x23_1).f4), .string ((rd_T35 l0 x23_1).f5), .int .i64 ((rd_T35 l0 x23_1).f6)] 35 (0, 0)) (by (with_reducible repeat (first | refine blk_drewN ?_ _ | refine blk_drew ?_ | refine blk_alloc ?_ _)); exact BK109.out) hb); have n7_ := Aside0.mk (below_step (by repeat (first | (with_reducible first | exact HB.out | apply below_alloc | apply pw_below_drewN | apply below_drew1 | refine below_set ?_ GE109.out) | exact HB.out)) hb); clear HO_5; clear HO113; clear HO116; clear HO119; clear HO122; clear BK109; clear HB; have HO_5 := n0_; have HO113 := n1_; have HO116 := n2_; have HO119 := n3_; have HO122 := n4_; have HO125 := n5_; have BK109 := n6_; have HB := n7_; clear n0_ n1_ n2_ n3_ n4_ n5_ n6_ n7_; (try clear hb); (try clear hb2); (try clear hk); (try clear hi); (try clear ho0); obtain ⟨Ao42, co42, eo42⟩ := Kd.R_slice HO125.out; subst eo42) | ((with_reducible refine gate_builtin (b := .append) (xs := #[.tmp 59, .tmp 60]) rfl ?_); at_builtin; refine Kd.R_append_rows (Kd.int .u8) (w0 := w) w.heap.size rfl (.tmp 59) (.tmp 60) 27 5 (.int .u8 0) 1 rfl Tryd.underlying27 info5 rfl (by decide) (by omega) v121 t120 t123 _ _ _ (fun k_ => some k_ ≠ (.slice Ao31 x5_1.length co31 : Value).ownBlock ∧ some k_ ≠ (.slice Ao33 t111.length co33 : Value).ownBlock ∧ some k_ ≠ (.slice Ao35 t114.length co35 : Value).ownBlock ∧ some k_ ≠ (.slice Ao37 t117.length co37 : Value).ownBlock ∧ some k_ ≠ (.slice Ao42 t123.length co42 : Value).ownBlock) (fun _ => False) rfl rfl ?aO ?aR (fun _ _ h => h) (fun _ h => h.elim) ?aF ?aB ?aS ?aL ?_; (case aR => repeat (first | exact (Kd.R_reads' HO125.out).2.2 | (with_reducible refine Kd.C_alloc ?_ _) | (with_reducible refine Kd.C_drewN ?_ _) | (with_reducible refine Kd.C_drew ?_))); (case aB => exact (by repeat (first | (with_reducible first | exact HB.out | apply below_alloc | apply pw_below_drewN | apply below_drew1 | refine below_set ?_ GE109.out) | exact HB.out))); (case aF => exact (fun k_ hk => ⟨Kd.fresh' (Kd.R_lt (by (with_reducible repeat (first | apply Kd.R_alloc | apply Kd.R_drewN | apply Kd.R_drew)); exact HO_5.out)) k_ hk, Kd.fresh' (Kd.R_lt (by (with_reducible repeat (first | apply Kd.R_alloc | apply Kd.R_drewN | apply Kd.R_drew)); exact HO113.out)) k_ hk, Kd.fresh' (Kd.R_lt (by (with_reducible repeat (first | apply Kd.R_alloc | apply Kd.R_drewN | apply Kd.R_drew)); exact HO116.out)) k_ hk, Kd.fresh' (Kd.R_lt (by (with_reducible repeat (first | apply Kd.R_alloc | apply Kd.R_drewN | apply Kd.R_drew)); exact HO119.out)) k_ hk, Kd.fresh' (Kd.R_lt (by (with_reducible repeat (first | apply Kd.R_alloc | apply Kd.R_drewN | apply Kd.R_drew)); exact HO125.out)) k_ hk⟩)); (case aO => exact (by (with_reducible repeat (first | apply Kd.R_alloc | apply Kd.R_drewN | apply Kd.R_drew)); exact Kd.R_mono HO122.out (fun _ hk => ⟨hk.1.1.1.1.2, ⟨hk.1.1.1.2, ⟨hk.1.1.2, ⟨hk.1.2, hk.2⟩⟩⟩⟩))); (case aS => exact (below_size (by repeat (first | (with_reducible first | exact HB.out | apply below_alloc | apply pw_below_drewN | apply below_drew1 | refine below_set ?_ GE109.out) | exact HB.out)))); (case aL => have := LMc24.out; omega); intro v128 w41 ho hb hg hat; rw [← Ny127.out] at ho; have n0_ := Aside0.mk (Kd.R_after (ok := (fun k_ => some k_ ≠ (.slice Ao33 t111.length co33 : Value).ownBlock ∧ some k_ ≠ (.slice Ao35 t114.length co35 : Value).ownBlock ∧ some k_ ≠ (.slice Ao37 t117.length co37 : Value).ownBlock ∧ some k_ ≠ (.slice Ao42 t123.length co42 : Value).ownBlock)) (by (with_reducible repeat (first | apply Kd.R_alloc | apply Kd.R_drewN | apply Kd.R_drew)); exact Kd.R_mono HO_5.out (fun _ hk => ⟨⟨hk.1.1.1.1.2, ⟨hk.1.1.1.2, ⟨hk.1.1.2, hk.2⟩⟩⟩, hk.1.2⟩)) hg hat); have n1_ := Aside0.mk (blk_grown (g := gb109) (o := .cells #[.string ((rd_T35 l0 x23_1).f0), .int .i64 ((rd_T35 l0 x23_1).f1), .int .i64 ((rd_T35 l0 x23_1).f2), .int .i64 ((rd_T35 l0 x23_1).f3.f0), .int .i64 ((rd_T35 l0 x23_1).f3.f1), .int .i64 ((rd_T35 l0 x23_1).f3.f2), .int .i64 ((rd_T35 l0 x23_1).f3.f3), .int .i64 ((rd_T35 l0 x23_1).f3.f4), .string ((rd_T35 l0 x23_1).f4), .string ((rd_T35 l0 x23_1).f5), .int .i64 ((rd_T35 l0 x23_1).f6)] 35 (0, 0)) (by (with_reducible repeat (first | refine blk_drewN ?_ _ | refine blk_drew ?_ | refine blk_alloc ?_ _)); exact BK109.out) hg (Kd.R_ne HO122.out BK109.out (by decide))); have n2_ := Aside0.mk (Kd.R_after (ok := (fun k_ => some k_ ≠ (.slice Ao31 x5_1.length co31 : Value).ownBlock ∧ some k_ ≠ (.slice Ao35 t114.length co35 : Value).ownBlock ∧ some k_ ≠ (.slice Ao37 t117.length co37 : Value).ownBlock ∧ some k_ ≠ (.slice Ao42 t123.length co42 : Value).ownBlock)) (by (with_reducible repeat (first | apply Kd.R_alloc | apply Kd.R_drewN | apply Kd.R_drew)); exact Kd.R_mono HO113.out (fun _ hk => ⟨⟨hk.1.1.1.1.2, ⟨hk.1.1.1.2, ⟨hk.1.1.2, hk.2⟩⟩⟩, hk.1.2⟩)) hg hat); have n3_ := Aside0.mk (Kd.R_after (ok := (fun k_ => some k_ ≠ (.slice Ao31 x5_1.length co31 : Value).ownBlock ∧ some k_ ≠ (.slice Ao33 t111.length co33 : Value).ownBlock ∧ some k_ ≠ (.slice Ao37 t117.length co37 : Value).ownBlock ∧ some k_ ≠ (.slice Ao42 t123.length co42 : Value).ownBlock)) (by (with_reducible repeat (first | apply Kd.R_alloc | apply Kd.R_drewN | apply Kd.R_drew)); exact Kd.R_mono HO116.out (fun _ hk => ⟨⟨hk.1.1.1.1.2, ⟨hk.1.1.1.2, ⟨hk.1.1.2, hk.2⟩⟩⟩, hk.1.2⟩)) hg hat); have n4_ := Aside0.mk (Kd.R_after (ok := (fun k_ => some k_ ≠ (.slice Ao31 x5_1.length co31 : Value).ownBlock ∧ some k_ ≠ (.slice Ao33 t111.length co33 : Value).ownBlock ∧ some k_ ≠ (.slice Ao35 t114.length co35 : Value).ownBlock ∧ some k_ ≠ (.slice Ao42 t123.length co42 : Value).ownBlock)) (by (with_reducible repeat (first | apply Kd.R_alloc | apply Kd.R_drewN | apply Kd.R_drew)); exact Kd.R_mono HO119.out (fun _ hk => ⟨⟨hk.1.1.1.1.2, ⟨hk.1.1.1.2, ⟨hk.1.1.2, hk.2⟩⟩⟩, hk.1.2⟩)) hg hat); have n5_ := Aside0.mk (Kd.R_after (ok := (fun k_ => some k_ ≠ (.slice Ao31 x5_1.length co31 : Value).ownBlock ∧ some k_ ≠ (.slice Ao33 t111.length co33 : Value).ownBlock ∧ some k_ ≠ (.slice Ao35 t114.length co35 : Value).ownBlock ∧ some k_ ≠ (.slice Ao37 t117.length co37 : Value).ownBlock)) (by (with_reducible repeat (first | apply Kd.R_alloc | apply Kd.R_drewN | apply Kd.R_drew)); exact Kd.R_mono HO125.out (fun _ hk => ⟨⟨hk.1.1.1.1.2, ⟨hk.1.1.1.2, ⟨hk.1.1.2, hk.1.2⟩⟩⟩, hk.2⟩)) hg hat); have n6_ := Aside0.mk (hb); have n7_ := Aside0.mk (ho); clear HO_5; clear BK109; clear HO113; clear HO116; clear HO119; clear HO125; clear HB; clear HO122; have HO_5 := n0_; have BK109 := n1_; have HO113 := n2_; have HO116 := n3_; have HO119 := n4_; have HO125 := n5_; have HB := n6_; have HO129 := n7_; clear n0_ n1_ n2_ n3_ n4_ n5_ n6_ n7_; clear ho hb hg hat; have hcz43_0 : w41.cell? ⟨gb109, 0, none⟩ = some (.string ((rd_T35 l0 x23_1).f0)) := (blk_cell BK109.out 0).trans rfl; have hcz43_1 : w41.cell? ⟨gb109, 1, none⟩ = some (.int .i64 ((rd_T35 l0 x23_1).f1)) := (blk_cell BK109.out 1).trans rfl; have hcz43_2 : w41.cell? ⟨gb109, 2, none⟩ = some (.int .i64 ((rd_T35 l0 x23_1).f2)) := (blk_cell BK109.out 2).trans rfl; have hcz43_3 : w41.cell? ⟨gb109, 3, none⟩ = some (.int .i64 ((rd_T35 l0 x23_1).f3.f0)) := (blk_cell BK109.out 3).trans rfl; have hcz43_4 : w41.cell? ⟨gb109, 4, none⟩ = some (.int .i64 ((rd_T35 l0 x23_1).f3.f1)) := (blk_cell BK109.out 4).trans rfl; have hcz43_5 : w41.cell? ⟨gb109, 5, none⟩ = some (.int .i64 ((rd_T35 l0 x23_1).f3.f2)) := (blk_cell BK109.out 5).trans rfl; have hcz43_6 : w41.cell? ⟨gb109, 6, none⟩ = some (.int .i64 ((rd_T35 l0 x23_1).f3.f3)) := (blk_cell BK109.out 6).trans rfl; have hcz43_7 : w41.cell? ⟨gb109, 7, none⟩ = some (.int .i64 ((rd_T35 l0 x23_1).f3.f4)) := (blk_cell BK109.out 7).trans rfl; have hcz43_8 : w41.cell? ⟨gb109, 8, none⟩ = some (.string ((rd_T35 l0 x23_1).f4)) := (blk_cell BK109.out 8).trans rfl; have hcz43_9 : w41.cell? ⟨gb109, 9, none⟩ = some (.string ((rd_T35 l0 x23_1).f5)) := (blk_cell BK109.out 9).trans rfl; have hcz43_10 : w41.cell? ⟨gb109, 10, none⟩ = some (.int .i64 ((rd_T35 l0 x23_1).f6)) := (blk_cell BK109.out 10).trans rfl; have hfz43_0 := blk_frozen BK109.out 0; have hfz43_1 := blk_frozen BK109.out 1; have hfz43_2 := blk_frozen BK109.out 2; have hfz43_3 := blk_frozen BK109.out 3; have hfz43_4 := blk_frozen BK109.out 4; have hfz43_5 := blk_frozen BK109.out 5; have hfz43_6 := blk_frozen BK109.out 6; have hfz43_7 := blk_frozen BK109.out 7; have hfz43_8 := blk_frozen BK109.out 8; have hfz43_9 := blk_frozen BK109.out 9; have hfz43_10 := blk_frozen BK109.out 10; obtain ⟨Ao44, co44, eo44⟩ := Kd.R_slice HO129.out; subst eo44) | ((with_reducible refine gate_callee (f := 35) rfl ?_); refine goesL_ (some 68) rfl rfl Tryd.func35 (by kernel_rfl) rfl #[.slice Ao44 y127.length co44, .string ((rd_T35 l0 x23_1).f4)] rfl (by (try simp only [List.map_toArray, List.map_cons, List.map_nil]); first | done | rfl | (simp only [List.length_drop, List.length_take]; rfl)) ?_; (with_reducible refine (num_PutText.calls _ _ y127 ((rd_T35 l0 x23_1).f4) t130 _ ?side1 ?side2 A26.out).mono ?_); (case side1 => repeat (first | exact (Kd.R_reads' HO129.out).2.2 | (with_reducible refine Kd.C_alloc ?_ _) | (with_reducible refine Kd.C_drewN ?_ _) | (with_reducible refine Kd.C_drew ?_))); (case side2 => exact (Kd.R_reads' HO129.out).2.1); rintro e w45 ⟨v131, rfl, ho0, hb⟩; refine ⟨_, rfl, ?_⟩; have n0_ := Aside0.mk (Kd.R_elder' (by (with_reducible repeat (first | apply Kd.R_alloc | apply Kd.R_drewN | apply Kd.R_drew)); exact HO_5.out) (Kd.R_base ho0) hb); have n1_ := Aside0.mk (Kd.R_elder' (by (with_reducible repeat (first | apply Kd.R_alloc | apply Kd.R_drewN | apply Kd.R_drew)); exact HO113.out) (Kd.R_base ho0) hb); have n2_ := Aside0.mk (Kd.R_elder' (by (with_reducible repeat (first | apply Kd.R_alloc | apply Kd.R_drewN | apply Kd.R_drew)); exact HO116.out) (Kd.R_base ho0) hb); have n3_ := Aside0.mk (Kd.R_elder' (by (with_reducible repeat (first | apply Kd.R_alloc | apply Kd.R_drewN | apply Kd.R_drew)); exact HO119.out) (Kd.R_base ho0) hb); have n4_ := Aside0.mk (Kd.R_elder' (by (with_reducible repeat (first | apply Kd.R_alloc | apply Kd.R_drewN | apply Kd.R_drew)); exact HO125.out) (Kd.R_base ho0) hb); have n5_ := Aside0.mk (Kd.R_elder' (by (with_reducible repeat (first | apply Kd.R_alloc | apply Kd.R_drewN | apply Kd.R_drew)); exact HO129.out) (Kd.R_base ho0) hb); have n6_ := Aside0.mk (Kd.R_lower (Kd.R_new' (Kd.R_new' (Kd.R_new' (Kd.R_new' (Kd.R_new' (Kd.R_new' ho0 (Kd.R_lt (by (with_reducible repeat (first | apply Kd.R_alloc | apply Kd.R_drewN | apply Kd.R_drew)); exact HO_5.out))) (Kd.R_lt (by (with_reducible repeat (first | apply Kd.R_alloc | apply Kd.R_drewN | apply Kd.R_drew)); exact HO113.out))) (Kd.R_lt (by (with_reducible repeat (first | apply Kd.R_alloc | apply Kd.R_drewN | apply Kd.R_drew)); exact HO116.out))) (Kd.R_lt (by (with_reducible repeat (first | apply Kd.R_alloc | apply Kd.R_drewN | apply Kd.R_drew)); exact HO119.out))) (Kd.R_lt (by (with_reducible repeat (first | apply Kd.R_alloc | apply Kd.R_drewN | apply Kd.R_drew)); exact HO125.out))) (Kd.R_lt (by (with_reducible repeat (first | apply Kd.R_alloc | apply Kd.R_drewN | apply Kd.R_drew)); exact HO129.out))) (below_size (by repeat (first | (with_reducible first | exact HB.out | apply below_alloc | apply pw_below_drewN | apply below_drew1 | refine below_set ?_ GE109.out) | exact HB.out)))); have n7_ := Aside0.mk (blk_below (g := gb109) (o := .cells #[.string ((rd_T35 l0 x23_1).f0), .int .i64 ((rd_T35 l0 x23_1).f1), .int .i64 ((rd_T35 l0 x23_1).f2), .int .i64 ((rd_T35 l0 x23_1).f3.f0), .int .i64 ((rd_T35 l0 x23_1).f3.f1), .int .i64 ((rd_T35 l0 x23_1).f3.f2), .int .i64 ((rd_T35 l0 x23_1).f3.f3), .int .i64 ((rd_T35 l0 x23_1).f3.f4), .string ((rd_T35 l0 x23_1).f4), .string ((rd_T35 l0 x23_1).f5), .int .i64 ((rd_T35 l0 x23_1).f6)] 35 (0, 0)) (by (with_reducible repeat (first | refine blk_drewN ?_ _ | refine blk_drew ?_ | refine blk_alloc ?_ _)); exact BK109.out) hb); have n8_ := Aside0.mk (below_step (by repeat (first | (with_reducible first | exact HB.out | apply below_alloc | apply pw_below_drewN | apply below_drew1 | refine below_set ?_ GE109.out) | exact HB.out)) hb); clear HO_5; clear HO113; clear HO116; clear HO119; clear HO125; clear HO129; clear BK109; clear HB; have HO_5 := n0_; have HO113 := n1_; have HO116 := n2_; have HO119 := n3_; have HO125 := n4_; have HO129 := n5_; have HO132 := n6_; have BK109 := n7_; have HB := n8_; clear n0_ n1_ n2_ n3_ n4_ n5_ n6_ n7_ n8_; (try clear hb); (try clear hb2); (try clear hk); (try clear hi); (try clear ho0); have hcz46_0 : w45.cell? ⟨gb109, 0, none⟩ = some (.string ((rd_T35 l0 x23_1).f0)) := (blk_cell BK109.out 0).trans rfl; have hcz46_1 : w45.cell? ⟨gb109, 1, none⟩ = some (.int .i64 ((rd_T35 l0 x23_1).f1)) := (blk_cell BK109.out 1).trans rfl; have hcz46_2 : w45.cell? ⟨gb109, 2, none⟩ = some (.int .i64 ((rd_T35 l0 x23_1).f2)) := (blk_cell BK109.out 2).trans rfl; have hcz46_3 : w45.cell? ⟨gb109, 3, none⟩ = some (.int .i64 ((rd_T35 l0 x23_1).f3.f0)) := (blk_cell BK109.out 3).trans rfl; have hcz46_4 : w45.cell? ⟨gb109, 4, none⟩ = some (.int .i64 ((rd_T35 l0 x23_1).f3.f1)) := (blk_cell BK109.out 4).trans rfl; have hcz46_5 : w45.cell? ⟨gb109, 5, none⟩ = some (.int .i64 ((rd_T35 l0 x23_1).f3.f2)) := (blk_cell BK109.out 5).trans rfl; have hcz46_6 : w45.cell? ⟨gb109, 6, none⟩ = some (.int .i64 ((rd_T35 l0 x23_1).f3.f3)) := (blk_cell BK109.out 6).trans rfl; have hcz46_7 : w45.cell? ⟨gb109, 7, none⟩ = some (.int .i64 ((rd_T35 l0 x23_1).f3.f4)) := (blk_cell BK109.out 7).trans rfl; have hcz46_8 : w45.cell? ⟨gb109, 8, none⟩ = some (.string ((rd_T35 l0 x23_1).f4)) := (blk_cell BK109.out 8).trans rfl; have hcz46_9 : w45.cell? ⟨gb109, 9, none⟩ = some (.string ((rd_T35 l0 x23_1).f5)) := (blk_cell BK109.out 9).trans rfl; have hcz46_10 : w45.cell? ⟨gb109, 10, none⟩ = some (.int .i64 ((rd_T35 l0 x23_1).f6)) := (blk_cell BK109.out 10).trans rfl; have hfz46_0 := blk_frozen BK109.out 0; have hfz46_1 := blk_frozen BK109.out 1; have hfz46_2 := blk_frozen BK109.out 2; have hfz46_3 := blk_frozen BK109.out 3; have hfz46_4 := blk_frozen BK109.out 4; have hfz46_5 := blk_frozen BK109.out 5; have hfz46_6 := blk_frozen BK109.out 6; have hfz46_7 := blk_frozen BK109.out 7; have hfz46_8 := blk_frozen BK109.out 8; have hfz46_9 := blk_frozen BK109.out 9; have hfz46_10 := blk_frozen BK109.out 10) | (at_builtin; refine print_append_str (w0 := w) w.heap.size rfl (.tmp 69) _ 27 9 5 rfl Tryd.underlying27 Tryd.underlying9 info5 v131 t130 ((rd_T35 l0 x23_1).f5) rfl rfl ?aO ?aB ?aS ?aL ?_; (case aB => exact (by repeat (first | (with_reducible first | exact HB.out | apply below_alloc | apply pw_below_drewN | apply below_drew1 | refine below_set ?_ GE109.out) | exact HB.out))); (case aO => exact (Kd.own_of_R (by (with_reducible repeat (first | apply Kd.R_alloc | apply Kd.R_drewN | apply Kd.R_drew)); exact Kd.R_mono HO132.out (fun _ hk => trivial)))); (case aS => exact (below_size (by repeat (first | (with_reducible first | exact HB.out | apply below_alloc | apply pw_below_drewN | apply below_drew1 | refine below_set ?_ GE109.out) | exact HB.out)))); (case aL => have := LMc27.out; omega); intro v134 w47 ho0 hb hg; have ho := Kd.R_of_own (h1 := fun _ => rfl) (ok := fun _ => True) ho0 (fun _ _ => trivial); clear ho0; have hat := True.intro; rw [← Ny133.out] at ho; change Kd.R (Kd.int .u8) 5 w47 w.heap.size (fun _ => True) v134 y133 at ho; have n0_ := Aside0.mk (blk_grown (g := gb109) (o := .cells #[.string ((rd_T35 l0 x23_1).f0), .int .i64 ((rd_T35 l0 x23_1).f1), .int .i64 ((rd_T35 l0 x23_1).f2), .int .i64 ((rd_T35 l0 x23_1).f3.f0), .int .i64 ((rd_T35 l0 x23_1).f3.f1), .int .i64 ((rd_T35 l0 x23_1).f3.f2), .int .i64 ((rd_T35 l0 x23_1).f3.f3), .int .i64 ((rd_T35 l0 x23_1).f3.f4), .string ((rd_T35 l0 x23_1).f4), .string ((rd_T35 l0 x23_1).f5), .int .i64 ((rd_T35 l0 x23_1).f6)] 35 (0, 0)) (by (with_reducible repeat (first | refine blk_drewN ?_ _ | refine blk_drew ?_ | refine blk_alloc ?_ _)); exact BK109.out) hg (Kd.R_ne HO132.out BK109.out (by decide))); have n1_ := Aside0.mk (hb); have n2_ := Aside0.mk (ho); clear BK109; clear HB; clear HO132; have BK109 := n0_; have HB := n1_; have HO135 := n2_; clear n0_ n1_ n2_; clear ho hb hg hat; have hcz48_0 : w47.cell? ⟨gb109, 0, none⟩ = some (.string ((rd_T35 l0 x23_1).f0)) := (blk_cell BK109.out 0).trans rfl; have hcz48_1 : w47.cell? ⟨gb109, 1, none⟩ = some (.int .i64 ((rd_T35 l0 x23_1).f1)) := (blk_cell BK109.out 1).trans rfl; have hcz48_2 : w47.cell? ⟨gb109, 2, none⟩ = some (.int .i64 ((rd_T35 l0 x23_1).f2)) := (blk_cell BK109.out 2).trans rfl; have hcz48_3 : w47.cell? ⟨gb109, 3, none⟩ = some (.int .i64 ((rd_T35 l0 x23_1).f3.f0)) := (blk_cell BK109.out 3).trans rfl; have hcz48_4 : w47.cell? ⟨gb109, 4, none⟩ = some (.int .i64 ((rd_T35 l0 x23_1).f3.f1)) := (blk_cell BK109.out 4).trans rfl; have hcz48_5 : w47.cell? ⟨gb109, 5, none⟩ = some (.int .i64 ((rd_T35 l0 x23_1).f3.f2)) := (blk_cell BK109.out 5).trans rfl; have hcz48_6 : w47.cell? ⟨gb109, 6, none⟩ = some (.int .i64 ((rd_T35 l0 x23_1).f3.f3)) := (blk_cell BK109.out 6).trans rfl; have hcz48_7 : w47.cell? ⟨gb109, 7, none⟩ = some (.int .i64 ((rd_T35 l0 x23_1).f3.f4)) := (blk_cell BK109.out 7).trans rfl; have hcz48_8 : w47.cell? ⟨gb109, 8, none⟩ = some (.string ((rd_T35 l0 x23_1).f4)) := (blk_cell BK109.out 8).trans rfl; have hcz48_9 : w47.cell? ⟨gb109, 9, none⟩ = some (.string ((rd_T35 l0 x23_1).f5)) := (blk_cell BK109.out 9).trans rfl; have hcz48_10 : w47.cell? ⟨gb109, 10, none⟩ = some (.int .i64 ((rd_T35 l0 x23_1).f6)) := (blk_cell BK109.out 10).trans rfl; have hfz48_0 := blk_frozen BK109.out 0; have hfz48_1 := blk_frozen BK109.out 1; have hfz48_2 := blk_frozen BK109.out 2; have hfz48_3 := blk_frozen BK109.out 3; have hfz48_4 := blk_frozen BK109.out 4; have hfz48_5 := blk_frozen BK109.out 5; have hfz48_6 := blk_frozen BK109.out 6; have hfz48_7 := blk_frozen BK109.out 7; have hfz48_8 := blk_frozen BK109.out 8; have hfz48_9 := blk_frozen BK109.out 9; have hfz48_10 := blk_frozen BK109.out 10; obtain ⟨Ao49, co49, eo49⟩ := Kd.R_slice HO135.out; subst eo49) | ((with_reducible refine gate_callee (f := 33) rfl ?_); refine goesL_ (some 79) rfl rfl Tryd.func33 (by kernel_rfl) rfl #[.slice Ao49 y133.length co49, .int .i64 ((rd_T35 l0 x23_1).f6)] rfl (by (try simp only [List.map_toArray, List.map_cons, List.map_nil]); first | done | rfl | (simp only [List.length_drop, List.length_take]; rfl)) ?_; (with_reducible refine (num_Put.calls _ _ y133 ((rd_T35 l0 x23_1).f6) t136 _ ?side1 ?side2 A29.out).mono ?_); (case side1 => repeat (first | exact (Kd.R_reads' HO135.out).2.2 | (with_reducible refine Kd.C_alloc ?_ _) | (with_reducible refine Kd.C_drewN ?_ _) | (with_reducible refine Kd.C_drew ?_))); (case side2 => exact (Kd.R_reads' HO135.out).2.1); rintro e w50 ⟨v137, rfl, ho0, hb⟩; refine ⟨_, rfl, ?_⟩; have n0_ := Aside0.mk (Kd.R_elder' (by (with_reducible repeat (first | apply Kd.R_alloc | apply Kd.R_drewN | apply Kd.R_drew)); exact HO135.out) (Kd.R_base ho0) hb); have n1_ := Aside0.mk (Kd.R_lower (Kd.R_new' ho0 (Kd.R_lt (by (with_reducible repeat (first | apply Kd.R_alloc | apply Kd.R_drewN | apply Kd.R_drew)); exact HO135.out))) (below_size (by repeat (first | (with_reducible first | exact HB.out | apply below_alloc | apply pw_below_drewN | apply below_drew1 | refine below_set ?_ GE109.out) | exact HB.out)))); have n2_ := Aside0.mk (blk_below (g := gb109) (o := .cells #[.string ((rd_T35 l0 x23_1).f0), .int .i64 ((rd_T35 l0 x23_1).f1), .int .i64 ((rd_T35 l0 x23_1).f2), .int .i64 ((rd_T35 l0 x23_1).f3.f0), .int .i64 ((rd_T35 l0 x23_1).f3.f1), .int .i64 ((rd_T35 l0 x23_1).f3.f2), .int .i64 ((rd_T35 l0 x23_1).f3.f3), .int .i64 ((rd_T35 l0 x23_1).f3.f4), .string ((rd_T35 l0 x23_1).f4), .string ((rd_T35 l0 x23_1).f5), .int .i64 ((rd_T35 l0 x23_1).f6)] 35 (0, 0)) (by (with_reducible repeat (first | refine blk_drewN ?_ _ | refine blk_drew ?_ | refine blk_alloc ?_ _)); exact BK109.out) hb); have n3_ := Aside0.mk (below_step (by repeat (first | (with_reducible first | exact HB.out | apply below_alloc | apply pw_below_drewN | apply below_drew1 | refine below_set ?_ GE109.out) | exact HB.out)) hb); clear HO135; clear BK109; clear HB; have HO135 := n0_; have HO138 := n1_; have BK109 := n2_; have HB := n3_; clear n0_ n1_ n2_ n3_; (try clear hb); (try clear hb2); (try clear hk); (try clear hi); (try clear ho0)))
               go_roundg kj10
               case measure => have := HK1.out; have := HJ10.out; omega
               case rel => exact ⟨(t136), (((rd_T35 l0 x23_1).f0)), (wrap64 (x23_1 + 1)), (by first | rfl | (simp; done) | (simp [*]; done)), (by first | rfl | (simp; done) | (simp [*]; done)), H', ⟨by have := HK1.out; have := HJ10.out; omega⟩, ⟨by (with_reducible repeat (first | apply Kd.R_alloc | apply Kd.R_drewN | apply Kd.R_drew)); exact Kd.R_mono HO138.out (fun _ hk => trivial)⟩, ⟨by repeat (first | (with_reducible first | exact HB.out | apply below_alloc | apply pw_below_drewN | apply below_drew1 | refine below_set ?_ GE109.out) | exact HB.out)⟩⟩
              ·rw [if_neg c28] at H
               have c28b0 : (((rd_T35 l0 x23_1).f1) == 1) = false := beq_eq_false_iff_ne.mpr c28
               have c28b1 : (((rd_T35 l0 x23_1).f1) != 1) = true := bne_iff_ne.mpr c28
               have H' := Aside0.mk H
               clear H
               try go_wp2
               have n0_ := Aside0.mk (Kd.R_drew HO_5.out)
               have n1_ := Aside0.mk (blk_drew BK109.out)
               have n2_ := Aside0.mk (below_drew1 HB.out)
               clear HO_5
               clear BK109
               clear HB
               have HO_5 := n0_
               have BK109 := n1_
               have HB := n2_
               clear n0_ n1_ n2_
               obtain ⟨Ao52, co52, eo52⟩ := Kd.R_slice HO_5.out
               (first | subst eo52 | (injection eo52 with f1_ f2_ f3_; have f4_ := f1_.symm; have f5_ := f3_.symm; clear f1_ f2_ f3_; subst f4_; subst f5_))
               refine start_ (n := 14) (S := fun w' => w'.cell? ⟨gb109, 0, none⟩ = some (.string ((rd_T35 l0 x23_1).f0)) ∧ w'.cell? ⟨gb109, 1, none⟩ = some (.int .i64 ((rd_T35 l0 x23_1).f1)) ∧ w'.cell? ⟨gb109, 2, none⟩ = some (.int .i64 ((rd_T35 l0 x23_1).f2)) ∧ w'.cell? ⟨gb109, 3, none⟩ = some (.int .i64 ((rd_T35 l0 x23_1).f3.f0)) ∧ w'.cell? ⟨gb109, 4, none⟩ = some (.int .i64 ((rd_T35 l0 x23_1).f3.f1)) ∧ w'.cell? ⟨gb109, 5, none⟩ = some (.int .i64 ((rd_T35 l0 x23_1).f3.f2)) ∧ w'.cell? ⟨gb109, 6, none⟩ = some (.int .i64 ((rd_T35 l0 x23_1).f3.f3)) ∧ w'.cell? ⟨gb109, 7, none⟩ = some (.int .i64 ((rd_T35 l0 x23_1).f3.f4)) ∧ w'.cell? ⟨gb109, 8, none⟩ = some (.string ((rd_T35 l0 x23_1).f4)) ∧ w'.cell? ⟨gb109, 9, none⟩ = some (.string ((rd_T35 l0 x23_1).f5)) ∧ w'.cell? ⟨gb109, 10, none⟩ = some (.int .i64 ((rd_T35 l0 x23_1).f6))) (ds := []) #[false, false, false, false, false, false, false, false, false, false, false, false, false, false] (by kernel_rfl) rfl rfl ⟨(blk_cell BK109.out 0).trans rfl, (blk_cell BK109.out 1).trans rfl, (blk_cell BK109.out 2).trans rfl, (blk_cell BK109.out 3).trans rfl, (blk_cell BK109.out 4).trans rfl, (blk_cell BK109.out 5).trans rfl, (blk_cell BK109.out 6).trans rfl, (blk_cell BK109.out 7).trans rfl, (blk_cell BK109.out 8).trans rfl, (blk_cell BK109.out 9).trans rfl, (blk_cell BK109.out 10).trans rfl⟩ (fun hHeld => ?_); refine with_tabW flist_Bytes.tab14 flist_Bytes.bits14 (fun HT_ HW_ => ?_)
               generalize wc.drew = w51 at HO_5 BK109 HB hHeld ⊢
               refine pure_ (i := 0) (N := some 40) (v := ?_) (a' := ?_) #[true, false, false, false, false, false, false, false, false, false, false, false, false, false] rfl rfl (any_of HT_.out (by kernel_rfl)) (fun _ _ _ h => h) (Or.inl ⟨by rfl, ?_⟩) ?_ ?_
               rotate_left
               ·intro w'
                go_simp
                with_reducible rfl
               rotate_left
               ·simp only [Act.put, List.setIfInBounds_toArray, List.set_cons_zero, List.set_cons_succ, i64_w, i32_w]
                rfl
               refine pure_ (i := 1) (N := some 41) (v := ?_) (a' := ?_) #[true, true, false, false, false, false, false, false, false, false, false, false, false, false] rfl rfl (any_of HT_.out (by kernel_rfl)) (fun _ _ _ h => h) (Or.inl ⟨by rfl, ?_⟩) ?_ ?_
               rotate_left
               ·intro w'
                go_simp
                with_reducible rfl
               rotate_left
               ·simp only [Act.put, List.setIfInBounds_toArray, List.set_cons_zero, List.set_cons_succ, i64_w, i32_w]
                rfl
               refine pure_ (i := 3) (N := some 43) (v := ?_) (a' := ?_) #[true, true, false, true, false, false, false, false, false, false, false, false, false, false] rfl rfl (any_of HT_.out (by kernel_rfl)) (fun _ _ _ h => h) (Or.inl ⟨by rfl, ?_⟩) ?_ ?_
               rotate_left
               ·intro w'
                go_simp
                with_reducible rfl
               rotate_left
               ·simp only [Act.put, List.setIfInBounds_toArray, List.set_cons_zero, List.set_cons_succ, i64_w, i32_w]
                rfl
               refine pure_ (i := 5) (N := some 45) (v := ?_) (a' := ?_) #[true, true, false, true, false, true, false, false, false, false, false, false, false, false] rfl rfl (any_of HT_.out (by kernel_rfl)) (fun _ _ _ h => h) (Or.inl ⟨by rfl, ?_⟩) ?_ ?_
               rotate_left
               ·intro w'
                go_simp
                with_reducible rfl
               rotate_left
               ·simp only [Act.put, List.setIfInBounds_toArray, List.set_cons_zero, List.set_cons_succ, i64_w, i32_w]
                rfl
               refine pure_ (i := 8) (N := some 48) (v := ?_) (a' := ?_) #[true, true, false, true, false, true, false, false, true, false, false, false, false, false] rfl rfl (any_of HT_.out (by kernel_rfl)) (fun _ _ _ h => h) (Or.inl ⟨by rfl, ?_⟩) ?_ ?_
               rotate_left
               ·intro w'
                go_simp
                with_reducible rfl
               rotate_left
               ·simp only [Act.put, List.setIfInBounds_toArray, List.set_cons_zero, List.set_cons_succ, i64_w, i32_w]
                rfl
               refine pure_ (i := 10) (N := some 50) (v := ?_) (a' := ?_) #[true, true, false, true, false, true, false, false, true, false, true, false, false, false] rfl rfl (any_of HT_.out (by kernel_rfl)) (fun _ _ _ h => h) (Or.inl ⟨by rfl, ?_⟩) ?_ ?_
               rotate_left
               ·intro w'
                go_simp
                with_reducible rfl
               rotate_left
               ·simp only [Act.put, List.setIfInBounds_toArray, List.set_cons_zero, List.set_cons_succ, i64_w, i32_w]
                rfl
               refine take_ (i := 4) (N := some 44) (v := ?_) (a' := ?_) #[true, true, false, true, true, true, false, false, true, false, true, false, false, false] rfl rfl (take_ofW HT_.out HW_.out (by kernel_rfl)) (fun _ _ _ h => h) (Or.inl ⟨by rfl, ?_⟩) hHeld ?_ ?_
               rotate_left
               ·rintro w' ⟨s0, s1, s2, s3, s4, s5, s6, s7, s8, s9, s10⟩
                go_simp
                with_reducible rfl
               rotate_left
               ·simp only [Act.put, List.setIfInBounds_toArray, List.set_cons_zero, List.set_cons_succ, i64_w, i32_w]
                rfl
               refine pure_ (i := 6) (N := some 46) (v := ?_) (a' := ?_) #[true, true, false, true, true, true, true, false, true, false, true, false, false, false] rfl rfl (any_of HT_.out (by kernel_rfl)) (fun _ _ _ h => h) (Or.inl ⟨by rfl, ?_⟩) ?_ ?_
               rotate_left
               ·intro w'
                go_simp
                with_reducible rfl
               rotate_left
               ·simp only [Act.put, List.setIfInBounds_toArray, List.set_cons_zero, List.set_cons_succ, i64_w, i32_w]
                rfl
               refine take_ (i := 11) (N := some 51) (v := ?_) (a' := ?_) #[true, true, false, true, true, true, true, false, true, false, true, true, false, false] rfl rfl (take_ofW HT_.out HW_.out (by kernel_rfl)) (fun _ _ _ h => h) (Or.inl ⟨by rfl, ?_⟩) hHeld ?_ ?_
               rotate_left
               ·rintro w' ⟨s0, s1, s2, s3, s4, s5, s6, s7, s8, s9, s10⟩
                go_simp
                with_reducible rfl
               rotate_left
               ·simp only [Act.put, List.setIfInBounds_toArray, List.set_cons_zero, List.set_cons_succ, i64_w, i32_w]
                rfl
               refine one_ (i := 2) (N := some 42) #[true, true, true, true, true, true, true, false, true, false, true, true, false, false] rfl rfl (one_of HT_.out (by kernel_rfl)) (by decide) (fun K hK => ?_)
               refine goes_ Tryd.func33 (by kernel_rfl) rfl #[.slice Ao52 x5_1.length co52, .int .i64 t110] (by rfl) rfl rfl (by (try simp only [List.map_toArray, List.map_cons, List.map_nil]); first | done | rfl | (simp only [List.length_drop, List.length_take]; rfl)) ?_
               with_reducible refine (num_Put.calls _ _ x5_1 t110 t111 _ ?side1 ?side2 A17.out).mono ?_
               (case side1 => repeat (first | exact (Kd.R_reads' HO_5.out).2.2 | (with_reducible refine Kd.C_alloc ?_ _) | (with_reducible refine Kd.C_drewN ?_ _) | (with_reducible refine Kd.C_drew ?_)))
               (case side2 => exact (Kd.R_reads' HO_5.out).2.1)
               rintro e w53 ⟨v112, rfl, ho0, hb⟩
               refine ⟨_, rfl, ?_⟩
               have n0_ := Aside0.mk (Kd.R_elder' (by (with_reducible repeat (first | apply Kd.R_alloc | apply Kd.R_drewN | apply Kd.R_drew)); exact HO_5.out) (Kd.R_base ho0) hb)
               have n1_ := Aside0.mk (Kd.R_lower (Kd.R_new' ho0 (Kd.R_lt (by (with_reducible repeat (first | apply Kd.R_alloc | apply Kd.R_drewN | apply Kd.R_drew)); exact HO_5.out))) (below_size (by repeat (first | (with_reducible first | exact HB.out | apply below_alloc | apply pw_below_drewN | apply below_drew1 | refine below_set ?_ GE109.out) | exact HB.out))))
               have n2_ := Aside0.mk (blk_below (g := gb109) (o := .cells #[.string ((rd_T35 l0 x23_1).f0), .int .i64 ((rd_T35 l0 x23_1).f1), .int .i64 ((rd_T35 l0 x23_1).f2), .int .i64 ((rd_T35 l0 x23_1).f3.f0), .int .i64 ((rd_T35 l0 x23_1).f3.f1), .int .i64 ((rd_T35 l0 x23_1).f3.f2), .int .i64 ((rd_T35 l0 x23_1).f3.f3), .int .i64 ((rd_T35 l0 x23_1).f3.f4), .string ((rd_T35 l0 x23_1).f4), .string ((rd_T35 l0 x23_1).f5), .int .i64 ((rd_T35 l0 x23_1).f6)] 35 (0, 0)) (by (with_reducible repeat (first | refine blk_drewN ?_ _ | refine blk_drew ?_ | refine blk_alloc ?_ _)); exact BK109.out) hb)
               have n3_ := Aside0.mk (below_step (by repeat (first | (with_reducible first | exact HB.out | apply below_alloc | apply pw_below_drewN | apply below_drew1 | refine below_set ?_ GE109.out) | exact HB.out)) hb)
               clear HO_5
               clear BK109
               clear HB
               have HO_5 := n0_
               have HO113 := n1_
               have BK109 := n2_
               have HB := n3_
               clear n0_ n1_ n2_ n3_
               (try clear hb)
               (try clear hb2)
               (try clear hk)
               (try clear hi)
               (try clear ho0)
               obtain ⟨Ao54, co54, eo54⟩ := Kd.R_slice HO113.out
               (first | subst eo54 | (injection eo54 with f1_ f2_ f3_; have f4_ := f1_.symm; have f5_ := f3_.symm; clear f1_ f2_ f3_; subst f4_; subst f5_))
               refine hK.out _ _ ⟨(blk_cell BK109.out 0).trans rfl, (blk_cell BK109.out 1).trans rfl, (blk_cell BK109.out 2).trans rfl, (blk_cell BK109.out 3).trans rfl, (blk_cell BK109.out 4).trans rfl, (blk_cell BK109.out 5).trans rfl, (blk_cell BK109.out 6).trans rfl, (blk_cell BK109.out 7).trans rfl, (blk_cell BK109.out 8).trans rfl, (blk_cell BK109.out 9).trans rfl, (blk_cell BK109.out 10).trans rfl⟩ (fun hHeld => ?_)
               clear hK K
               refine norm_ (a' := ?_) ?_ ?_
               rotate_left
               ·show Act.put _ (some 42) _ = _
                simp only [Act.put, List.setIfInBounds_toArray, List.set_cons_zero, List.set_cons_succ, i64_w, i32_w]
                rfl
               refine one_ (i := 7) (N := some 47) #[true, true, true, true, true, true, true, true, true, false, true, true, false, false] rfl rfl (one_of HT_.out (by kernel_rfl)) (by decide) (fun K hK => ?_)
               refine goes_ Tryd.func35 (by kernel_rfl) rfl #[.slice Ao54 t111.length co54, .string (((rd_T35 l0 x23_1).f0).extract (t110 : Int).toNat ((rd_T35 l0 x23_1).f0).size)] (by rfl) rfl rfl (by (try simp only [List.map_toArray, List.map_cons, List.map_nil]); first | done | rfl | (simp only [List.length_drop, List.length_take]; rfl)) ?_
               with_reducible refine (num_PutText.calls _ _ t111 (((rd_T35 l0 x23_1).f0).extract (t110 : Int).toNat ((rd_T35 l0 x23_1).f0).size) t114 _ ?side1 ?side2 A20.out).mono ?_
               (case side1 => repeat (first | exact (Kd.R_reads' HO113.out).2.2 | (with_reducible refine Kd.C_alloc ?_ _) | (with_reducible refine Kd.C_drewN ?_ _) | (with_reducible refine Kd.C_drew ?_)))
               (case side2 => exact (Kd.R_reads' HO113.out).2.1)
               rintro e w55 ⟨v115, rfl, ho0, hb⟩
               refine ⟨_, rfl, ?_⟩
               have n0_ := Aside0.mk (Kd.R_elder' (by (with_reducible repeat (first | apply Kd.R_alloc | apply Kd.R_drewN | apply Kd.R_drew)); exact HO_5.out) (Kd.R_base ho0) hb)
               have n1_ := Aside0.mk (Kd.R_elder' (by (with_reducible repeat (first | apply Kd.R_alloc | apply Kd.R_drewN | apply Kd.R_drew)); exact HO113.out) (Kd.R_base ho0) hb)
               have n2_ := Aside0.mk (Kd.R_lower (Kd.R_new' (Kd.R_new' ho0 (Kd.R_lt (by (with_reducible repeat (first | apply Kd.R_alloc | apply Kd.R_drewN | apply Kd.R_drew)); exact HO_5.out))) (Kd.R_lt (by (with_reducible repeat (first | apply Kd.R_alloc | apply Kd.R_drewN | apply Kd.R_drew)); exact HO113.out))) (below_size (by repeat (first | (with_reducible first | exact HB.out | apply below_alloc | apply pw_below_drewN | apply below_drew1 | refine below_set ?_ GE109.out) | exact HB.out))))
               have n3_ := Aside0.mk (blk_below (g := gb109) (o := .cells #[.string ((rd_T35 l0 x23_1).f0), .int .i64 ((rd_T35 l0 x23_1).f1), .int .i64 ((rd_T35 l0 x23_1).f2), .int .i64 ((rd_T35 l0 x23_1).f3.f0), .int .i64 ((rd_T35 l0 x23_1).f3.f1), .int .i64 ((rd_T35 l0 x23_1).f3.f2), .int .i64 ((rd_T35 l0 x23_1).f3.f3), .int .i64 ((rd_T35 l0 x23_1).f3.f4), .string ((rd_T35 l0 x23_1).f4), .string ((rd_T35 l0 x23_1).f5), .int .i64 ((rd_T35 l0 x23_1).f6)] 35 (0, 0)) (by (with_reducible repeat (first | refine blk_drewN ?_ _ | refine blk_drew ?_ | refine blk_alloc ?_ _)); exact BK109.out) hb)
               have n4_ := Aside0.mk (below_step (by repeat (first | (with_reducible first | exact HB.out | apply below_alloc | apply pw_below_drewN | apply below_drew1 | refine below_set ?_ GE109.out) | exact HB.out)) hb)
               clear HO_5
               clear HO113
               clear BK109
               clear HB
               have HO_5 := n0_
               have HO113 := n1_
               have HO116 := n2_
               have BK109 := n3_
               have HB := n4_
               clear n0_ n1_ n2_ n3_ n4_
               (try clear hb)
               (try clear hb2)
               (try clear hk)
               (try clear hi)
               (try clear ho0)
               obtain ⟨Ao56, co56, eo56⟩ := Kd.R_slice HO116.out
               (first | subst eo56 | (injection eo56 with f1_ f2_ f3_; have f4_ := f1_.symm; have f5_ := f3_.symm; clear f1_ f2_ f3_; subst f4_; subst f5_))
               refine hK.out _ _ ⟨(blk_cell BK109.out 0).trans rfl, (blk_cell BK109.out 1).trans rfl, (blk_cell BK109.out 2).trans rfl, (blk_cell BK109.out 3).trans rfl, (blk_cell BK109.out 4).trans rfl, (blk_cell BK109.out 5).trans rfl, (blk_cell BK109.out 6).trans rfl, (blk_cell BK109.out 7).trans rfl, (blk_cell BK109.out 8).trans rfl, (blk_cell BK109.out 9).trans rfl, (blk_cell BK109.out 10).trans rfl⟩ (fun hHeld => ?_)
               clear hK K
               refine norm_ (a' := ?_) ?_ ?_
               rotate_left
               ·show Act.put _ (some 47) _ = _
                simp only [Act.put, List.setIfInBounds_toArray, List.set_cons_zero, List.set_cons_succ, i64_w, i32_w]
                rfl
               refine one_ (i := 9) (N := some 49) #[true, true, true, true, true, true, true, true, true, true, true, true, false, false] rfl rfl (one_of HT_.out (by kernel_rfl)) (by decide) (fun K hK => ?_)
               refine goes_ Tryd.func33 (by kernel_rfl) rfl #[.slice Ao56 t114.length co56, .int .i64 x10_10] (by rfl) rfl rfl (by (try simp only [List.map_toArray, List.map_cons, List.map_nil]); first | done | rfl | (simp only [List.length_drop, List.length_take]; rfl)) ?_
               with_reducible refine (num_Put.calls _ _ t114 x10_10 t117 _ ?side1 ?side2 A21.out).mono ?_
               (case side1 => repeat (first | exact (Kd.R_reads' HO116.out).2.2 | (with_reducible refine Kd.C_alloc ?_ _) | (with_reducible refine Kd.C_drewN ?_ _) | (with_reducible refine Kd.C_drew ?_)))
               (case side2 => exact (Kd.R_reads' HO116.out).2.1)
               rintro e w57 ⟨v118, rfl, ho0, hb⟩
               refine ⟨_, rfl, ?_⟩
               have n0_ := Aside0.mk (Kd.R_elder' (by (with_reducible repeat (first | apply Kd.R_alloc | apply Kd.R_drewN | apply Kd.R_drew)); exact HO_5.out) (Kd.R_base ho0) hb)
               have n1_ := Aside0.mk (Kd.R_elder' (by (with_reducible repeat (first | apply Kd.R_alloc | apply Kd.R_drewN | apply Kd.R_drew)); exact HO113.out) (Kd.R_base ho0) hb)
               have n2_ := Aside0.mk (Kd.R_elder' (by (with_reducible repeat (first | apply Kd.R_alloc | apply Kd.R_drewN | apply Kd.R_drew)); exact HO116.out) (Kd.R_base ho0) hb)
               have n3_ := Aside0.mk (Kd.R_lower (Kd.R_new' (Kd.R_new' (Kd.R_new' ho0 (Kd.R_lt (by (with_reducible repeat (first | apply Kd.R_alloc | apply Kd.R_drewN | apply Kd.R_drew)); exact HO_5.out))) (Kd.R_lt (by (with_reducible repeat (first | apply Kd.R_alloc | apply Kd.R_drewN | apply Kd.R_drew)); exact HO113.out))) (Kd.R_lt (by (with_reducible repeat (first | apply Kd.R_alloc | apply Kd.R_drewN | apply Kd.R_drew)); exact HO116.out))) (below_size (by repeat (first | (with_reducible first | exact HB.out | apply below_alloc | apply pw_below_drewN | apply below_drew1 | refine below_set ?_ GE109.out) | exact HB.out))))
               have n4_ := Aside0.mk (blk_below (g := gb109) (o := .cells #[.string ((rd_T35 l0 x23_1).f0), .int .i64 ((rd_T35 l0 x23_1).f1), .int .i64 ((rd_T35 l0 x23_1).f2), .int .i64 ((rd_T35 l0 x23_1).f3.f0), .int .i64 ((rd_T35 l0 x23_1).f3.f1), .int .i64 ((rd_T35 l0 x23_1).f3.f2), .int .i64 ((rd_T35 l0 x23_1).f3.f3), .int .i64 ((rd_T35 l0 x23_1).f3.f4), .string ((rd_T35 l0 x23_1).f4), .string ((rd_T35 l0 x23_1).f5), .int .i64 ((rd_T35 l0 x23_1).f6)] 35 (0, 0)) (by (with_reducible repeat (first | refine blk_drewN ?_ _ | refine blk_drew ?_ | refine blk_alloc ?_ _)); exact BK109.out) hb)
               have n5_ := Aside0.mk (below_step (by repeat (first | (with_reducible first | exact HB.out | apply below_alloc | apply pw_below_drewN | apply below_drew1 | refine below_set ?_ GE109.out) | exact HB.out)) hb)
               clear HO_5
               clear HO113
               clear HO116
               clear BK109
               clear HB
               have HO_5 := n0_
               have HO113 := n1_
               have HO116 := n2_
               have HO119 := n3_
               have BK109 := n4_
               have HB := n5_
               clear n0_ n1_ n2_ n3_ n4_ n5_
               (try clear hb)
               (try clear hb2)
               (try clear hk)
               (try clear hi)
               (try clear ho0)
               obtain ⟨Ao58, co58, eo58⟩ := Kd.R_slice HO119.out
               (first | subst eo58 | (injection eo58 with f1_ f2_ f3_; have f4_ := f1_.symm; have f5_ := f3_.symm; clear f1_ f2_ f3_; subst f4_; subst f5_))
               refine hK.out _ _ ⟨(blk_cell BK109.out 0).trans rfl, (blk_cell BK109.out 1).trans rfl, (blk_cell BK109.out 2).trans rfl, (blk_cell BK109.out 3).trans rfl, (blk_cell BK109.out 4).trans rfl, (blk_cell BK109.out 5).trans rfl, (blk_cell BK109.out 6).trans rfl, (blk_cell BK109.out 7).trans rfl, (blk_cell BK109.out 8).trans rfl, (blk_cell BK109.out 9).trans rfl, (blk_cell BK109.out 10).trans rfl⟩ (fun hHeld => ?_)
               clear hK K
               refine norm_ (a' := ?_) ?_ ?_
               rotate_left
               ·show Act.put _ (some 49) _ = _
                simp only [Act.put, List.setIfInBounds_toArray, List.set_cons_zero, List.set_cons_succ, i64_w, i32_w]
                rfl
               refine one_ (i := 12) (N := some 52) #[true, true, true, true, true, true, true, true, true, true, true, true, true, false] rfl rfl (one_of HT_.out (by kernel_rfl)) (by decide) (fun K hK => ?_)
               refine goes_ Tryd.func33 (by kernel_rfl) rfl #[.slice Ao58 t117.length co58, .int .i64 ((rd_T35 l0 x23_1).f2)] (by rfl) rfl rfl (by (try simp only [List.map_toArray, List.map_cons, List.map_nil]); first | done | rfl | (simp only [List.length_drop, List.length_take]; rfl)) ?_
               with_reducible refine (num_Put.calls _ _ t117 ((rd_T35 l0 x23_1).f2) t120 _ ?side1 ?side2 A22.out).mono ?_
               (case side1 => repeat (first | exact (Kd.R_reads' HO119.out).2.2 | (with_reducible refine Kd.C_alloc ?_ _) | (with_reducible refine Kd.C_drewN ?_ _) | (with_reducible refine Kd.C_drew ?_)))
               (case side2 => exact (Kd.R_reads' HO119.out).2.1)
               rintro e w59 ⟨v121, rfl, ho0, hb⟩
               refine ⟨_, rfl, ?_⟩
               have n0_ := Aside0.mk (Kd.R_elder' (by (with_reducible repeat (first | apply Kd.R_alloc | apply Kd.R_drewN | apply Kd.R_drew)); exact HO_5.out) (Kd.R_base ho0) hb)
               have n1_ := Aside0.mk (Kd.R_elder' (by (with_reducible repeat (first | apply Kd.R_alloc | apply Kd.R_drewN | apply Kd.R_drew)); exact HO113.out) (Kd.R_base ho0) hb)
               have n2_ := Aside0.mk (Kd.R_elder' (by (with_reducible repeat (first | apply Kd.R_alloc | apply Kd.R_drewN | apply Kd.R_drew)); exact HO116.out) (Kd.R_base ho0) hb)
               have n3_ := Aside0.mk (Kd.R_elder' (by (with_reducible repeat (first | apply Kd.R_alloc | apply Kd.R_drewN | apply Kd.R_drew)); exact HO119.out) (Kd.R_base ho0) hb)
               have n4_ := Aside0.mk (Kd.R_lower (Kd.R_new' (Kd.R_new' (Kd.R_new' (Kd.R_new' ho0 (Kd.R_lt (by (with_reducible repeat (first | apply Kd.R_alloc | apply Kd.R_drewN | apply Kd.R_drew)); exact HO_5.out))) (Kd.R_lt (by (with_reducible repeat (first | apply Kd.R_alloc | apply Kd.R_drewN | apply Kd.R_drew)); exact HO113.out))) (Kd.R_lt (by (with_reducible repeat (first | apply Kd.R_alloc | apply Kd.R_drewN | apply Kd.R_drew)); exact HO116.out))) (Kd.R_lt (by (with_reducible repeat (first | apply Kd.R_alloc | apply Kd.R_drewN | apply Kd.R_drew)); exact HO119.out))) (below_size (by repeat (first | (with_reducible first | exact HB.out | apply below_alloc | apply pw_below_drewN | apply below_drew1 | refine below_set ?_ GE109.out) | exact HB.out))))
               have n5_ := Aside0.mk (blk_below (g := gb109) (o := .cells #[.string ((rd_T35 l0 x23_1).f0), .int .i64 ((rd_T35 l0 x23_1).f1), .int .i64 ((rd_T35 l0 x23_1).f2), .int .i64 ((rd_T35 l0 x23_1).f3.f0), .int .i64 ((rd_T35 l0 x23_1).f3.f1), .int .i64 ((rd_T35 l0 x23_1).f3.f2), .int .i64 ((rd_T35 l0 x23_1).f3.f3), .int .i64 ((rd_T35 l0 x23_1).f3.f4), .string ((rd_T35 l0 x23_1).f4), .string ((rd_T35 l0 x23_1).f5), .int .i64 ((rd_T35 l0 x23_1).f6)] 35 (0, 0)) (by (with_reducible repeat (first | refine blk_drewN ?_ _ | refine blk_drew ?_ | refine blk_alloc ?_ _)); exact BK109.out) hb)
               have n6_ := Aside0.mk (below_step (by repeat (first | (with_reducible first | exact HB.out | apply below_alloc | apply pw_below_drewN | apply below_drew1 | refine below_set ?_ GE109.out) | exact HB.out)) hb)
               clear HO_5
               clear HO113
               clear HO116
               clear HO119
               clear BK109
               clear HB
               have HO_5 := n0_
               have HO113 := n1_
               have HO116 := n2_
               have HO119 := n3_
               have HO122 := n4_
               have BK109 := n5_
               have HB := n6_
               clear n0_ n1_ n2_ n3_ n4_ n5_ n6_
               (try clear hb)
               (try clear hb2)
               (try clear hk)
               (try clear hi)
               (try clear ho0)
               refine hK.out _ _ ⟨(blk_cell BK109.out 0).trans rfl, (blk_cell BK109.out 1).trans rfl, (blk_cell BK109.out 2).trans rfl, (blk_cell BK109.out 3).trans rfl, (blk_cell BK109.out 4).trans rfl, (blk_cell BK109.out 5).trans rfl, (blk_cell BK109.out 6).trans rfl, (blk_cell BK109.out 7).trans rfl, (blk_cell BK109.out 8).trans rfl, (blk_cell BK109.out 9).trans rfl, (blk_cell BK109.out 10).trans rfl⟩ (fun hHeld => ?_)
               clear hK K
               refine norm_ (a' := ?_) ?_ ?_
               rotate_left
               ·show Act.put _ (some 52) _ = _
                simp only [Act.put, List.setIfInBounds_toArray, List.set_cons_zero, List.set_cons_succ, i64_w, i32_w]
                rfl
               refine pure_ (i := 13) (N := some 5) (v := ?_) (a' := ?_) #[true, true, true, true, true, true, true, true, true, true, true, true, true, true] rfl rfl (any_of HT_.out (by kernel_rfl)) (fun _ _ _ h => h) (Or.inl ⟨by rfl, ?_⟩) ?_ ?_
               rotate_left
               ·intro w'
                go_simp
                with_reducible rfl
               rotate_left
               ·simp only [Act.put, List.setIfInBounds_toArray, List.set_cons_zero, List.set_cons_succ, i64_w, i32_w]
                rfl
               refine done_ (done_of HT_.out (by kernel_rfl)) ?_
               have hcz60_0 : w59.cell? ⟨gb109, 0, none⟩ = some (.string ((rd_T35 l0 x23_1).f0)) := (blk_cell BK109.out 0).trans rfl
               have hcz60_1 : w59.cell? ⟨gb109, 1, none⟩ = some (.int .i64 ((rd_T35 l0 x23_1).f1)) := (blk_cell BK109.out 1).trans rfl
               have hcz60_2 : w59.cell? ⟨gb109, 2, none⟩ = some (.int .i64 ((rd_T35 l0 x23_1).f2)) := (blk_cell BK109.out 2).trans rfl
               have hcz60_3 : w59.cell? ⟨gb109, 3, none⟩ = some (.int .i64 ((rd_T35 l0 x23_1).f3.f0)) := (blk_cell BK109.out 3).trans rfl
               have hcz60_4 : w59.cell? ⟨gb109, 4, none⟩ = some (.int .i64 ((rd_T35 l0 x23_1).f3.f1)) := (blk_cell BK109.out 4).trans rfl
               have hcz60_5 : w59.cell? ⟨gb109, 5, none⟩ = some (.int .i64 ((rd_T35 l0 x23_1).f3.f2)) := (blk_cell BK109.out 5).trans rfl
               have hcz60_6 : w59.cell? ⟨gb109, 6, none⟩ = some (.int .i64 ((rd_T35 l0 x23_1).f3.f3)) := (blk_cell BK109.out 6).trans rfl
               have hcz60_7 : w59.cell? ⟨gb109, 7, none⟩ = some (.int .i64 ((rd_T35 l0 x23_1).f3.f4)) := (blk_cell BK109.out 7).trans rfl
               have hcz60_8 : w59.cell? ⟨gb109, 8, none⟩ = some (.string ((rd_T35 l0 x23_1).f4)) := (blk_cell BK109.out 8).trans rfl
               have hcz60_9 : w59.cell? ⟨gb109, 9, none⟩ = some (.string ((rd_T35 l0 x23_1).f5)) := (blk_cell BK109.out 9).trans rfl
               have hcz60_10 : w59.cell? ⟨gb109, 10, none⟩ = some (.int .i64 ((rd_T35 l0 x23_1).f6)) := (blk_cell BK109.out 10).trans rfl
               have hfz60_0 := blk_frozen BK109.out 0
               have hfz60_1 := blk_frozen BK109.out 1
               have hfz60_2 := blk_frozen BK109.out 2
               have hfz60_3 := blk_frozen BK109.out 3
               have hfz60_4 := blk_frozen BK109.out 4
               have hfz60_5 := blk_frozen BK109.out 5
               have hfz60_6 := blk_frozen BK109.out 6
               have hfz60_7 := blk_frozen BK109.out 7
               have hfz60_8 := blk_frozen BK109.out 8
               have hfz60_9 := blk_frozen BK109.out 9
               have hfz60_10 := blk_frozen BK109.out 10
               try go_wp2_with (first | ((with_reducible refine gate_callee (f := 36) rfl ?_); refine goesL_ (some 56) rfl rfl Tryd.func36 (by kernel_rfl) rfl #[.agg #[.int .i64 ((rd_T35 l0 x23_1).f3.f0), .int .i64 ((rd_T35 l0 x23_1).f3.f1), .int .i64 ((rd_T35 l0 x23_1).f3.f2), .int .i64 ((rd_T35 l0 x23_1).f3.f3), .int .i64 ((rd_T35 l0 x23_1).f3.f4)]] rfl (by (try simp only [List.map_toArray, List.map_cons, List.map_nil]); first | done | rfl | (simp only [List.length_drop, List.length_take]; rfl)) ?_; (with_reducible refine (meta_Bytes.calls ((rd_T35 l0 x23_1).f3.f0) ((rd_T35 l0 x23_1).f3.f1) ((rd_T35 l0 x23_1).f3.f2) ((rd_T35 l0 x23_1).f3.f3) ((rd_T35 l0 x23_1).f3.f4) t123 t126 _ A23.out).mono ?_); rintro e w61 ⟨v124, rfl, ho0, hb⟩; refine ⟨_, rfl, ?_⟩; have n0_ := Aside0.mk (Kd.R_elder' (by (with_reducible repeat (first | apply Kd.R_alloc | apply Kd.R_drewN | apply Kd.R_drew)); exact HO_5.out) (Kd.R_base ho0) hb); have n1_ := Aside0.mk (Kd.R_elder' (by (with_reducible repeat (first | apply Kd.R_alloc | apply Kd.R_drewN | apply Kd.R_drew)); exact HO113.out) (Kd.R_base ho0) hb); have n2_ := Aside0.mk (Kd.R_elder' (by (with_reducible repeat (first | apply Kd.R_alloc | apply Kd.R_drewN | apply Kd.R_drew)); exact HO116.out) (Kd.R_base ho0) hb); have n3_ := Aside0.mk (Kd.R_elder' (by (with_reducible repeat (first | apply Kd.R_alloc | apply Kd.R_drewN | apply Kd.R_drew)); exact HO119.out) (Kd.R_base ho0) hb); have n4_ := Aside0.mk (Kd.R_elder' (by (with_reducible repeat (first | apply Kd.R_alloc | apply Kd.R_drewN | apply Kd.R_drew)); exact HO122.out) (Kd.R_base ho0) hb); have n5_ := Aside0.mk (Kd.R_lower (Kd.R_new' (Kd.R_new' (Kd.R_new' (Kd.R_new' (Kd.R_new' ho0 (Kd.R_lt (by (with_reducible repeat (first | apply Kd.R_alloc | apply Kd.R_drewN | apply Kd.R_drew)); exact HO_5.out))) (Kd.R_lt (by (with_reducible repeat (first | apply Kd.R_alloc | apply Kd.R_drewN | apply Kd.R_drew)); exact HO113.out))) (Kd.R_lt (by (with_reducible repeat (first | apply Kd.R_alloc | apply Kd.R_drewN | apply Kd.R_drew)); exact HO116.out))) (Kd.R_lt (by (with_reducible repeat (first | apply Kd.R_alloc | apply Kd.R_drewN | apply Kd.R_drew)); exact HO119.out))) (Kd.R_lt (by (with_reducible repeat (first | apply Kd.R_alloc | apply Kd.R_drewN | apply Kd.R_drew)); exact HO122.out))) (below_size (by repeat (first | (with_reducible first | exact HB.out | apply below_alloc | apply pw_below_drewN | apply below_drew1 | refine below_set ?_ GE109.out) | exact HB.out)))); have n6_ := Aside0.mk (blk_below (g := gb109) (o := .cells #[.string ((rd_T35 l0 x23_1).f0), .int .i64 ((rd_T35 l0 x23_1).f1), .int .i64 ((rd_T35 l0 x23_1).f2), .int .i64 ((rd_T35 l0 x23_1).f3.f0), .int .i64 ((rd_T35 l0 x23_1).f3.f1), .int .i64 ((rd_T35 l0 x23_1).f3.f2), .int .i64 ((rd_T35 l0 x23_1).f3.f3), .int .i64 ((rd_T35 l0 x23_1).f3.f4), .string ((rd_T35 l0 x23_1).f4), .string ((rd_T35 l0 x23_1).f5), .int .i64 ((rd_T35 l0 x23_1).f6)] 35 (0, 0)) (by (with_reducible repeat (first | refine blk_drewN ?_ _ | refine blk_drew ?_ | refine blk_alloc ?_ _)); exact BK109.out) hb); have n7_ := Aside0.mk (below_step (by repeat (first | (with_reducible first | exact HB.out | apply below_alloc | apply pw_below_drewN | apply below_drew1 | refine below_set ?_ GE109.out) | exact HB.out)) hb); clear HO_5; clear HO113; clear HO116; clear HO119; clear HO122; clear BK109; clear HB; have HO_5 := n0_; have HO113 := n1_; have HO116 := n2_; have HO119 := n3_; have HO122 := n4_; have HO125 := n5_; have BK109 := n6_; have HB := n7_; clear n0_ n1_ n2_ n3_ n4_ n5_ n6_ n7_; (try clear hb); (try clear hb2); (try clear hk); (try clear hi); (try clear ho0); obtain ⟨Ao63, co63, eo63⟩ := Kd.R_slice HO125.out; subst eo63) | ((with_reducible refine gate_builtin (b := .append) (xs := #[.tmp 59, .tmp 60]) rfl ?_); at_builtin; refine Kd.R_append_rows (Kd.int .u8) (w0 := w) w.heap.size rfl (.tmp 59) (.tmp 60) 27 5 (.int .u8 0) 1 rfl Tryd.underlying27 info5 rfl (by decide) (by omega) v121 t120 t123 _ _ _ (fun k_ => some k_ ≠ (.slice Ao52 x5_1.length co52 : Value).ownBlock ∧ some k_ ≠ (.slice Ao54 t111.length co54 : Value).ownBlock ∧ some k_ ≠ (.slice Ao56 t114.length co56 : Value).ownBlock ∧ some k_ ≠ (.slice Ao58 t117.length co58 : Value).ownBlock ∧ some k_ ≠ (.slice Ao63 t123.length co63 : Value).ownBlock) (fun _ => False) rfl rfl ?aO ?aR (fun _ _ h => h) (fun _ h => h.elim) ?aF ?aB ?aS ?aL ?_; (case aR => repeat (first | exact (Kd.R_reads' HO125.out).2.2 | (with_reducible refine Kd.C_alloc ?_ _) | (with_reducible refine Kd.C_drewN ?_ _) | (with_reducible refine Kd.C_drew ?_))); (case aB => exact (by repeat (first | (with_reducible first | exact HB.out | apply below_alloc | apply pw_below_drewN | apply below_drew1 | refine below_set ?_ GE109.out) | exact HB.out))); (case aF => exact (fun k_ hk => ⟨Kd.fresh' (Kd.R_lt (by (with_reducible repeat (first | apply Kd.R_alloc | apply Kd.R_drewN | apply Kd.R_drew)); exact HO_5.out)) k_ hk, Kd.fresh' (Kd.R_lt (by (with_reducible repeat (first | apply Kd.R_alloc | apply Kd.R_drewN | apply Kd.R_drew)); exact HO113.out)) k_ hk, Kd.fresh' (Kd.R_lt (by (with_reducible repeat (first | apply Kd.R_alloc | apply Kd.R_drewN | apply Kd.R_drew)); exact HO116.out)) k_ hk, Kd.fresh' (Kd.R_lt (by (with_reducible repeat (first | apply Kd.R_alloc | apply Kd.R_drewN | apply Kd.R_drew)); exact HO119.out)) k_ hk, Kd.fresh' (Kd.R_lt (by (with_reducible repeat (first | apply Kd.R_alloc | apply Kd.R_drewN | apply Kd.R_drew)); exact HO125.out)) k_ hk⟩)); (case aO => exact (by (with_reducible repeat (first | apply Kd.R_alloc | apply Kd.R_drewN | apply Kd.R_drew)); exact Kd.R_mono HO122.out (fun _ hk => ⟨hk.1.1.1.1.2, ⟨hk.1.1.1.2, ⟨hk.1.1.2, ⟨hk.1.2, hk.2⟩⟩⟩⟩))); (case aS => exact (below_size (by repeat (first | (with_reducible first | exact HB.out | apply below_alloc | apply pw_below_drewN | apply below_drew1 | refine below_set ?_ GE109.out) | exact HB.out)))); (case aL => have := LMc24.out; omega); intro v128 w62 ho hb hg hat; rw [← Ny127.out] at ho; have n0_ := Aside0.mk (Kd.R_after (ok := (fun k_ => some k_ ≠ (.slice Ao54 t111.length co54 : Value).ownBlock ∧ some k_ ≠ (.slice Ao56 t114.length co56 : Value).ownBlock ∧ some k_ ≠ (.slice Ao58 t117.length co58 : Value).ownBlock ∧ some k_ ≠ (.slice Ao63 t123.length co63 : Value).ownBlock)) (by (with_reducible repeat (first | apply Kd.R_alloc | apply Kd.R_drewN | apply Kd.R_drew)); exact Kd.R_mono HO_5.out (fun _ hk => ⟨⟨hk.1.1.1.1.2, ⟨hk.1.1.1.2, ⟨hk.1.1.2, hk.2⟩⟩⟩, hk.1.2⟩)) hg hat); have n1_ := Aside0.mk (blk_grown (g := gb109) (o := .cells #[.string ((rd_T35 l0 x23_1).f0), .int .i64 ((rd_T35 l0 x23_1).f1), .int .i64 ((rd_T35 l0 x23_1).f2), .int .i64 ((rd_T35 l0 x23_1).f3.f0), .int .i64 ((rd_T35 l0 x23_1).f3.f1), .int .i64 ((rd_T35 l0 x23_1).f3.f2), .int .i64 ((rd_T35 l0 x23_1).f3.f3), .int .i64 ((rd_T35 l0 x23_1).f3.f4), .string ((rd_T35 l0 x23_1).f4), .string ((rd_T35 l0 x23_1).f5), .int .i64 ((rd_T35 l0 x23_1).f6)] 35 (0, 0)) (by (with_reducible repeat (first | refine blk_drewN ?_ _ | refine blk_drew ?_ | refine blk_alloc ?_ _)); exact BK109.out) hg (Kd.R_ne HO122.out BK109.out (by decide))); have n2_ := Aside0.mk (Kd.R_after (ok := (fun k_ => some k_ ≠ (.slice Ao52 x5_1.length co52 : Value).ownBlock ∧ some k_ ≠ (.slice Ao56 t114.length co56 : Value).ownBlock ∧ some k_ ≠ (.slice Ao58 t117.length co58 : Value).ownBlock ∧ some k_ ≠ (.slice Ao63 t123.length co63 : Value).ownBlock)) (by (with_reducible repeat (first | apply Kd.R_alloc | apply Kd.R_drewN | apply Kd.R_drew)); exact Kd.R_mono HO113.out (fun _ hk => ⟨⟨hk.1.1.1.1.2, ⟨hk.1.1.1.2, ⟨hk.1.1.2, hk.2⟩⟩⟩, hk.1.2⟩)) hg hat); have n3_ := Aside0.mk (Kd.R_after (ok := (fun k_ => some k_ ≠ (.slice Ao52 x5_1.length co52 : Value).ownBlock ∧ some k_ ≠ (.slice Ao54 t111.length co54 : Value).ownBlock ∧ some k_ ≠ (.slice Ao58 t117.length co58 : Value).ownBlock ∧ some k_ ≠ (.slice Ao63 t123.length co63 : Value).ownBlock)) (by (with_reducible repeat (first | apply Kd.R_alloc | apply Kd.R_drewN | apply Kd.R_drew)); exact Kd.R_mono HO116.out (fun _ hk => ⟨⟨hk.1.1.1.1.2, ⟨hk.1.1.1.2, ⟨hk.1.1.2, hk.2⟩⟩⟩, hk.1.2⟩)) hg hat); have n4_ := Aside0.mk (Kd.R_after (ok := (fun k_ => some k_ ≠ (.slice Ao52 x5_1.length co52 : Value).ownBlock ∧ some k_ ≠ (.slice Ao54 t111.length co54 : Value).ownBlock ∧ some k_ ≠ (.slice Ao56 t114.length co56 : Value).ownBlock ∧ some k_ ≠ (.slice Ao63 t123.length co63 : Value).ownBlock)) (by (with_reducible repeat (first | apply Kd.R_alloc | apply Kd.R_drewN | apply Kd.R_drew)); exact Kd.R_mono HO119.out (fun _ hk => ⟨⟨hk.1.1.1.1.2, ⟨hk.1.1.1.2, ⟨hk.1.1.2, hk.2⟩⟩⟩, hk.1.2⟩)) hg hat); have n5_ := Aside0.mk (Kd.R_after (ok := (fun k_ => some k_ ≠ (.slice Ao52 x5_1.length co52 : Value).ownBlock ∧ some k_ ≠ (.slice Ao54 t111.length co54 : Value).ownBlock ∧ some k_ ≠ (.slice Ao56 t114.length co56 : Value).ownBlock ∧ some k_ ≠ (.slice Ao58 t117.length co58 : Value).ownBlock)) (by (with_reducible repeat (first | apply Kd.R_alloc | apply Kd.R_drewN | apply Kd.R_drew)); exact Kd.R_mono HO125.out (fun _ hk => ⟨⟨hk.1.1.1.1.2, ⟨hk.1.1.1.2, ⟨hk.1.1.2, hk.1.2⟩⟩⟩, hk.2⟩)) hg hat); have n6_ := Aside0.mk (hb); have n7_ := Aside0.mk (ho); clear HO_5; clear BK109; clear HO113; clear HO116; clear HO119; clear HO125; clear HB; clear HO122; have HO_5 := n0_; have BK109 := n1_; have HO113 := n2_; have HO116 := n3_; have HO119 := n4_; have HO125 := n5_; have HB := n6_; have HO129 := n7_; clear n0_ n1_ n2_ n3_ n4_ n5_ n6_ n7_; clear ho hb hg hat; have hcz64_0 : w62.cell? ⟨gb109, 0, none⟩ = some (.string ((rd_T35 l0 x23_1).f0)) := (blk_cell BK109.out 0).trans rfl; have hcz64_1 : w62.cell? ⟨gb109, 1, none⟩ = some (.int .i64 ((rd_T35 l0 x23_1).f1)) := (blk_cell BK109.out 1).trans rfl; have hcz64_2 : w62.cell? ⟨gb109, 2, none⟩ = some (.int .i64 ((rd_T35 l0 x23_1).f2)) := (blk_cell BK109.out 2).trans rfl; have hcz64_3 : w62.cell? ⟨gb109, 3, none⟩ = some (.int .i64 ((rd_T35 l0 x23_1).f3.f0)) := (blk_cell BK109.out 3).trans rfl; have hcz64_4 : w62.cell? ⟨gb109, 4, none⟩ = some (.int .i64 ((rd_T35 l0 x23_1).f3.f1)) := (blk_cell BK109.out 4).trans rfl; have hcz64_5 : w62.cell? ⟨gb109, 5, none⟩ = some (.int .i64 ((rd_T35 l0 x23_1).f3.f2)) := (blk_cell BK109.out 5).trans rfl; have hcz64_6 : w62.cell? ⟨gb109, 6, none⟩ = some (.int .i64 ((rd_T35 l0 x23_1).f3.f3)) := (blk_cell BK109.out 6).trans rfl; have hcz64_7 : w62.cell? ⟨gb109, 7, none⟩ = some (.int .i64 ((rd_T35 l0 x23_1).f3.f4)) := (blk_cell BK109.out 7).trans rfl; have hcz64_8 : w62.cell? ⟨gb109, 8, none⟩ = some (.string ((rd_T35 l0 x23_1).f4)) := (blk_cell BK109.out 8).trans rfl; have hcz64_9 : w62.cell? ⟨gb109, 9, none⟩ = some (.string ((rd_T35 l0 x23_1).f5)) := (blk_cell BK109.out 9).trans rfl; have hcz64_10 : w62.cell? ⟨gb109, 10, none⟩ = some (.int .i64 ((rd_T35 l0 x23_1).f6)) := (blk_cell BK109.out 10).trans rfl; have hfz64_0 := blk_frozen BK109.out 0; have hfz64_1 := blk_frozen BK109.out 1; have hfz64_2 := blk_frozen BK109.out 2; have hfz64_3 := blk_frozen BK109.out 3; have hfz64_4 := blk_frozen BK109.out 4; have hfz64_5 := blk_frozen BK109.out 5; have hfz64_6 := blk_frozen BK109.out 6; have hfz64_7 := blk_frozen BK109.out 7; have hfz64_8 := blk_frozen BK109.out 8; have hfz64_9 := blk_frozen BK109.out 9; have hfz64_10 := blk_frozen BK109.out 10; obtain ⟨Ao65, co65, eo65⟩ := Kd.R_slice HO129.out; subst eo65) | ((with_reducible refine gate_callee (f := 35) rfl ?_); refine goesL_ (some 68) rfl rfl Tryd.func35 (by kernel_rfl) rfl #[.slice Ao65 y127.length co65, .string ((rd_T35 l0 x23_1).f4)] rfl (by (try simp only [List.map_toArray, List.map_cons, List.map_nil]); first | done | rfl | (simp only [List.length_drop, List.length_take]; rfl)) ?_; (with_reducible refine (num_PutText.calls _ _ y127 ((rd_T35 l0 x23_1).f4) t130 _ ?side1 ?side2 A26.out).mono ?_); (case side1 => repeat (first | exact (Kd.R_reads' HO129.out).2.2 | (with_reducible refine Kd.C_alloc ?_ _) | (with_reducible refine Kd.C_drewN ?_ _) | (with_reducible refine Kd.C_drew ?_))); (case side2 => exact (Kd.R_reads' HO129.out).2.1); rintro e w66 ⟨v131, rfl, ho0, hb⟩; refine ⟨_, rfl, ?_⟩; have n0_ := Aside0.mk (Kd.R_elder' (by (with_reducible repeat (first | apply Kd.R_alloc | apply Kd.R_drewN | apply Kd.R_drew)); exact HO_5.out) (Kd.R_base ho0) hb); have n1_ := Aside0.mk (Kd.R_elder' (by (with_reducible repeat (first | apply Kd.R_alloc | apply Kd.R_drewN | apply Kd.R_drew)); exact HO113.out) (Kd.R_base ho0) hb); have n2_ := Aside0.mk (Kd.R_elder' (by (with_reducible repeat (first | apply Kd.R_alloc | apply Kd.R_drewN | apply Kd.R_drew)); exact HO116.out) (Kd.R_base ho0) hb); have n3_ := Aside0.mk (Kd.R_elder' (by (with_reducible repeat (first | apply Kd.R_alloc | apply Kd.R_drewN | apply Kd.R_drew)); exact HO119.out) (Kd.R_base ho0) hb); have n4_ := Aside0.mk (Kd.R_elder' (by (with_reducible repeat (first | apply Kd.R_alloc | apply Kd.R_drewN | apply Kd.R_drew)); exact HO125.out) (Kd.R_base ho0) hb); have n5_ := Aside0.mk (Kd.R_elder' (by (with_reducible repeat (first | apply Kd.R_alloc | apply Kd.R_drewN | apply Kd.R_drew)); exact HO129.out) (Kd.R_base ho0) hb); have n6_ := Aside0.mk (Kd.R_lower (Kd.R_new' (Kd.R_new' (Kd.R_new' (Kd.R_new' (Kd.R_new' (Kd.R_new' ho0 (Kd.R_lt (by (with_reducible repeat (first | apply Kd.R_alloc | apply Kd.R_drewN | apply Kd.R_drew)); exact HO_5.out))) (Kd.R_lt (by (with_reducible repeat (first | apply Kd.R_alloc | apply Kd.R_drewN | apply Kd.R_drew)); exact HO113.out))) (Kd.R_lt (by (with_reducible repeat (first | apply Kd.R_alloc | apply Kd.R_drewN | apply Kd.R_drew)); exact HO116.out))) (Kd.R_lt (by (with_reducible repeat (first | apply Kd.R_alloc | apply Kd.R_drewN | apply Kd.R_drew)); exact HO119.out))) (Kd.R_lt (by (with_reducible repeat (first | apply Kd.R_alloc | apply Kd.R_drewN | apply Kd.R_drew)); exact HO125.out))) (Kd.R_lt (by (with_reducible repeat (first | apply Kd.R_alloc | apply Kd.R_drewN | apply Kd.R_drew)); exact HO129.out))) (below_size (by repeat (first | (with_reducible first | exact HB.out | apply below_alloc | apply pw_below_drewN | apply below_drew1 | refine below_set ?_ GE109.out) | exact HB.out)))); have n7_ := Aside0.mk (blk_below (g := gb109) (o := .cells #[.string ((rd_T35 l0 x23_1).f0), .int .i64 ((rd_T35 l0 x23_1).f1), .int .i64 ((rd_T35 l0 x23_1).f2), .int .i64 ((rd_T35 l0 x23_1).f3.f0), .int .i64 ((rd_T35 l0 x23_1).f3.f1), .int .i64 ((rd_T35 l0 x23_1).f3.f2), .int .i64 ((rd_T35 l0 x23_1).f3.f3), .int .i64 ((rd_T35 l0 x23_1).f3.f4), .string ((rd_T35 l0 x23_1).f4), .string ((rd_T35 l0 x23_1).f5), .int .i64 ((rd_T35 l0 x23_1).f6)] 35 (0, 0)) (by (with_reducible repeat (first | refine blk_drewN ?_ _ | refine blk_drew ?_ | refine blk_alloc ?_ _)); exact BK109.out) hb); have n8_ := Aside0.mk (below_step (by repeat (first | (with_reducible first | exact HB.out | apply below_alloc | apply pw_below_drewN | apply below_drew1 | refine below_set ?_ GE109.out) | exact HB.out)) hb); clear HO_5; clear HO113; clear HO116; clear HO119; clear HO125; clear HO129; clear BK109; clear HB; have HO_5 := n0_; have HO113 := n1_; have HO116 := n2_; have HO119 := n3_; have HO125 := n4_; have HO129 := n5_; have HO132 := n6_; have BK109 := n7_; have HB := n8_; clear n0_ n1_ n2_ n3_ n4_ n5_ n6_ n7_ n8_; (try clear hb); (try clear hb2); (try clear hk); (try clear hi); (try clear ho0); have hcz67_0 : w66.cell? ⟨gb109, 0, none⟩ = some (.string ((rd_T35 l0 x23_1).f0)) := (blk_cell BK109.out 0).trans rfl; have hcz67_1 : w66.cell? ⟨gb109, 1, none⟩ = some (.int .i64 ((rd_T35 l0 x23_1).f1)) := (blk_cell BK109.out 1).trans rfl; have hcz67_2 : w66.cell? ⟨gb109, 2, none⟩ = some (.int .i64 ((rd_T35 l0 x23_1).f2)) := (blk_cell BK109.out 2).trans rfl; have hcz67_3 : w66.cell? ⟨gb109, 3, none⟩ = some (.int .i64 ((rd_T35 l0 x23_1).f3.f0)) := (blk_cell BK109.out 3).trans rfl; have hcz67_4 : w66.cell? ⟨gb109, 4, none⟩ = some (.int .i64 ((rd_T35 l0 x23_1).f3.f1)) := (blk_cell BK109.out 4).trans rfl; have hcz67_5 : w66.cell? ⟨gb109, 5, none⟩ = some (.int .i64 ((rd_T35 l0 x23_1).f3.f2)) := (blk_cell BK109.out 5).trans rfl; have hcz67_6 : w66.cell? ⟨gb109, 6, none⟩ = some (.int .i64 ((rd_T35 l0 x23_1).f3.f3)) := (blk_cell BK109.out 6).trans rfl; have hcz67_7 : w66.cell? ⟨gb109, 7, none⟩ = some (.int .i64 ((rd_T35 l0 x23_1).f3.f4)) := (blk_cell BK109.out 7).trans rfl; have hcz67_8 : w66.cell? ⟨gb109, 8, none⟩ = some (.string ((rd_T35 l0 x23_1).f4)) := (blk_cell BK109.out 8).trans rfl; have hcz67_9 : w66.cell? ⟨gb109, 9, none⟩ = some (.string ((rd_T35 l0 x23_1).f5)) := (blk_cell BK109.out 9).trans rfl; have hcz67_10 : w66.cell? ⟨gb109, 10, none⟩ = some (.int .i64 ((rd_T35 l0 x23_1).f6)) := (blk_cell BK109.out 10).trans rfl; have hfz67_0 := blk_frozen BK109.out 0; have hfz67_1 := blk_frozen BK109.out 1; have hfz67_2 := blk_frozen BK109.out 2; have hfz67_3 := blk_frozen BK109.out 3; have hfz67_4 := blk_frozen BK109.out 4; have hfz67_5 := blk_frozen BK109.out 5; have hfz67_6 := blk_frozen BK109.out 6; have hfz67_7 := blk_frozen BK109.out 7; have hfz67_8 := blk_frozen BK109.out 8; have hfz67_9 := blk_frozen BK109.out 9; have hfz67_10 := blk_frozen BK109.out 10) | (at_builtin; refine print_append_str (w0 := w) w.heap.size rfl (.tmp 69) _ 27 9 5 rfl Tryd.underlying27 Tryd.underlying9 info5 v131 t130 ((rd_T35 l0 x23_1).f5) rfl rfl ?aO ?aB ?aS ?aL ?_; (case aB => exact (by repeat (first | (with_reducible first | exact HB.out | apply below_alloc | apply pw_below_drewN | apply below_drew1 | refine below_set ?_ GE109.out) | exact HB.out))); (case aO => exact (Kd.own_of_R (by (with_reducible repeat (first | apply Kd.R_alloc | apply Kd.R_drewN | apply Kd.R_drew)); exact Kd.R_mono HO132.out (fun _ hk => trivial)))); (case aS => exact (below_size (by repeat (first | (with_reducible first | exact HB.out | apply below_alloc | apply pw_below_drewN | apply below_drew1 | refine below_set ?_ GE109.out) | exact HB.out)))); (case aL => have := LMc27.out; omega); intro v134 w68 ho0 hb hg; have ho := Kd.R_of_own (h1 := fun _ => rfl) (ok := fun _ => True) ho0 (fun _ _ => trivial); clear ho0; have hat := True.intro; rw [← Ny133.out] at ho; change Kd.R (Kd.int .u8) 5 w68 w.heap.size (fun _ => True) v134 y133 at ho; have n0_ := Aside0.mk (blk_grown (g := gb109) (o := .cells #[.string ((rd_T35 l0 x23_1).f0), .int .i64 ((rd_T35 l0 x23_1).f1), .int .i64 ((rd_T35 l0 x23_1).f2), .int .i64 ((rd_T35 l0 x23_1).f3.f0), .int .i64 ((rd_T35 l0 x23_1).f3.f1), .int .i64 ((rd_T35 l0 x23_1).f3.f2), .int .i64 ((rd_T35 l0 x23_1).f3.f3), .int .i64 ((rd_T35 l0 x23_1).f3.f4), .string ((rd_T35 l0 x23_1).f4), .string ((rd_T35 l0 x23_1).f5), .int .i64 ((rd_T35 l0 x23_1).f6)] 35 (0, 0)) (by (with_reducible repeat (first | refine blk_drewN ?_ _ | refine blk_drew ?_ | refine blk_alloc ?_ _)); exact BK109.out) hg (Kd.R_ne HO132.out BK109.out (by decide))); have n1_ := Aside0.mk (hb); have n2_ := Aside0.mk (ho); clear BK109; clear HB; clear HO132; have BK109 := n0_; have HB := n1_; have HO135 := n2_; clear n0_ n1_ n2_; clear ho hb hg hat; have hcz69_0 : w68.cell? ⟨gb109, 0, none⟩ = some (.string ((rd_T35 l0 x23_1).f0)) := (blk_cell BK109.out 0).trans rfl; have hcz69_1 : w68.cell? ⟨gb109, 1, none⟩ = some (.int .i64 ((rd_T35 l0 x23_1).f1)) := (blk_cell BK109.out 1).trans rfl; have hcz69_2 : w68.cell? ⟨gb109, 2, none⟩ = some (.int .i64 ((rd_T35 l0 x23_1).f2)) := (blk_cell BK109.out 2).trans rfl; have hcz69_3 : w68.cell? ⟨gb109, 3, none⟩ = some (.int .i64 ((rd_T35 l0 x23_1).f3.f0)) := (blk_cell BK109.out 3).trans rfl; have hcz69_4 : w68.cell? ⟨gb109, 4, none⟩ = some (.int .i64 ((rd_T35 l0 x23_1).f3.f1)) := (blk_cell BK109.out 4).trans rfl; have hcz69_5 : w68.cell? ⟨gb109, 5, none⟩ = some (.int .i64 ((rd_T35 l0 x23_1).f3.f2)) := (blk_cell BK109.out 5).trans rfl; have hcz69_6 : w68.cell? ⟨gb109, 6, none⟩ = some (.int .i64 ((rd_T35 l0 x23_1).f3.f3)) := (blk_cell BK109.out 6).trans rfl; have hcz69_7 : w68.cell? ⟨gb109, 7, none⟩ = some (.int .i64 ((rd_T35 l0 x23_1).f3.f4)) := (blk_cell BK109.out 7).trans rfl; have hcz69_8 : w68.cell? ⟨gb109, 8, none⟩ = some (.string ((rd_T35 l0 x23_1).f4)) := (blk_cell BK109.out 8).trans rfl; have hcz69_9 : w68.cell? ⟨gb109, 9, none⟩ = some (.string ((rd_T35 l0 x23_1).f5)) := (blk_cell BK109.out 9).trans rfl; have hcz69_10 : w68.cell? ⟨gb109, 10, none⟩ = some (.int .i64 ((rd_T35 l0 x23_1).f6)) := (blk_cell BK109.out 10).trans rfl; have hfz69_0 := blk_frozen BK109.out 0; have hfz69_1 := blk_frozen BK109.out 1; have hfz69_2 := blk_frozen BK109.out 2; have hfz69_3 := blk_frozen BK109.out 3; have hfz69_4 := blk_frozen BK109.out 4; have hfz69_5 := blk_frozen BK109.out 5; have hfz69_6 := blk_frozen BK109.out 6; have hfz69_7 := blk_frozen BK109.out 7; have hfz69_8 := blk_frozen BK109.out 8; have hfz69_9 := blk_frozen BK109.out 9; have hfz69_10 := blk_frozen BK109.out 10))
               go_roundg kj10
               case measure => have := HK1.out; have := HJ10.out; omega
               case rel => exact ⟨(y133), (((rd_T35 l0 x23_1).f0)), (wrap64 (x23_1 + 1)), (by first | rfl | (simp; done) | (simp [*]; done)), (by first | rfl | (simp; done) | (simp [*]; done)), H', ⟨by have := HK1.out; have := HJ10.out; omega⟩, ⟨by (with_reducible repeat (first | apply Kd.R_alloc | apply Kd.R_drewN | apply Kd.R_drew)); exact HO135.out⟩, ⟨by repeat (first | (with_reducible first | exact HB.out | apply below_alloc | apply pw_below_drewN | apply below_drew1 | refine below_set ?_ GE109.out) | exact HB.out)⟩⟩
             ·rw [if_neg c27] at H
              exact absurd H (by simp)
            ·rw [if_neg c25] at H
             have c25b0 : (((rd_T35 l0 x23_1).f1) == 3) = false := beq_eq_false_iff_ne.mpr c25
             have c25b1 : (((rd_T35 l0 x23_1).f1) != 3) = true := bne_iff_ne.mpr c25
             by_cases c70 : y127.length + ((rd_T35 l0 x23_1).f5).size < 140737488355328
             ·rw [if_pos c70] at H
              have LMc70 := Aside0.mk c70
              clear c70
              obtain ⟨y139, hy139⟩ : ∃ y_ : List Int, y_ = (y127 ++ bytesOf ((rd_T35 l0 x23_1).f5)) := ⟨_, rfl⟩
              replace H : (if ((rd_T35 l0 x23_1).f1) = 1 then ((num_Put.f y139 ((rd_T35 l0 x23_1).f6)).bind fun t142 => (flist_Bytes.l0 kj10 t142 ((rd_T35 l0 x23_1).f0) l0 (l0.length : Int) (wrap64 (x23_1 + 1)))) else (flist_Bytes.l0 kj10 y139 ((rd_T35 l0 x23_1).f0) l0 (l0.length : Int) (wrap64 (x23_1 + 1)))) = some (r1, r2) := by first | (rw [hy139]; with_reducible exact H) | (have H2_ := (Option.bind_some _ _).symm.trans H; rw [hy139]; with_reducible exact H2_) | (have H2_ := (Option.bind_some _ _).symm.trans H; with_reducible exact H2_) | with_reducible exact H | (rw [hy139]; exact H) | exact H
              have Ny139 := Aside0.mk hy139
              clear hy139
              by_cases c71 : ((rd_T35 l0 x23_1).f1) = 1
              ·rw [if_pos c71] at H
               have c71b0 : (((rd_T35 l0 x23_1).f1) == 1) = true := beq_iff_eq.mpr c71
               have c71b1 : (((rd_T35 l0 x23_1).f1) != 1) = false := bne_eq_false_iff_eq.mpr c71
               clear c71
               replace H := Option.bind_eq_some_iff.mp H
               obtain ⟨t142, A720, H⟩ := H
               replace H : (flist_Bytes.l0 kj10 t142 ((rd_T35 l0 x23_1).f0) l0 (l0.length : Int) (wrap64 (x23_1 + 1))) = some (r1, r2) := H
               have A72 := Aside0.mk A720
               clear A720
               have H' := Aside0.mk H
               clear H
               try go_wp2
               have n0_ := Aside0.mk (Kd.R_drew HO_5.out)
               have n1_ := Aside0.mk (blk_drew BK109.out)
               have n2_ := Aside0.mk (below_drew1 HB.out)
               clear HO_5
               clear BK109
               clear HB
               have HO_5 := n0_
               have BK109 := n1_
               have HB := n2_
               clear n0_ n1_ n2_
               obtain ⟨Ao74, co74, eo74⟩ := Kd.R_slice HO_5.out
               (first | subst eo74 | (injection eo74 with f1_ f2_ f3_; have f4_ := f1_.symm; have f5_ := f3_.symm; clear f1_ f2_ f3_; subst f4_; subst f5_))
               refine start_ (n := 14) (S := fun w' => w'.cell? ⟨gb109, 0, none⟩ = some (.string ((rd_T35 l0 x23_1).f0)) ∧ w'.cell? ⟨gb109, 1, none⟩ = some (.int .i64 ((rd_T35 l0 x23_1).f1)) ∧ w'.cell? ⟨gb109, 2, none⟩ = some (.int .i64 ((rd_T35 l0 x23_1).f2)) ∧ w'.cell? ⟨gb109, 3, none⟩ = some (.int .i64 ((rd_T35 l0 x23_1).f3.f0)) ∧ w'.cell? ⟨gb109, 4, none⟩ = some (.int .i64 ((rd_T35 l0 x23_1).f3.f1)) ∧ w'.cell? ⟨gb109, 5, none⟩ = some (.int .i64 ((rd_T35 l0 x23_1).f3.f2)) ∧ w'.cell? ⟨gb109, 6, none⟩ = some (.int .i64 ((rd_T35 l0 x23_1).f3.f3)) ∧ w'.cell? ⟨gb109, 7, none⟩ = some (.int .i64 ((rd_T35 l0 x23_1).f3.f4)) ∧ w'.cell? ⟨gb109, 8, none⟩ = some (.string ((rd_T35 l0 x23_1).f4)) ∧ w'.cell? ⟨gb109, 9, none⟩ = some (.string ((rd_T35 l0 x23_1).f5)) ∧ w'.cell? ⟨gb109, 10, none⟩ = some (.int .i64 ((rd_T35 l0 x23_1).f6))) (ds := []) #[false, false, false, false, false, false, false, false, false, false, false, false, false, false] (by kernel_rfl) rfl rfl ⟨(blk_cell BK109.out 0).trans rfl, (blk_cell BK109.out 1).trans rfl, (blk_cell BK109.out 2).trans rfl, (blk_cell BK109.out 3).trans rfl, (blk_cell BK109.out 4).trans rfl, (blk_cell BK109.out 5).trans rfl, (blk_cell BK109.out 6).trans rfl, (blk_cell BK109.out 7).trans rfl, (blk_cell BK109.out 8).trans rfl, (blk_cell BK109.out 9).trans rfl, (blk_cell BK109.out 10).trans rfl⟩ (fun hHeld => ?_); refine with_tabW flist_Bytes.tab14 flist_Bytes.bits14 (fun HT_ HW_ => ?_)
               generalize wc.drew = w73 at HO_5 BK109 HB hHeld ⊢
               refine pure_ (i := 0) (N := some 40) (v := ?_) (a' := ?_) #[true, false, false, false, false, false, false, false, false, false, false, false, false, false] rfl rfl (any_of HT_.out (by kernel_rfl)) (fun _ _ _ h => h) (Or.inl ⟨by rfl, ?_⟩) ?_ ?_
               rotate_left
               ·intro w'
                go_simp
                with_reducible rfl
               rotate_left
               ·simp only [Act.put, List.setIfInBounds_toArray, List.set_cons_zero, List.set_cons_succ, i64_w, i32_w]
                rfl
               refine pure_ (i := 1) (N := some 41) (v := ?_) (a' := ?_) #[true, true, false, false, false, false, false, false, false, false, false, false, false, false] rfl rfl (any_of HT_.out (by kernel_rfl)) (fun _ _ _ h => h) (Or.inl ⟨by rfl, ?_⟩) ?_ ?_
               rotate_left
               ·intro w'
                go_simp
                with_reducible rfl
               rotate_left
               ·simp only [Act.put, List.setIfInBounds_toArray, List.set_cons_zero, List.set_cons_succ, i64_w, i32_w]
                rfl
               refine pure_ (i := 3) (N := some 43) (v := ?_) (a' := ?_) #[true, true, false, true, false, false, false, false, false, false, false, false, false, false] rfl rfl (any_of HT_.out (by kernel_rfl)) (fun _ _ _ h => h) (Or.inl ⟨by rfl, ?_⟩) ?_ ?_
               rotate_left
               ·intro w'
                go_simp
                with_reducible rfl
               rotate_left
               ·simp only [Act.put, List.setIfInBounds_toArray, List.set_cons_zero, List.set_cons_succ, i64_w, i32_w]
                rfl
               refine pure_ (i := 5) (N := some 45) (v := ?_) (a' := ?_) #[true, true, false, true, false, true, false, false, false, false, false, false, false, false] rfl rfl (any_of HT_.out (by kernel_rfl)) (fun _ _ _ h => h) (Or.inl ⟨by rfl, ?_⟩) ?_ ?_
               rotate_left
               ·intro w'
                go_simp
                with_reducible rfl
               rotate_left
               ·simp only [Act.put, List.setIfInBounds_toArray, List.set_cons_zero, List.set_cons_succ, i64_w, i32_w]
                rfl
               refine pure_ (i := 8) (N := some 48) (v := ?_) (a' := ?_) #[true, true, false, true, false, true, false, false, true, false, false, false, false, false] rfl rfl (any_of HT_.out (by kernel_rfl)) (fun _ _ _ h => h) (Or.inl ⟨by rfl, ?_⟩) ?_ ?_
               rotate_left
               ·intro w'
                go_simp
                with_reducible rfl
               rotate_left
               ·simp only [Act.put, List.setIfInBounds_toArray, List.set_cons_zero, List.set_cons_succ, i64_w, i32_w]
                rfl
               refine pure_ (i := 10) (N := some 50) (v := ?_) (a' := ?_) #[true, true, false, true, false, true, false, false, true, false, true, false, false, false] rfl rfl (any_of HT_.out (by kernel_rfl)) (fun _ _ _ h => h) (Or.inl ⟨by rfl, ?_⟩) ?_ ?_
               rotate_left
               ·intro w'
                go_simp
                with_reducible rfl
               rotate_left
               ·simp only [Act.put, List.setIfInBounds_toArray, List.set_cons_zero, List.set_cons_succ, i64_w, i32_w]
                rfl
               refine take_ (i := 4) (N := some 44) (v := ?_) (a' := ?_) #[true, true, false, true, true, true, false, false, true, false, true, false, false, false] rfl rfl (take_ofW HT_.out HW_.out (by kernel_rfl)) (fun _ _ _ h => h) (Or.inl ⟨by rfl, ?_⟩) hHeld ?_ ?_
               rotate_left
               ·rintro w' ⟨s0, s1, s2, s3, s4, s5, s6, s7, s8, s9, s10⟩
                go_simp
                with_reducible rfl
               rotate_left
               ·simp only [Act.put, List.setIfInBounds_toArray, List.set_cons_zero, List.set_cons_succ, i64_w, i32_w]
                rfl
               refine pure_ (i := 6) (N := some 46) (v := ?_) (a' := ?_) #[true, true, false, true, true, true, true, false, true, false, true, false, false, false] rfl rfl (any_of HT_.out (by kernel_rfl)) (fun _ _ _ h => h) (Or.inl ⟨by rfl, ?_⟩) ?_ ?_
               rotate_left
               ·intro w'
                go_simp
                with_reducible rfl
               rotate_left
               ·simp only [Act.put, List.setIfInBounds_toArray, List.set_cons_zero, List.set_cons_succ, i64_w, i32_w]
                rfl
               refine take_ (i := 11) (N := some 51) (v := ?_) (a' := ?_) #[true, true, false, true, true, true, true, false, true, false, true, true, false, false] rfl rfl (take_ofW HT_.out HW_.out (by kernel_rfl)) (fun _ _ _ h => h) (Or.inl ⟨by rfl, ?_⟩) hHeld ?_ ?_
               rotate_left
               ·rintro w' ⟨s0, s1, s2, s3, s4, s5, s6, s7, s8, s9, s10⟩
                go_simp
                with_reducible rfl
               rotate_left
               ·simp only [Act.put, List.setIfInBounds_toArray, List.set_cons_zero, List.set_cons_succ, i64_w, i32_w]
                rfl
               refine one_ (i := 2) (N := some 42) #[true, true, true, true, true, true, true, false, true, false, true, true, false, false] rfl rfl (one_of HT_.out (by kernel_rfl)) (by decide) (fun K hK => ?_)
               refine goes_ Tryd.func33 (by kernel_rfl) rfl #[.slice Ao74 x5_1.length co74, .int .i64 t110] (by rfl) rfl rfl (by (try simp only [List.map_toArray, List.map_cons, List.map_nil]); first | done | rfl | (simp only [List.length_drop, List.length_take]; rfl)) ?_
               with_reducible refine (num_Put.calls _ _ x5_1 t110 t111 _ ?side1 ?side2 A17.out).mono ?_
               (case side1 => repeat (first | exact (Kd.R_reads' HO_5.out).2.2 | (with_reducible refine Kd.C_alloc ?_ _) | (with_reducible refine Kd.C_drewN ?_ _) | (with_reducible refine Kd.C_drew ?_)))
               (case side2 => exact (Kd.R_reads' HO_5.out).2.1)
               rintro e w75 ⟨v112, rfl, ho0, hb⟩
               refine ⟨_, rfl, ?_⟩
               have n0_ := Aside0.mk (Kd.R_elder' (by (with_reducible repeat (first | apply Kd.R_alloc | apply Kd.R_drewN | apply Kd.R_drew)); exact HO_5.out) (Kd.R_base ho0) hb)
               have n1_ := Aside0.mk (Kd.R_lower (Kd.R_new' ho0 (Kd.R_lt (by (with_reducible repeat (first | apply Kd.R_alloc | apply Kd.R_drewN | apply Kd.R_drew)); exact HO_5.out))) (below_size (by repeat (first | (with_reducible first | exact HB.out | apply below_alloc | apply pw_below_drewN | apply below_drew1 | refine below_set ?_ GE109.out) | exact HB.out))))
               have n2_ := Aside0.mk (blk_below (g := gb109) (o := .cells #[.string ((rd_T35 l0 x23_1).f0), .int .i64 ((rd_T35 l0 x23_1).f1), .int .i64 ((rd_T35 l0 x23_1).f2), .int .i64 ((rd_T35 l0 x23_1).f3.f0), .int .i64 ((rd_T35 l0 x23_1).f3.f1), .int .i64 ((rd_T35 l0 x23_1).f3.f2), .int .i64 ((rd_T35 l0 x23_1).f3.f3), .int .i64 ((rd_T35 l0 x23_1).f3.f4), .string ((rd_T35 l0 x23_1).f4), .string ((rd_T35 l0 x23_1).f5), .int .i64 ((rd_T35 l0 x23_1).f6)] 35 (0, 0)) (by (with_reducible repeat (first | refine blk_drewN ?_ _ | refine blk_drew ?_ | refine blk_alloc ?_ _)); exact BK109.out) hb)
               have n3_ := Aside0.mk (below_step (by repeat (first | (with_reducible first | exact HB.out | apply below_alloc | apply pw_below_drewN | apply below_drew1 | refine below_set ?_ GE109.out) | exact HB.out)) hb)
               clear HO_5
               clear BK109
               clear HB
               have HO_5 := n0_
               have HO113 := n1_
               have BK109 := n2_
               have HB := n3_
               clear n0_ n1_ n2_ n3_
               (try clear hb)
               (try clear hb2)
               (try clear hk)
               (try clear hi)
               (try clear ho0)
               obtain ⟨Ao76, co76, eo76⟩ := Kd.R_slice HO113.out
               (first | subst eo76 | (injection eo76 with f1_ f2_ f3_; have f4_ := f1_.symm; have f5_ := f3_.symm; clear f1_ f2_ f3_; subst f4_; subst f5_))
               refine hK.out _ _ ⟨(blk_cell BK109.out 0).trans rfl, (blk_cell BK109.out 1).trans rfl, (blk_cell BK109.out 2).trans rfl, (blk_cell BK109.out 3).trans rfl, (blk_cell BK109.out 4).trans rfl, (blk_cell BK109.out 5).trans rfl, (blk_cell BK109.out 6).trans rfl, (blk_cell BK109.out 7).trans rfl, (blk_cell BK109.out 8).trans rfl, (blk_cell BK109.out 9).trans rfl, (blk_cell BK109.out 10).trans rfl⟩ (fun hHeld => ?_)
               clear hK K
               refine norm_ (a' := ?_) ?_ ?_
               rotate_left
               ·show Act.put _ (some 42) _ = _
                simp only [Act.put, List.setIfInBounds_toArray, List.set_cons_zero, List.set_cons_succ, i64_w, i32_w]
                rfl
               refine one_ (i := 7) (N := some 47) #[true, true, true, true, true, true, true, true, true, false, true, true, false, false] rfl rfl (one_of HT_.out (by kernel_rfl)) (by decide) (fun K hK => ?_)
               refine goes_ Tryd.func35 (by kernel_rfl) rfl #[.slice Ao76 t111.length co76, .string (((rd_T35 l0 x23_1).f0).extract (t110 : Int).toNat ((rd_T35 l0 x23_1).f0).size)] (by rfl) rfl rfl (by (try simp only [List.map_toArray, List.map_cons, List.map_nil]); first | done | rfl | (simp only [List.length_drop, List.length_take]; rfl)) ?_
               with_reducible refine (num_PutText.calls _ _ t111 (((rd_T35 l0 x23_1).f0).extract (t110 : Int).toNat ((rd_T35 l0 x23_1).f0).size) t114 _ ?side1 ?side2 A20.out).mono ?_
               (case side1 => repeat (first | exact (Kd.R_reads' HO113.out).2.2 | (with_reducible refine Kd.C_alloc ?_ _) | (with_reducible refine Kd.C_drewN ?_ _) | (with_reducible refine Kd.C_drew ?_)))
               (case side2 => exact (Kd.R_reads' HO113.out).2.1)
               rintro e w77 ⟨v115, rfl, ho0, hb⟩
               refine ⟨_, rfl, ?_⟩
               have n0_ := Aside0.mk (Kd.R_elder' (by (with_reducible repeat (first | apply Kd.R_alloc | apply Kd.R_drewN | apply Kd.R_drew)); exact HO_5.out) (Kd.R_base ho0) hb)
               have n1_ := Aside0.mk (Kd.R_elder' (by (with_reducible repeat (first | apply Kd.R_alloc | apply Kd.R_drewN | apply Kd.R_drew)); exact HO113.out) (Kd.R_base ho0) hb)
               have n2_ := Aside0.mk (Kd.R_lower (Kd.R_new' (Kd.R_new' ho0 (Kd.R_lt (by (with_reducible repeat (first | apply Kd.R_alloc | apply Kd.R_drewN | apply Kd.R_drew)); exact HO_5.out))) (Kd.R_lt (by (with_reducible repeat (first | apply Kd.R_alloc | apply Kd.R_drewN | apply Kd.R_drew)); exact HO113.out))) (below_size (by repeat (first | (with_reducible first | exact HB.out | apply below_alloc | apply pw_below_drewN | apply below_drew1 | refine below_set ?_ GE109.out) | exact HB.out))))
               have n3_ := Aside0.mk (blk_below (g := gb109) (o := .cells #[.string ((rd_T35 l0 x23_1).f0), .int .i64 ((rd_T35 l0 x23_1).f1), .int .i64 ((rd_T35 l0 x23_1).f2), .int .i64 ((rd_T35 l0 x23_1).f3.f0), .int .i64 ((rd_T35 l0 x23_1).f3.f1), .int .i64 ((rd_T35 l0 x23_1).f3.f2), .int .i64 ((rd_T35 l0 x23_1).f3.f3), .int .i64 ((rd_T35 l0 x23_1).f3.f4), .string ((rd_T35 l0 x23_1).f4), .string ((rd_T35 l0 x23_1).f5), .int .i64 ((rd_T35 l0 x23_1).f6)] 35 (0, 0)) (by (with_reducible repeat (first | refine blk_drewN ?_ _ | refine blk_drew ?_ | refine blk_alloc ?_ _)); exact BK109.out) hb)
               have n4_ := Aside0.mk (below_step (by repeat (first | (with_reducible first | exact HB.out | apply below_alloc | apply pw_below_drewN | apply below_drew1 | refine below_set ?_ GE109.out) | exact HB.out)) hb)
               clear HO_5
               clear HO113
               clear BK109
               clear HB
               have HO_5 := n0_
               have HO113 := n1_
               have HO116 := n2_
               have BK109 := n3_
               have HB := n4_
               clear n0_ n1_ n2_ n3_ n4_
               (try clear hb)
               (try clear hb2)
               (try clear hk)
               (try clear hi)
               (try clear ho0)
               obtain ⟨Ao78, co78, eo78⟩ := Kd.R_slice HO116.out
               (first | subst eo78 | (injection eo78 with f1_ f2_ f3_; have f4_ := f1_.symm; have f5_ := f3_.symm; clear f1_ f2_ f3_; subst f4_; subst f5_))
               refine hK.out _ _ ⟨(blk_cell BK109.out 0).trans rfl, (blk_cell BK109.out 1).trans rfl, (blk_cell BK109.out 2).trans rfl, (blk_cell BK109.out 3).trans rfl, (blk_cell BK109.out 4).trans rfl, (blk_cell BK109.out 5).trans rfl, (blk_cell BK109.out 6).trans rfl, (blk_cell BK109.out 7).trans rfl, (blk_cell BK109.out 8).trans rfl, (blk_cell BK109.out 9).trans rfl, (blk_cell BK109.out 10).trans rfl⟩ (fun hHeld => ?_)
               clear hK K
               refine norm_ (a' := ?_) ?_ ?_
               rotate_left
               ·show Act.put _ (some 47) _ = _
                simp only [Act.put, List.setIfInBounds_toArray, List.set_cons_zero, List.set_cons_succ, i64_w, i32_w]
                rfl
               refine one_ (i := 9) (N := some 49) #[true, true, true, true, true, true, true, true, true, true, true, true, false, false] rfl rfl (one_of HT_.out (by kernel_rfl)) (by decide) (fun K hK => ?_)
               refine goes_ Tryd.func33 (by kernel_rfl) rfl #[.slice Ao78 t114.length co78, .int .i64 x10_10] (by rfl) rfl rfl (by (try simp only [List.map_toArray, List.map_cons, List.map_nil]); first | done | rfl | (simp only [List.length_drop, List.length_take]; rfl)) ?_
               with_reducible refine (num_Put.calls _ _ t114 x10_10 t117 _ ?side1 ?side2 A21.out).mono ?_
               (case side1 => repeat (first | exact (Kd.R_reads' HO116.out).2.2 | (with_reducible refine Kd.C_alloc ?_ _) | (with_reducible refine Kd.C_drewN ?_ _) | (with_reducible refine Kd.C_drew ?_)))
               (case side2 => exact (Kd.R_reads' HO116.out).2.1)
               rintro e w79 ⟨v118, rfl, ho0, hb⟩
               refine ⟨_, rfl, ?_⟩
               have n0_ := Aside0.mk (Kd.R_elder' (by (with_reducible repeat (first | apply Kd.R_alloc | apply Kd.R_drewN | apply Kd.R_drew)); exact HO_5.out) (Kd.R_base ho0) hb)
               have n1_ := Aside0.mk (Kd.R_elder' (by (with_reducible repeat (first | apply Kd.R_alloc | apply Kd.R_drewN | apply Kd.R_drew)); exact HO113.out) (Kd.R_base ho0) hb)
               have n2_ := Aside0.mk (Kd.R_elder' (by (with_reducible repeat (first | apply Kd.R_alloc | apply Kd.R_drewN | apply Kd.R_drew)); exact HO116.out) (Kd.R_base ho0) hb)
               have n3_ := Aside0.mk (Kd.R_lower (Kd.R_new' (Kd.R_new' (Kd.R_new' ho0 (Kd.R_lt (by (with_reducible repeat (first | apply Kd.R_alloc | apply Kd.R_drewN | apply Kd.R_drew)); exact HO_5.out))) (Kd.R_lt (by (with_reducible repeat (first | apply Kd.R_alloc | apply Kd.R_drewN | apply Kd.R_drew)); exact HO113.out))) (Kd.R_lt (by (with_reducible repeat (first | apply Kd.R_alloc | apply Kd.R_drewN | apply Kd.R_drew)); exact HO116.out))) (below_size (by repeat (first | (with_reducible first | exact HB.out | apply below_alloc | apply pw_below_drewN | apply below_drew1 | refine below_set ?_ GE109.out) | exact HB.out))))
               have n4_ := Aside0.mk (blk_below (g := gb109) (o := .cells #[.string ((rd_T35 l0 x23_1).f0), .int .i64 ((rd_T35 l0 x23_1).f1), .int .i64 ((rd_T35 l0 x23_1).f2), .int .i64 ((rd_T35 l0 x23_1).f3.f0), .int .i64 ((rd_T35 l0 x23_1).f3.f1), .int .i64 ((rd_T35 l0 x23_1).f3.f2), .int .i64 ((rd_T35 l0 x23_1).f3.f3), .int .i64 ((rd_T35 l0 x23_1).f3.f4), .string ((rd_T35 l0 x23_1).f4), .string ((rd_T35 l0 x23_1).f5), .int .i64 ((rd_T35 l0 x23_1).f6)] 35 (0, 0)) (by (with_reducible repeat (first | refine blk_drewN ?_ _ | refine blk_drew ?_ | refine blk_alloc ?_ _)); exact BK109.out) hb)
               have n5_ := Aside0.mk (below_step (by repeat (first | (with_reducible first | exact HB.out | apply below_alloc | apply pw_below_drewN | apply below_drew1 | refine below_set ?_ GE109.out) | exact HB.out)) hb)
               clear HO_5
               clear HO113
               clear HO116
               clear BK109
               clear HB
               have HO_5 := n0_
               have HO113 := n1_
               have HO116 := n2_
               have HO119 := n3_
               have BK109 := n4_
               have HB := n5_
               clear n0_ n1_ n2_ n3_ n4_ n5_
               (try clear hb)
               (try clear hb2)
               (try clear hk)
               (try clear hi)
               (try clear ho0)
               obtain ⟨Ao80, co80, eo80⟩ := Kd.R_slice HO119.out
               (first | subst eo80 | (injection eo80 with f1_ f2_ f3_; have f4_ := f1_.symm; have f5_ := f3_.symm; clear f1_ f2_ f3_; subst f4_; subst f5_))
               refine hK.out _ _ ⟨(blk_cell BK109.out 0).trans rfl, (blk_cell BK109.out 1).trans rfl, (blk_cell BK109.out 2).trans rfl, (blk_cell BK109.out 3).trans rfl, (blk_cell BK109.out 4).trans rfl, (blk_cell BK109.out 5).trans rfl, (blk_cell BK109.out 6).trans rfl, (blk_cell BK109.out 7).trans rfl, (blk_cell BK109.out 8).trans rfl, (blk_cell BK109.out 9).trans rfl, (blk_cell BK109.out 10).trans rfl⟩ (fun hHeld => ?_)
               clear hK K
               refine norm_ (a' := ?_) ?_ ?_
               rotate_left
               ·show Act.put _ (some 49) _ = _
                simp only [Act.put, List.setIfInBounds_toArray, List.set_cons_zero, List.set_cons_succ, i64_w, i32_w]
                rfl
               refine one_ (i := 12) (N := some 52) #[true, true, true, true, true, true, true, true, true, true, true, true, true, false] rfl rfl (one_of HT_.out (by kernel_rfl)) (by decide) (fun K hK => ?_)
               refine goes_ Tryd.func33 (by kernel_rfl) rfl #[.slice Ao80 t117.length co80, .int .i64 ((rd_T35 l0 x23_1).f2)] (by rfl) rfl rfl (by (try simp only [List.map_toArray, List.map_cons, List.map_nil]); first | done | rfl | (simp only [List.length_drop, List.length_take]; rfl)) ?_
               with_reducible refine (num_Put.calls _ _ t117 ((rd_T35 l0 x23_1).f2) t120 _ ?side1 ?side2 A22.out).mono ?_
               (case side1 => repeat (first | exact (Kd.R_reads' HO119.out).2.2 | (with_reducible refine Kd.C_alloc ?_ _) | (with_reducible refine Kd.C_drewN ?_ _) | (with_reducible refine Kd.C_drew ?_)))
               (case side2 => exact (Kd.R_reads' HO119.out).2.1)
               rintro e w81 ⟨v121, rfl, ho0, hb⟩
               refine ⟨_, rfl, ?_⟩
               have n0_ := Aside0.mk (Kd.R_elder' (by (with_reducible repeat (first | apply Kd.R_alloc | apply Kd.R_drewN | apply Kd.R_drew)); exact HO_5.out) (Kd.R_base ho0) hb)
               have n1_ := Aside0.mk (Kd.R_elder' (by (with_reducible repeat (first | apply Kd.R_alloc | apply Kd.R_drewN | apply Kd.R_drew)); exact HO113.out) (Kd.R_base ho0) hb)
               have n2_ := Aside0.mk (Kd.R_elder' (by (with_reducible repeat (first | apply Kd.R_alloc | apply Kd.R_drewN | apply Kd.R_drew)); exact HO116.out) (Kd.R_base ho0) hb)
               have n3_ := Aside0.mk (Kd.R_elder' (by (with_reducible repeat (first | apply Kd.R_alloc | apply Kd.R_drewN | apply Kd.R_drew)); exact HO119.out) (Kd.R_base ho0) hb)
               have n4_ := Aside0.mk (Kd.R_lower (Kd.R_new' (Kd.R_new' (Kd.R_new' (Kd.R_new' ho0 (Kd.R_lt (by (with_reducible repeat (first | apply Kd.R_alloc | apply Kd.R_drewN | apply Kd.R_drew)); exact HO_5.out))) (Kd.R_lt (by (with_reducible repeat (first | apply Kd.R_alloc | apply Kd.R_drewN | apply Kd.R_drew)); exact HO113.out))) (Kd.R_lt (by (with_reducible repeat (first | apply Kd.R_alloc | apply Kd.R_drewN | apply Kd.R_drew)); exact HO116.out))) (Kd.R_lt (by (with_reducible repeat (first | apply Kd.R_alloc | apply Kd.R_drewN | apply Kd.R_drew)); exact HO119.out))) (below_size (by repeat (first | (with_reducible first | exact HB.out | apply below_alloc | apply pw_below_drewN | apply below_drew1 | refine below_set ?_ GE109.out) | exact HB.out))))
               have n5_ := Aside0.mk (blk_below (g := gb109) (o := .cells #[.string ((rd_T35 l0 x23_1).f0), .int .i64 ((rd_T35 l0 x23_1).f1), .int .i64 ((rd_T35 l0 x23_1).f2), .int .i64 ((rd_T35 l0 x23_1).f3.f0), .int .i64 ((rd_T35 l0 x23_1).f3.f1), .int .i64 ((rd_T35 l0 x23_1).f3.f2), .int .i64 ((rd_T35 l0 x23_1).f3.f3), .int .i64 ((rd_T35 l0 x23_1).f3.f4), .string ((rd_T35 l0 x23_1).f4), .string ((rd_T35 l0 x23_1).f5), .int .i64 ((rd_T35 l0 x23_1).f6)] 35 (0, 0)) (by (with_reducible repeat (first | refine blk_drewN ?_ _ | refine blk_drew ?_ | refine blk_alloc ?_ _)); exact BK109.out) hb)
               have n6_ := Aside0.mk (below_step (by repeat (first | (with_reducible first | exact HB.out | apply below_alloc | apply pw_below_drewN | apply below_drew1 | refine below_set ?_ GE109.out) | exact HB.out)) hb)
               clear HO_5
               clear HO113
               clear HO116
               clear HO119
               clear BK109
               clear HB
               have HO_5 := n0_
               have HO113 := n1_
               have HO116 := n2_
               have HO119 := n3_
               have HO122 := n4_
               have BK109 := n5_
               have HB := n6_
               clear n0_ n1_ n2_ n3_ n4_ n5_ n6_
               (try clear hb)
               (try clear hb2)
               (try clear hk)
               (try clear hi)
               (try clear ho0)
               refine hK.out _ _ ⟨(blk_cell BK109.out 0).trans rfl, (blk_cell BK109.out 1).trans rfl, (blk_cell BK109.out 2).trans rfl, (blk_cell BK109.out 3).trans rfl, (blk_cell BK109.out 4).trans rfl, (blk_cell BK109.out 5).trans rfl, (blk_cell BK109.out 6).trans rfl, (blk_cell BK109.out 7).trans rfl, (blk_cell BK109.out 8).trans rfl, (blk_cell BK109.out 9).trans rfl, (blk_cell BK109.out 10).trans rfl⟩ (fun hHeld => ?_)
               clear hK K
               refine norm_ (a' := ?_) ?_ ?_
               rotate_left
               ·show Act.put _ (some 52) _ = _
                simp only [Act.put, List.setIfInBounds_toArray, List.set_cons_zero, List.set_cons_succ, i64_w, i32_w]
                rfl
               refine pure_ (i := 13) (N := some 5) (v := ?_) (a' := ?_) #[true, true, true, true, true, true, true, true, true, true, true, true, true, true] rfl rfl (any_of HT_.out (by kernel_rfl)) (fun _ _ _ h => h) (Or.inl ⟨by rfl, ?_⟩) ?_ ?_
               rotate_left
               ·intro w'
                go_simp
                with_reducible rfl
               rotate_left
               ·simp only [Act.put, List.setIfInBounds_toArray, List.set_cons_zero, List.set_cons_succ, i64_w, i32_w]
                rfl
               refine done_ (done_of HT_.out (by kernel_rfl)) ?_
               have hcz82_0 : w81.cell? ⟨gb109, 0, none⟩ = some (.string ((rd_T35 l0 x23_1).f0)) := (blk_cell BK109.out 0).trans rfl
               have hcz82_1 : w81.cell? ⟨gb109, 1, none⟩ = some (.int .i64 ((rd_T35 l0 x23_1).f1)) := (blk_cell BK109.out 1).trans rfl
               have hcz82_2 : w81.cell? ⟨gb109, 2, none⟩ = some (.int .i64 ((rd_T35 l0 x23_1).f2)) := (blk_cell BK109.out 2).trans rfl
               have hcz82_3 : w81.cell? ⟨gb109, 3, none⟩ = some (.int .i64 ((rd_T35 l0 x23_1).f3.f0)) := (blk_cell BK109.out 3).trans rfl
               have hcz82_4 : w81.cell? ⟨gb109, 4, none⟩ = some (.int .i64 ((rd_T35 l0 x23_1).f3.f1)) := (blk_cell BK109.out 4).trans rfl
               have hcz82_5 : w81.cell? ⟨gb109, 5, none⟩ = some (.int .i64 ((rd_T35 l0 x23_1).f3.f2)) := (blk_cell BK109.out 5).trans rfl
               have hcz82_6 : w81.cell? ⟨gb109, 6, none⟩ = some (.int .i64 ((rd_T35 l0 x23_1).f3.f3)) := (blk_cell BK109.out 6).trans rfl
               have hcz82_7 : w81.cell? ⟨gb109, 7, none⟩ = some (.int .i64 ((rd_T35 l0 x23_1).f3.f4)) := (blk_cell BK109.out 7).trans rfl
               have hcz82_8 : w81.cell? ⟨gb109, 8, none⟩ = some (.string ((rd_T35 l0 x23_1).f4)) := (blk_cell BK109.out 8).trans rfl
               have hcz82_9 : w81.cell? ⟨gb109, 9, none⟩ = some (.string ((rd_T35 l0 x23_1).f5)) := (blk_cell BK109.out 9).trans rfl
               have hcz82_10 : w81.cell? ⟨gb109, 10, none⟩ = some (.int .i64 ((rd_T35 l0 x23_1).f6)) := (blk_cell BK109.out 10).trans rfl
               have hfz82_0 := blk_frozen BK109.out 0
               have hfz82_1 := blk_frozen BK109.out 1
               have hfz82_2 := blk_frozen BK109.out 2
               have hfz82_3 := blk_frozen BK109.out 3
               have hfz82_4 := blk_frozen BK109.out 4
               have hfz82_5 := blk_frozen BK109.out 5
               have hfz82_6 := blk_frozen BK109.out 6
               have hfz82_7 := blk_frozen BK109.out 7
               have hfz82_8 := blk_frozen BK109.out 8
               have hfz82_9 := blk_frozen BK109.out 9
               have hfz82_10 := blk_frozen BK109.out 10
               try go_wp2_with (first | ((with_reducible refine gate_callee (f := 36) rfl ?_); refine goesL_ (some 56) rfl rfl Tryd.func36 (by kernel_rfl) rfl #[.agg #[.int .i64 ((rd_T35 l0 x23_1).f3.f0), .int .i64 ((rd_T35 l0 x23_1).f3.f1), .int .i64 ((rd_T35 l0 x23_1).f3.f2), .int .i64 ((rd_T35 l0 x23_1).f3.f3), .int .i64 ((rd_T35 l0 x23_1).f3.f4)]] rfl (by (try simp only [List.map_toArray, List.map_cons, List.map_nil]); first | done | rfl | (simp only [List.length_drop, List.length_take]; rfl)) ?_; (with_reducible refine (meta_Bytes.calls ((rd_T35 l0 x23_1).f3.f0) ((rd_T35 l0 x23_1).f3.f1) ((rd_T35 l0 x23_1).f3.f2) ((rd_T35 l0 x23_1).f3.f3) ((rd_T35 l0 x23_1).f3.f4) t123 t126 _ A23.out).mono ?_); rintro e w83 ⟨v124, rfl, ho0, hb⟩; refine ⟨_, rfl, ?_⟩; have n0_ := Aside0.mk (Kd.R_elder' (by (with_reducible repeat (first | apply Kd.R_alloc | apply Kd.R_drewN | apply Kd.R_drew)); exact HO_5.out) (Kd.R_base ho0) hb); have n1_ := Aside0.mk (Kd.R_elder' (by (with_reducible repeat (first | apply Kd.R_alloc | apply Kd.R_drewN | apply Kd.R_drew)); exact HO113.out) (Kd.R_base ho0) hb); have n2_ := Aside0.mk (Kd.R_elder' (by (with_reducible repeat (first | apply Kd.R_alloc | apply Kd.R_drewN | apply Kd.R_drew)); exact HO116.out) (Kd.R_base ho0) hb); have n3_ := Aside0.mk (Kd.R_elder' (by (with_reducible repeat (first | apply Kd.R_alloc | apply Kd.R_drewN | apply Kd.R_drew)); exact HO119.out) (Kd.R_base ho0) hb); have n4_ := Aside0.mk (Kd.R_elder' (by (with_reducible repeat (first | apply Kd.R_alloc | apply Kd.R_drewN | apply Kd.R_drew)); exact HO122.out) (Kd.R_base ho0) hb); have n5_ := Aside0.mk (Kd.R_lower (Kd.R_new' (Kd.R_new' (Kd.R_new' (Kd.R_new' (Kd.R_new' ho0 (Kd.R_lt (by (with_reducible repeat (first | apply Kd.R_alloc | apply Kd.R_drewN | apply Kd.R_drew)); exact HO_5.out))) (Kd.R_lt (by (with_reducible repeat (first | apply Kd.R_alloc | apply Kd.R_drewN | apply Kd.R_drew)); exact HO113.out))) (Kd.R_lt (by (with_reducible repeat (first | apply Kd.R_alloc | apply Kd.R_drewN | apply Kd.R_drew)); exact HO116.out))) (Kd.R_lt (by (with_reducible repeat (first | apply Kd.R_alloc | apply Kd.R_drewN | apply Kd.R_drew)); exact HO119.out))) (Kd.R_lt (by (with_reducible repeat (first | apply Kd.R_alloc | apply Kd.R_drewN | apply Kd.R_drew)); exact HO122.out))) (below_size (by repeat (first | (with_reducible first | exact HB.out | apply below_alloc | apply pw_below_drewN | apply below_drew1 | refine below_set ?_ GE109.out) | exact HB.out)))); have n6_ := Aside0.mk (blk_below (g := gb109) (o := .cells #[.string ((rd_T35 l0 x23_1).f0), .int .i64 ((rd_T35 l0 x23_1).f1), .int .i64 ((rd_T35 l0 x23_1).f2), .int .i64 ((rd_T35 l0 x23_1).f3.f0), .int .i64 ((rd_T35 l0 x23_1).f3.f1), .int .i64 ((rd_T35 l0 x23_1).f3.f2), .int .i64 ((rd_T35 l0 x23_1).f3.f3), .int .i64 ((rd_T35 l0 x23_1).f3.f4), .string ((rd_T35 l0 x23_1).f4), .string ((rd_T35 l0 x23_1).f5), .int .i64 ((rd_T35 l0 x23_1).f6)] 35 (0, 0)) (by (with_reducible repeat (first | refine blk_drewN ?_ _ | refine blk_drew ?_ | refine blk_alloc ?_ _)); exact BK109.out) hb); have n7_ := Aside0.mk (below_step (by repeat (first | (with_reducible first | exact HB.out | apply below_alloc | apply pw_below_drewN | apply below_drew1 | refine below_set ?_ GE109.out) | exact HB.out)) hb); clear HO_5; clear HO113; clear HO116; clear HO119; clear HO122; clear BK109; clear HB; have HO_5 := n0_; have HO113 := n1_; have HO116 := n2_; have HO119 := n3_; have HO122 := n4_; have HO125 := n5_; have BK109 := n6_; have HB := n7_; clear n0_ n1_ n2_ n3_ n4_ n5_ n6_ n7_; (try clear hb); (try clear hb2); (try clear hk); (try clear hi); (try clear ho0); obtain ⟨Ao85, co85, eo85⟩ := Kd.R_slice HO125.out; subst eo85) | ((with_reducible refine gate_builtin (b := .append) (xs := #[.tmp 59, .tmp 60]) rfl ?_); at_builtin; refine Kd.R_append_rows (Kd.int .u8) (w0 := w) w.heap.size rfl (.tmp 59) (.tmp 60) 27 5 (.int .u8 0) 1 rfl Tryd.underlying27 info5 rfl (by decide) (by omega) v121 t120 t123 _ _ _ (fun k_ => some k_ ≠ (.slice Ao74 x5_1.length co74 : Value).ownBlock ∧ some k_ ≠ (.slice Ao76 t111.length co76 : Value).ownBlock ∧ some k_ ≠ (.slice Ao78 t114.length co78 : Value).ownBlock ∧ some k_ ≠ (.slice Ao80 t117.length co80 : Value).ownBlock ∧ some k_ ≠ (.slice Ao85 t123.length co85 : Value).ownBlock) (fun _ => False) rfl rfl ?aO ?aR (fun _ _ h => h) (fun _ h => h.elim) ?aF ?aB ?aS ?aL ?_; (case aR => repeat (first | exact (Kd.R_reads' HO125.out).2.2 | (with_reducible refine Kd.C_alloc ?_ _) | (with_reducible refine Kd.C_drewN ?_ _) | (with_reducible refine Kd.C_drew ?_))); (case aB => exact (by repeat (first | (with_reducible first | exact HB.out | apply below_alloc | apply pw_below_drewN | apply below_drew1 | refine below_set ?_ GE109.out) | exact HB.out))); (case aF => exact (fun k_ hk => ⟨Kd.fresh' (Kd.R_lt (by (with_reducible repeat (first | apply Kd.R_alloc | apply Kd.R_drewN | apply Kd.R_drew)); exact HO_5.out)) k_ hk, Kd.fresh' (Kd.R_lt (by (with_reducible repeat (first | apply Kd.R_alloc | apply Kd.R_drewN | apply Kd.R_drew)); exact HO113.out)) k_ hk, Kd.fresh' (Kd.R_lt (by (with_reducible repeat (first | apply Kd.R_alloc | apply Kd.R_drewN | apply Kd.R_drew)); exact HO116.out)) k_ hk, Kd.fresh' (Kd.R_lt (by (with_reducible repeat (first | apply Kd.R_alloc | apply Kd.R_drewN | apply Kd.R_drew)); exact HO119.out)) k_ hk, Kd.fresh' (Kd.R_lt (by (with_reducible repeat (first | apply Kd.R_alloc | apply Kd.R_drewN | apply Kd.R_drew)); exact HO125.out)) k_ hk⟩)); (case aO => exact (by (with_reducible repeat (first | apply Kd.R_alloc | apply Kd.R_drewN | apply Kd.R_drew)); exact Kd.R_mono HO122.out (fun _ hk => ⟨hk.1.1.1.1.2, ⟨hk.1.1.1.2, ⟨hk.1.1.2, ⟨hk.1.2, hk.2⟩⟩⟩⟩))); (case aS => exact (below_size (by repeat (first | (with_reducible first | exact HB.out | apply below_alloc | apply pw_below_drewN | apply below_drew1 | refine below_set ?_ GE109.out) | exact HB.out)))); (case aL => have := LMc24.out; omega); intro v128 w84 ho hb hg hat; rw [← Ny127.out] at ho; have n0_ := Aside0.mk (Kd.R_after (ok := (fun k_ => some k_ ≠ (.slice Ao76 t111.length co76 : Value).ownBlock ∧ some k_ ≠ (.slice Ao78 t114.length co78 : Value).ownBlock ∧ some k_ ≠ (.slice Ao80 t117.length co80 : Value).ownBlock ∧ some k_ ≠ (.slice Ao85 t123.length co85 : Value).ownBlock)) (by (with_reducible repeat (first | apply Kd.R_alloc | apply Kd.R_drewN | apply Kd.R_drew)); exact Kd.R_mono HO_5.out (fun _ hk => ⟨⟨hk.1.1.1.1.2, ⟨hk.1.1.1.2, ⟨hk.1.1.2, hk.2⟩⟩⟩, hk.1.2⟩)) hg hat); have n1_ := Aside0.mk (blk_grown (g := gb109) (o := .cells #[.string ((rd_T35 l0 x23_1).f0), .int .i64 ((rd_T35 l0 x23_1).f1), .int .i64 ((rd_T35 l0 x23_1).f2), .int .i64 ((rd_T35 l0 x23_1).f3.f0), .int .i64 ((rd_T35 l0 x23_1).f3.f1), .int .i64 ((rd_T35 l0 x23_1).f3.f2), .int .i64 ((rd_T35 l0 x23_1).f3.f3), .int .i64 ((rd_T35 l0 x23_1).f3.f4), .string ((rd_T35 l0 x23_1).f4), .string ((rd_T35 l0 x23_1).f5), .int .i64 ((rd_T35 l0 x23_1).f6)] 35 (0, 0)) (by (with_reducible repeat (first | refine blk_drewN ?_ _ | refine blk_drew ?_ | refine blk_alloc ?_ _)); exact BK109.out) hg (Kd.R_ne HO122.out BK109.out (by decide))); have n2_ := Aside0.mk (Kd.R_after (ok := (fun k_ => some k_ ≠ (.slice Ao74 x5_1.length co74 : Value).ownBlock ∧ some k_ ≠ (.slice Ao78 t114.length co78 : Value).ownBlock ∧ some k_ ≠ (.slice Ao80 t117.length co80 : Value).ownBlock ∧ some k_ ≠ (.slice Ao85 t123.length co85 : Value).ownBlock)) (by (with_reducible repeat (first | apply Kd.R_alloc | apply Kd.R_drewN | apply Kd.R_drew)); exact Kd.R_mono HO113.out (fun _ hk => ⟨⟨hk.1.1.1.1.2, ⟨hk.1.1.1.2, ⟨hk.1.1.2, hk.2⟩⟩⟩, hk.1.2⟩)) hg hat); have n3_ := Aside0.mk (Kd.R_after (ok := (fun k_ => some k_ ≠ (.slice Ao74 x5_1.length co74 : Value).ownBlock ∧ some k_ ≠ (.slice Ao76 t111.length co76 : Value).ownBlock ∧ some k_ ≠ (.slice Ao80 t117.length co80 : Value).ownBlock ∧ some k_ ≠ (.slice Ao85 t123.length co85 : Value).ownBlock)) (by (with_reducible repeat (first | apply Kd.R_alloc | apply Kd.R_drewN | apply Kd.R_drew)); exact Kd.R_mono HO116.out (fun _ hk => ⟨⟨hk.1.1.1.1.2, ⟨hk.1.1.1.2, ⟨hk.1.1.2, hk.2⟩⟩⟩, hk.1.2⟩)) hg hat); have n4_ := Aside0.mk (Kd.R_after (ok := (fun k_ => some k_ ≠ (.slice Ao74 x5_1.length co74 : Value).ownBlock ∧ some k_ ≠ (.slice Ao76 t111.length co76 : Value).ownBlock ∧ some k_ ≠ (.slice Ao78 t114.length co78 : Value).ownBlock ∧ some k_ ≠ (.slice Ao85 t123.length co85 : Value).ownBlock)) (by (with_reducible repeat (first | apply Kd.R_alloc | apply Kd.R_drewN | apply Kd.R_drew)); exact Kd.R_mono HO119.out (fun _ hk => ⟨⟨hk.1.1.1.1.2, ⟨hk.1.1.1.2, ⟨hk.1.1.2, hk.2⟩⟩⟩, hk.1.2⟩)) hg hat); have n5_ := Aside0.mk (Kd.R_after (ok := (fun k_ => some k_ ≠ (.slice Ao74 x5_1.length co74 : Value).ownBlock ∧ some k_ ≠ (.slice Ao76 t111.length co76 : Value).ownBlock ∧ some k_ ≠ (.slice Ao78 t114.length co78 : Value).ownBlock ∧ some k_ ≠ (.slice Ao80 t117.length co80 : Value).ownBlock)) (by (with_reducible repeat (first | apply Kd.R_alloc | apply Kd.R_drewN | apply Kd.R_drew)); exact Kd.R_mono HO125.out (fun _ hk => ⟨⟨hk.1.1.1.1.2, ⟨hk.1.1.1.2, ⟨hk.1.1.2, hk.1.2⟩⟩⟩, hk.2⟩)) hg hat); have n6_ := Aside0.mk (hb); have n7_ := Aside0.mk (ho); clear HO_5; clear BK109; clear HO113; clear HO116; clear HO119; clear HO125; clear HB; clear HO122; have HO_5 := n0_; have BK109 := n1_; have HO113 := n2_; have HO116 := n3_; have HO119 := n4_; have HO125 := n5_; have HB := n6_; have HO129 := n7_; clear n0_ n1_ n2_ n3_ n4_ n5_ n6_ n7_; clear ho hb hg hat; have hcz86_0 : w84.cell? ⟨gb109, 0, none⟩ = some (.string ((rd_T35 l0 x23_1).f0)) := (blk_cell BK109.out 0).trans rfl; have hcz86_1 : w84.cell? ⟨gb109, 1, none⟩ = some (.int .i64 ((rd_T35 l0 x23_1).f1)) := (blk_cell BK109.out 1).trans rfl; have hcz86_2 : w84.cell? ⟨gb109, 2, none⟩ = some (.int .i64 ((rd_T35 l0 x23_1).f2)) := (blk_cell BK109.out 2).trans rfl; have hcz86_3 : w84.cell? ⟨gb109, 3, none⟩ = some (.int .i64 ((rd_T35 l0 x23_1).f3.f0)) := (blk_cell BK109.out 3).trans rfl; have hcz86_4 : w84.cell? ⟨gb109, 4, none⟩ = some (.int .i64 ((rd_T35 l0 x23_1).f3.f1)) := (blk_cell BK109.out 4).trans rfl; have hcz86_5 : w84.cell? ⟨gb109, 5, none⟩ = some (.int .i64 ((rd_T35 l0 x23_1).f3.f2)) := (blk_cell BK109.out 5).trans rfl; have hcz86_6 : w84.cell? ⟨gb109, 6, none⟩ = some (.int .i64 ((rd_T35 l0 x23_1).f3.f3)) := (blk_cell BK109.out 6).trans rfl; have hcz86_7 : w84.cell? ⟨gb109, 7, none⟩ = some (.int .i64 ((rd_T35 l0 x23_1).f3.f4)) := (blk_cell BK109.out 7).trans rfl; have hcz86_8 : w84.cell? ⟨gb109, 8, none⟩ = some (.string ((rd_T35 l0 x23_1).f4)) := (blk_cell BK109.out 8).trans rfl; have hcz86_9 : w84.cell? ⟨gb109, 9, none⟩ = some (.string ((rd_T35 l0 x23_1).f5)) := (blk_cell BK109.out 9).trans rfl; have hcz86_10 : w84.cell? ⟨gb109, 10, none⟩ = some (.int .i64 ((rd_T35 l0 x23_1).f6)) := (blk_cell BK109.out 10).trans rfl; have hfz86_0 := blk_frozen BK109.out 0; have hfz86_1 := blk_frozen BK109.out 1; have hfz86_2 := blk_frozen BK109.out 2; have hfz86_3 := blk_frozen BK109.out 3; have hfz86_4 := blk_frozen BK109.out 4; have hfz86_5 := blk_frozen BK109.out 5; have hfz86_6 := blk_frozen BK109.out 6; have hfz86_7 := blk_frozen BK109.out 7; have hfz86_8 := blk_frozen BK109.out 8; have hfz86_9 := blk_frozen BK109.out 9; have hfz86_10 := blk_frozen BK109.out 10) | (at_builtin; refine print_append_str (w0 := w) w.heap.size rfl (.tmp 69) _ 27 9 5 rfl Tryd.underlying27 Tryd.underlying9 info5 v128 y127 ((rd_T35 l0 x23_1).f5) rfl rfl ?aO ?aB ?aS ?aL ?_; (case aB => exact (by repeat (first | (with_reducible first | exact HB.out | apply below_alloc | apply pw_below_drewN | apply below_drew1 | refine below_set ?_ GE109.out) | exact HB.out))); (case aO => exact (Kd.own_of_R (by (with_reducible repeat (first | apply Kd.R_alloc | apply Kd.R_drewN | apply Kd.R_drew)); exact Kd.R_mono HO129.out (fun _ hk => trivial)))); (case aS => exact (below_size (by repeat (first | (with_reducible first | exact HB.out | apply below_alloc | apply pw_below_drewN | apply below_drew1 | refine below_set ?_ GE109.out) | exact HB.out)))); (case aL => have := LMc70.out; omega); intro v140 w87 ho0 hb hg; have ho := Kd.R_of_own (h1 := fun _ => rfl) (ok := fun _ => True) ho0 (fun _ _ => trivial); clear ho0; have hat := True.intro; rw [← Ny139.out] at ho; change Kd.R (Kd.int .u8) 5 w87 w.heap.size (fun _ => True) v140 y139 at ho; have n0_ := Aside0.mk (blk_grown (g := gb109) (o := .cells #[.string ((rd_T35 l0 x23_1).f0), .int .i64 ((rd_T35 l0 x23_1).f1), .int .i64 ((rd_T35 l0 x23_1).f2), .int .i64 ((rd_T35 l0 x23_1).f3.f0), .int .i64 ((rd_T35 l0 x23_1).f3.f1), .int .i64 ((rd_T35 l0 x23_1).f3.f2), .int .i64 ((rd_T35 l0 x23_1).f3.f3), .int .i64 ((rd_T35 l0 x23_1).f3.f4), .string ((rd_T35 l0 x23_1).f4), .string ((rd_T35 l0 x23_1).f5), .int .i64 ((rd_T35 l0 x23_1).f6)] 35 (0, 0)) (by (with_reducible repeat (first | refine blk_drewN ?_ _ | refine blk_drew ?_ | refine blk_alloc ?_ _)); exact BK109.out) hg (Kd.R_ne HO129.out BK109.out (by decide))); have n1_ := Aside0.mk (hb); have n2_ := Aside0.mk (ho); clear BK109; clear HB; clear HO129; have BK109 := n0_; have HB := n1_; have HO141 := n2_; clear n0_ n1_ n2_; clear ho hb hg hat; have hcz88_0 : w87.cell? ⟨gb109, 0, none⟩ = some (.string ((rd_T35 l0 x23_1).f0)) := (blk_cell BK109.out 0).trans rfl; have hcz88_1 : w87.cell? ⟨gb109, 1, none⟩ = some (.int .i64 ((rd_T35 l0 x23_1).f1)) := (blk_cell BK109.out 1).trans rfl; have hcz88_2 : w87.cell? ⟨gb109, 2, none⟩ = some (.int .i64 ((rd_T35 l0 x23_1).f2)) := (blk_cell BK109.out 2).trans rfl; have hcz88_3 : w87.cell? ⟨gb109, 3, none⟩ = some (.int .i64 ((rd_T35 l0 x23_1).f3.f0)) := (blk_cell BK109.out 3).trans rfl; have hcz88_4 : w87.cell? ⟨gb109, 4, none⟩ = some (.int .i64 ((rd_T35 l0 x23_1).f3.f1)) := (blk_cell BK109.out 4).trans rfl; have hcz88_5 : w87.cell? ⟨gb109, 5, none⟩ = some (.int .i64 ((rd_T35 l0 x23_1).f3.f2)) := (blk_cell BK109.out 5).trans rfl; have hcz88_6 : w87.cell? ⟨gb109, 6, none⟩ = some (.int .i64 ((rd_T35 l0 x23_1).f3.f3)) := (blk_cell BK109.out 6).trans rfl; have hcz88_7 : w87.cell? ⟨gb109, 7, none⟩ = some (.int .i64 ((rd_T35 l0 x23_1).f3.f4)) := (blk_cell BK109.out 7).trans rfl; have hcz88_8 : w87.cell? ⟨gb109, 8, none⟩ = some (.string ((rd_T35 l0 x23_1).f4)) := (blk_cell BK109.out 8).trans rfl; have hcz88_9 : w87.cell? ⟨gb109, 9, none⟩ = some (.string ((rd_T35 l0 x23_1).f5)) := (blk_cell BK109.out 9).trans rfl; have hcz88_10 : w87.cell? ⟨gb109, 10, none⟩ = some (.int .i64 ((rd_T35 l0 x23_1).f6)) := (blk_cell BK109.out 10).trans rfl; have hfz88_0 := blk_frozen BK109.out 0; have hfz88_1 := blk_frozen BK109.out 1; have hfz88_2 := blk_frozen BK109.out 2; have hfz88_3 := blk_frozen BK109.out 3; have hfz88_4 := blk_frozen BK109.out 4; have hfz88_5 := blk_frozen BK109.out 5; have hfz88_6 := blk_frozen BK109.out 6; have hfz88_7 := blk_frozen BK109.out 7; have hfz88_8 := blk_frozen BK109.out 8; have hfz88_9 := blk_frozen BK109.out 9; have hfz88_10 := blk_frozen BK109.out 10; obtain ⟨Ao89, co89, eo89⟩ := Kd.R_slice HO141.out; subst eo89) | ((with_reducible refine gate_callee (f := 33) rfl ?_); refine goesL_ (some 79) rfl rfl Tryd.func33 (by kernel_rfl) rfl #[.slice Ao89 y139.length co89, .int .i64 ((rd_T35 l0 x23_1).f6)] rfl (by (try simp only [List.map_toArray, List.map_cons, List.map_nil]); first | done | rfl | (simp only [List.length_drop, List.length_take]; rfl)) ?_; (with_reducible refine (num_Put.calls _ _ y139 ((rd_T35 l0 x23_1).f6) t142 _ ?side1 ?side2 A72.out).mono ?_); (case side1 => repeat (first | exact (Kd.R_reads' HO141.out).2.2 | (with_reducible refine Kd.C_alloc ?_ _) | (with_reducible refine Kd.C_drewN ?_ _) | (with_reducible refine Kd.C_drew ?_))); (case side2 => exact (Kd.R_reads' HO141.out).2.1); rintro e w90 ⟨v143, rfl, ho0, hb⟩; refine ⟨_, rfl, ?_⟩; have n0_ := Aside0.mk (Kd.R_elder' (by (with_reducible repeat (first | apply Kd.R_alloc | apply Kd.R_drewN | apply Kd.R_drew)); exact HO141.out) (Kd.R_base ho0) hb); have n1_ := Aside0.mk (Kd.R_lower (Kd.R_new' ho0 (Kd.R_lt (by (with_reducible repeat (first | apply Kd.R_alloc | apply Kd.R_drewN | apply Kd.R_drew)); exact HO141.out))) (below_size (by repeat (first | (with_reducible first | exact HB.out | apply below_alloc | apply pw_below_drewN | apply below_drew1 | refine below_set ?_ GE109.out) | exact HB.out)))); have n2_ := Aside0.mk (blk_below (g := gb109) (o := .cells #[.string ((rd_T35 l0 x23_1).f0), .int .i64 ((rd_T35 l0 x23_1).f1), .int .i64 ((rd_T35 l0 x23_1).f2), .int .i64 ((rd_T35 l0 x23_1).f3.f0), .int .i64 ((rd_T35 l0 x23_1).f3.f1), .int .i64 ((rd_T35 l0 x23_1).f3.f2), .int .i64 ((rd_T35 l0 x23_1).f3.f3), .int .i64 ((rd_T35 l0 x23_1).f3.f4), .string ((rd_T35 l0 x23_1).f4), .string ((rd_T35 l0 x23_1).f5), .int .i64 ((rd_T35 l0 x23_1).f6)] 35 (0, 0)) (by (with_reducible repeat (first | refine blk_drewN ?_ _ | refine blk_drew ?_ | refine blk_alloc ?_ _)); exact BK109.out) hb); have n3_ := Aside0.mk (below_step (by repeat (first | (with_reducible first | exact HB.out | apply below_alloc | apply pw_below_drewN | apply below_drew1 | refine below_set ?_ GE109.out) | exact HB.out)) hb); clear HO141; clear BK109; clear HB; have HO141 := n0_; have HO144 := n1_; have BK109 := n2_; have HB := n3_; clear n0_ n1_ n2_ n3_; (try clear hb); (try clear hb2); (try clear hk); (try clear hi); (try clear ho0)))
               go_roundg kj10
               case measure => have := HK1.out; have := HJ10.out; omega
               case rel => exact ⟨(t142), (((rd_T35 l0 x23_1).f0)), (wrap64 (x23_1 + 1)), (by first | rfl | (simp; done) | (simp [*]; done)), (by first | rfl | (simp; done) | (simp [*]; done)), H', ⟨by have := HK1.out; have := HJ10.out; omega⟩, ⟨by (with_reducible repeat (first | apply Kd.R_alloc | apply Kd.R_drewN | apply Kd.R_drew)); exact Kd.R_mono HO144.out (fun _ hk => trivial)⟩, ⟨by repeat (first | (with_reducible first | exact HB.out | apply below_alloc | apply pw_below_drewN | apply below_drew1 | refine below_set ?_ GE109.out) | exact HB.out)⟩⟩
              ·rw [if_neg c71] at H
               have c71b0 : (((rd_T35 l0 x23_1).f1) == 1) = false := beq_eq_false_iff_ne.mpr c71
               have c71b1 : (((rd_T35 l0 x23_1).f1) != 1) = true := bne_iff_ne.mpr c71
               have H' := Aside0.mk H
               clear H
               try go_wp2
               have n0_ := Aside0.mk (Kd.R_drew HO_5.out)
               have n1_ := Aside0.mk (blk_drew BK109.out)
               have n2_ := Aside0.mk (below_drew1 HB.out)
               clear HO_5
               clear BK109
               clear HB
               have HO_5 := n0_
               have BK109 := n1_
               have HB := n2_
               clear n0_ n1_ n2_
               obtain ⟨Ao92, co92, eo92⟩ := Kd.R_slice HO_5.out
               (first | subst eo92 | (injection eo92 with f1_ f2_ f3_; have f4_ := f1_.symm; have f5_ := f3_.symm; clear f1_ f2_ f3_; subst f4_; subst f5_))
               refine start_ (n := 14) (S := fun w' => w'.cell? ⟨gb109, 0, none⟩ = some (.string ((rd_T35 l0 x23_1).f0)) ∧ w'.cell? ⟨gb109, 1, none⟩ = some (.int .i64 ((rd_T35 l0 x23_1).f1)) ∧ w'.cell? ⟨gb109, 2, none⟩ = some (.int .i64 ((rd_T35 l0 x23_1).f2)) ∧ w'.cell? ⟨gb109, 3, none⟩ = some (.int .i64 ((rd_T35 l0 x23_1).f3.f0)) ∧ w'.cell? ⟨gb109, 4, none⟩ = some (.int .i64 ((rd_T35 l0 x23_1).f3.f1)) ∧ w'.cell? ⟨gb109, 5, none⟩ = some (.int .i64 ((rd_T35 l0 x23_1).f3.f2)) ∧ w'.cell? ⟨gb109, 6, none⟩ = some (.int .i64 ((rd_T35 l0 x23_1).f3.f3)) ∧ w'.cell? ⟨gb109, 7, none⟩ = some (.int .i64 ((rd_T35 l0 x23_1).f3.f4)) ∧ w'.cell? ⟨gb109, 8, none⟩ = some (.string ((rd_T35 l0 x23_1).f4)) ∧ w'.cell? ⟨gb109, 9, none⟩ = some (.string ((rd_T35 l0 x23_1).f5)) ∧ w'.cell? ⟨gb109, 10, none⟩ = some (.int .i64 ((rd_T35 l0 x23_1).f6))) (ds := []) #[false, false, false, false, false, false, false, false, false, false, false, false, false, false] (by kernel_rfl) rfl rfl ⟨(blk_cell BK109.out 0).trans rfl, (blk_cell BK109.out 1).trans rfl, (blk_cell BK109.out 2).trans rfl, (blk_cell BK109.out 3).trans rfl, (blk_cell BK109.out 4).trans rfl, (blk_cell BK109.out 5).trans rfl, (blk_cell BK109.out 6).trans rfl, (blk_cell BK109.out 7).trans rfl, (blk_cell BK109.out 8).trans rfl, (blk_cell BK109.out 9).trans rfl, (blk_cell BK109.out 10).trans rfl⟩ (fun hHeld => ?_); refine with_tabW flist_Bytes.tab14 flist_Bytes.bits14 (fun HT_ HW_ => ?_)
               generalize wc.drew = w91 at HO_5 BK109 HB hHeld ⊢
               refine pure_ (i := 0) (N := some 40) (v := ?_) (a' := ?_) #[true, false, false, false, false, false, false, false, false, false, false, false, false, false] rfl rfl (any_of HT_.out (by kernel_rfl)) (fun _ _ _ h => h) (Or.inl ⟨by rfl, ?_⟩) ?_ ?_
               rotate_left
               ·intro w'
                go_simp
                with_reducible rfl
               rotate_left
               ·simp only [Act.put, List.setIfInBounds_toArray, List.set_cons_zero, List.set_cons_succ, i64_w, i32_w]
                rfl
               refine pure_ (i := 1) (N := some 41) (v := ?_) (a' := ?_) #[true, true, false, false, false, false, false, false, false, false, false, false, false, false] rfl rfl (any_of HT_.out (by kernel_rfl)) (fun _ _ _ h => h) (Or.inl ⟨by rfl, ?_⟩) ?_ ?_
               rotate_left
               ·intro w'
                go_simp
                with_reducible rfl
               rotate_left
               ·simp only [Act.put, List.setIfInBounds_toArray, List.set_cons_zero, List.set_cons_succ, i64_w, i32_w]
                rfl
               refine pure_ (i := 3) (N := some 43) (v := ?_) (a' := ?_) #[true, true, false, true, false, false, false, false, false, false, false, false, false, false] rfl rfl (any_of HT_.out (by kernel_rfl)) (fun _ _ _ h => h) (Or.inl ⟨by rfl, ?_⟩) ?_ ?_
               rotate_left
               ·intro w'
                go_simp
                with_reducible rfl
               rotate_left
               ·simp only [Act.put, List.setIfInBounds_toArray, List.set_cons_zero, List.set_cons_succ, i64_w, i32_w]
                rfl
               refine pure_ (i := 5) (N := some 45) (v := ?_) (a' := ?_) #[true, true, false, true, false, true, false, false, false, false, false, false, false, false] rfl rfl (any_of HT_.out (by kernel_rfl)) (fun _ _ _ h => h) (Or.inl ⟨by rfl, ?_⟩) ?_ ?_
               rotate_left
               ·intro w'
                go_simp
                with_reducible rfl
               rotate_left
               ·simp only [Act.put, List.setIfInBounds_toArray, List.set_cons_zero, List.set_cons_succ, i64_w, i32_w]
                rfl
               refine pure_ (i := 8) (N := some 48) (v := ?_) (a' := ?_) #[true, true, false, true, false, true, false, false, true, false, false, false, false, false] rfl rfl (any_of HT_.out (by kernel_rfl)) (fun _ _ _ h => h) (Or.inl ⟨by rfl, ?_⟩) ?_ ?_
               rotate_left
               ·intro w'
                go_simp
                with_reducible rfl
               rotate_left
               ·simp only [Act.put, List.setIfInBounds_toArray, List.set_cons_zero, List.set_cons_succ, i64_w, i32_w]
                rfl
               refine pure_ (i := 10) (N := some 50) (v := ?_) (a' := ?_) #[true, true, false, true, false, true, false, false, true, false, true, false, false, false] rfl rfl (any_of HT_.out (by kernel_rfl)) (fun _ _ _ h => h) (Or.inl ⟨by rfl, ?_⟩) ?_ ?_
               rotate_left
               ·intro w'
                go_simp
                with_reducible rfl
               rotate_left
               ·simp only [Act.put, List.setIfInBounds_toArray, List.set_cons_zero, List.set_cons_succ, i64_w, i32_w]
                rfl
               refine take_ (i := 4) (N := some 44) (v := ?_) (a' := ?_) #[true, true, false, true, true, true, false, false, true, false, true, false, false, false] rfl rfl (take_ofW HT_.out HW_.out (by kernel_rfl)) (fun _ _ _ h => h) (Or.inl ⟨by rfl, ?_⟩) hHeld ?_ ?_
               rotate_left
               ·rintro w' ⟨s0, s1, s2, s3, s4, s5, s6, s7, s8, s9, s10⟩
                go_simp
                with_reducible rfl
               rotate_left
               ·simp only [Act.put, List.setIfInBounds_toArray, List.set_cons_zero, List.set_cons_succ, i64_w, i32_w]
                rfl
               refine pure_ (i := 6) (N := some 46) (v := ?_) (a' := ?_) #[true, true, false, true, true, true, true, false, true, false, true, false, false, false] rfl rfl (any_of HT_.out (by kernel_rfl)) (fun _ _ _ h => h) (Or.inl ⟨by rfl, ?_⟩) ?_ ?_
               rotate_left
               ·intro w'
                go_simp
                with_reducible rfl
               rotate_left
               ·simp only [Act.put, List.setIfInBounds_toArray, List.set_cons_zero, List.set_cons_succ, i64_w, i32_w]
                rfl
               refine take_ (i := 11) (N := some 51) (v := ?_) (a' := ?_) #[true, true, false, true, true, true, true, false, true, false, true, true, false, false] rfl rfl (take_ofW HT_.out HW_.out (by kernel_rfl)) (fun _ _ _ h => h) (Or.inl ⟨by rfl, ?_⟩) hHeld ?_ ?_
               rotate_left
               ·rintro w' ⟨s0, s1, s2, s3, s4, s5, s6, s7, s8, s9, s10⟩
                go_simp
                with_reducible rfl
               rotate_left
               ·simp only [Act.put, List.setIfInBounds_toArray, List.set_cons_zero, List.set_cons_succ, i64_w, i32_w]
                rfl
               refine one_ (i := 2) (N := some 42) #[true, true, true, true, true, true, true, false, true, false, true, true, false, false] rfl rfl (one_of HT_.out (by kernel_rfl)) (by decide) (fun K hK => ?_)
               refine goes_ Tryd.func33 (by kernel_rfl) rfl #[.slice Ao92 x5_1.length co92, .int .i64 t110] (by rfl) rfl rfl (by (try simp only [List.map_toArray, List.map_cons, List.map_nil]); first | done | rfl | (simp only [List.length_drop, List.length_take]; rfl)) ?_
               with_reducible refine (num_Put.calls _ _ x5_1 t110 t111 _ ?side1 ?side2 A17.out).mono ?_
               (case side1 => repeat (first | exact (Kd.R_reads' HO_5.out).2.2 | (with_reducible refine Kd.C_alloc ?_ _) | (with_reducible refine Kd.C_drewN ?_ _) | (with_reducible refine Kd.C_drew ?_)))
               (case side2 => exact (Kd.R_reads' HO_5.out).2.1)
               rintro e w93 ⟨v112, rfl, ho0, hb⟩
               refine ⟨_, rfl, ?_⟩
               have n0_ := Aside0.mk (Kd.R_elder' (by (with_reducible repeat (first | apply Kd.R_alloc | apply Kd.R_drewN | apply Kd.R_drew)); exact HO_5.out) (Kd.R_base ho0) hb)
               have n1_ := Aside0.mk (Kd.R_lower (Kd.R_new' ho0 (Kd.R_lt (by (with_reducible repeat (first | apply Kd.R_alloc | apply Kd.R_drewN | apply Kd.R_drew)); exact HO_5.out))) (below_size (by repeat (first | (with_reducible first | exact HB.out | apply below_alloc | apply pw_below_drewN | apply below_drew1 | refine below_set ?_ GE109.out) | exact HB.out))))
               have n2_ := Aside0.mk (blk_below (g := gb109) (o := .cells #[.string ((rd_T35 l0 x23_1).f0), .int .i64 ((rd_T35 l0 x23_1).f1), .int .i64 ((rd_T35 l0 x23_1).f2), .int .i64 ((rd_T35 l0 x23_1).f3.f0), .int .i64 ((rd_T35 l0 x23_1).f3.f1), .int .i64 ((rd_T35 l0 x23_1).f3.f2), .int .i64 ((rd_T35 l0 x23_1).f3.f3), .int .i64 ((rd_T35 l0 x23_1).f3.f4), .string ((rd_T35 l0 x23_1).f4), .string ((rd_T35 l0 x23_1).f5), .int .i64 ((rd_T35 l0 x23_1).f6)] 35 (0, 0)) (by (with_reducible repeat (first | refine blk_drewN ?_ _ | refine blk_drew ?_ | refine blk_alloc ?_ _)); exact BK109.out) hb)
               have n3_ := Aside0.mk (below_step (by repeat (first | (with_reducible first | exact HB.out | apply below_alloc | apply pw_below_drewN | apply below_drew1 | refine below_set ?_ GE109.out) | exact HB.out)) hb)
               clear HO_5
               clear BK109
               clear HB
               have HO_5 := n0_
               have HO113 := n1_
               have BK109 := n2_
               have HB := n3_
               clear n0_ n1_ n2_ n3_
               (try clear hb)
               (try clear hb2)
               (try clear hk)
               (try clear hi)
               (try clear ho0)
               obtain ⟨Ao94, co94, eo94⟩ := Kd.R_slice HO113.out
               (first | subst eo94 | (injection eo94 with f1_ f2_ f3_; have f4_ := f1_.symm; have f5_ := f3_.symm; clear f1_ f2_ f3_; subst f4_; subst f5_))
               refine hK.out _ _ ⟨(blk_cell BK109.out 0).trans rfl, (blk_cell BK109.out 1).trans rfl, (blk_cell BK109.out 2).trans rfl, (blk_cell BK109.out 3).trans rfl, (blk_cell BK109.out 4).trans rfl, (blk_cell BK109.out 5).trans rfl, (blk_cell BK109.out 6).trans rfl, (blk_cell BK109.out 7).trans rfl, (blk_cell BK109.out 8).trans rfl, (blk_cell BK109.out 9).trans rfl, (blk_cell BK109.out 10).trans rfl⟩ (fun hHeld => ?_)
               clear hK K
               refine norm_ (a' := ?_) ?_ ?_
               rotate_left
               ·show Act.put _ (some 42) _ = _
                simp only [Act.put, List.setIfInBounds_toArray, List.set_cons_zero, List.set_cons_succ, i64_w, i32_w]
                rfl
               refine one_ (i := 7) (N := some 47) #[true, true, true, true, true, true, true, true, true, false, true, true, false, false] rfl rfl (one_of HT_.out (by kernel_rfl)) (by decide) (fun K hK => ?_)
               refine goes_ Tryd.func35 (by kernel_rfl) rfl #[.slice Ao94 t111.length co94, .string (((rd_T35 l0 x23_1).f0).extract (t110 : Int).toNat ((rd_T35 l0 x23_1).f0).size)] (by rfl) rfl rfl (by (try simp only [List.map_toArray, List.map_cons, List.map_nil]); first | done | rfl | (simp only [List.length_drop, List.length_take]; rfl)) ?_
               with_reducible refine (num_PutText.calls _ _ t111 (((rd_T35 l0 x23_1).f0).extract (t110 : Int).toNat ((rd_T35 l0 x23_1).f0).size) t114 _ ?side1 ?side2 A20.out).mono ?_
               (case side1 => repeat (first | exact (Kd.R_reads' HO113.out).2.2 | (with_reducible refine Kd.C_alloc ?_ _) | (with_reducible refine Kd.C_drewN ?_ _) | (with_reducible refine Kd.C_drew ?_)))
               (case side2 => exact (Kd.R_reads' HO113.out).2.1)
               rintro e w95 ⟨v115, rfl, ho0, hb⟩
               refine ⟨_, rfl, ?_⟩
               have n0_ := Aside0.mk (Kd.R_elder' (by (with_reducible repeat (first | apply Kd.R_alloc | apply Kd.R_drewN | apply Kd.R_drew)); exact HO_5.out) (Kd.R_base ho0) hb)
               have n1_ := Aside0.mk (Kd.R_elder' (by (with_reducible repeat (first | apply Kd.R_alloc | apply Kd.R_drewN | apply Kd.R_drew)); exact HO113.out) (Kd.R_base ho0) hb)
               have n2_ := Aside0.mk (Kd.R_lower (Kd.R_new' (Kd.R_new' ho0 (Kd.R_lt (by (with_reducible repeat (first | apply Kd.R_alloc | apply Kd.R_drewN | apply Kd.R_drew)); exact HO_5.out))) (Kd.R_lt (by (with_reducible repeat (first | apply Kd.R_alloc | apply Kd.R_drewN | apply Kd.R_drew)); exact HO113.out))) (below_size (by repeat (first | (with_reducible first | exact HB.out | apply below_alloc | apply pw_below_drewN | apply below_drew1 | refine below_set ?_ GE109.out) | exact HB.out))))
               have n3_ := Aside0.mk (blk_below (g := gb109) (o := .cells #[.string ((rd_T35 l0 x23_1).f0), .int .i64 ((rd_T35 l0 x23_1).f1), .int .i64 ((rd_T35 l0 x23_1).f2), .int .i64 ((rd_T35 l0 x23_1).f3.f0), .int .i64 ((rd_T35 l0 x23_1).f3.f1), .int .i64 ((rd_T35 l0 x23_1).f3.f2), .int .i64 ((rd_T35 l0 x23_1).f3.f3), .int .i64 ((rd_T35 l0 x23_1).f3.f4), .string ((rd_T35 l0 x23_1).f4), .string ((rd_T35 l0 x23_1).f5), .int .i64 ((rd_T35 l0 x23_1).f6)] 35 (0, 0)) (by (with_reducible repeat (first | refine blk_drewN ?_ _ | refine blk_drew ?_ | refine blk_alloc ?_ _)); exact BK109.out) hb)
               have n4_ := Aside0.mk (below_step (by repeat (first | (with_reducible first | exact HB.out | apply below_alloc | apply pw_below_drewN | apply below_drew1 | refine below_set ?_ GE109.out) | exact HB.out)) hb)
               clear HO_5
               clear HO113
               clear BK109
               clear HB
               have HO_5 := n0_
               have HO113 := n1_
               have HO116 := n2_
               have BK109 := n3_
               have HB := n4_
               clear n0_ n1_ n2_ n3_ n4_
               (try clear hb)
               (try clear hb2)
               (try clear hk)
               (try clear hi)
               (try clear ho0)
               obtain ⟨Ao96, co96, eo96⟩ := Kd.R_slice HO116.out
               (first | subst eo96 | (injection eo96 with f1_ f2_ f3_; have f4_ := f1_.symm; have f5_ := f3_.symm; clear f1_ f2_ f3_; subst f4_; subst f5_))
               refine hK.out _ _ ⟨(blk_cell BK109.out 0).trans rfl, (blk_cell BK109.out 1).trans rfl, (blk_cell BK109.out 2).trans rfl, (blk_cell BK109.out 3).trans rfl, (blk_cell BK109.out 4).trans rfl, (blk_cell BK109.out 5).trans rfl, (blk_cell BK109.out 6).trans rfl, (blk_cell BK109.out 7).trans rfl, (blk_cell BK109.out 8).trans rfl, (blk_cell BK109.out 9).trans rfl, (blk_cell BK109.out 10).trans rfl⟩ (fun hHeld => ?_)
               clear hK K
               refine norm_ (a' := ?_) ?_ ?_
               rotate_left
               ·show Act.put _ (some 47) _ = _
                simp only [Act.put, List.setIfInBounds_toArray, List.set_cons_zero, List.set_cons_succ, i64_w, i32_w]
                rfl
               refine one_ (i := 9) (N := some 49) #[true, true, true, true, true, true, true, true, true, true, true, true, false, false] rfl rfl (one_of HT_.out (by kernel_rfl)) (by decide) (fun K hK => ?_)
               refine goes_ Tryd.func33 (by kernel_rfl) rfl #[.slice Ao96 t114.length co96, .int .i64 x10_10] (by rfl) rfl rfl (by (try simp only [List.map_toArray, List.map_cons, List.map_nil]); first | done | rfl | (simp only [List.length_drop, List.length_take]; rfl)) ?_
               with_reducible refine (num_Put.calls _ _ t114 x10_10 t117 _ ?side1 ?side2 A21.out).mono ?_
               (case side1 => repeat (first | exact (Kd.R_reads' HO116.out).2.2 | (with_reducible refine Kd.C_alloc ?_ _) | (with_reducible refine Kd.C_drewN ?_ _) | (with_reducible refine Kd.C_drew ?_)))
               (case side2 => exact (Kd.R_reads' HO116.out).2.1)
               rintro e w97 ⟨v118, rfl, ho0, hb⟩
               refine ⟨_, rfl, ?_⟩
               have n0_ := Aside0.mk (Kd.R_elder' (by (with_reducible repeat (first | apply Kd.R_alloc | apply Kd.R_drewN | apply Kd.R_drew)); exact HO_5.out) (Kd.R_base ho0) hb)
               have n1_ := Aside0.mk (Kd.R_elder' (by (with_reducible repeat (first | apply Kd.R_alloc | apply Kd.R_drewN | apply Kd.R_drew)); exact HO113.out) (Kd.R_base ho0) hb)
               have n2_ := Aside0.mk (Kd.R_elder' (by (with_reducible repeat (first | apply Kd.R_alloc | apply Kd.R_drewN | apply Kd.R_drew)); exact HO116.out) (Kd.R_base ho0) hb)
               have n3_ := Aside0.mk (Kd.R_lower (Kd.R_new' (Kd.R_new' (Kd.R_new' ho0 (Kd.R_lt (by (with_reducible repeat (first | apply Kd.R_alloc | apply Kd.R_drewN | apply Kd.R_drew)); exact HO_5.out))) (Kd.R_lt (by (with_reducible repeat (first | apply Kd.R_alloc | apply Kd.R_drewN | apply Kd.R_drew)); exact HO113.out))) (Kd.R_lt (by (with_reducible repeat (first | apply Kd.R_alloc | apply Kd.R_drewN | apply Kd.R_drew)); exact HO116.out))) (below_size (by repeat (first | (with_reducible first | exact HB.out | apply below_alloc | apply pw_below_drewN | apply below_drew1 | refine below_set ?_ GE109.out) | exact HB.out))))
               have n4_ := Aside0.mk (blk_below (g := gb109) (o := .cells #[.string ((rd_T35 l0 x23_1).f0), .int .i64 ((rd_T35 l0 x23_1).f1), .int .i64 ((rd_T35 l0 x23_1).f2), .int .i64 ((rd_T35 l0 x23_1).f3.f0), .int .i64 ((rd_T35 l0 x23_1).f3.f1), .int .i64 ((rd_T35 l0 x23_1).f3.f2), .int .i64 ((rd_T35 l0 x23_1).f3.f3), .int .i64 ((rd_T35 l0 x23_1).f3.f4), .string ((rd_T35 l0 x23_1).f4), .string ((rd_T35 l0 x23_1).f5), .int .i64 ((rd_T35 l0 x23_1).f6)] 35 (0, 0)) (by (with_reducible repeat (first | refine blk_drewN ?_ _ | refine blk_drew ?_ | refine blk_alloc ?_ _)); exact BK109.out) hb)
               have n5_ := Aside0.mk (below_step (by repeat (first | (with_reducible first | exact HB.out | apply below_alloc | apply pw_below_drewN | apply below_drew1 | refine below_set ?_ GE109.out) | exact HB.out)) hb)
               clear HO_5
               clear HO113
               clear HO116
               clear BK109
               clear HB
               have HO_5 := n0_
               have HO113 := n1_
               have HO116 := n2_
               have HO119 := n3_
               have BK109 := n4_
               have HB := n5_
               clear n0_ n1_ n2_ n3_ n4_ n5_
               (try clear hb)
               (try clear hb2)
               (try clear hk)
               (try clear hi)
               (try clear ho0)
               obtain ⟨Ao98, co98, eo98⟩ := Kd.R_slice HO119.out
               (first | subst eo98 | (injection eo98 with f1_ f2_ f3_; have f4_ := f1_.symm; have f5_ := f3_.symm; clear f1_ f2_ f3_; subst f4_; subst f5_))
               refine hK.out _ _ ⟨(blk_cell BK109.out 0).trans rfl, (blk_cell BK109.out 1).trans rfl, (blk_cell BK109.out 2).trans rfl, (blk_cell BK109.out 3).trans rfl, (blk_cell BK109.out 4).trans rfl, (blk_cell BK109.out 5).trans rfl, (blk_cell BK109.out 6).trans rfl, (blk_cell BK109.out 7).trans rfl, (blk_cell BK109.out 8).trans rfl, (blk_cell BK109.out 9).trans rfl, (blk_cell BK109.out 10).trans rfl⟩ (fun hHeld => ?_)
               clear hK K
               refine norm_ (a' := ?_) ?_ ?_
               rotate_left
               ·show Act.put _ (some 49) _ = _
                simp only [Act.put, List.setIfInBounds_toArray, List.set_cons_zero, List.set_cons_succ, i64_w, i32_w]
                rfl
               refine one_ (i := 12) (N := some 52) #[true, true, true, true, true, true, true, true, true, true, true, true, true, false] rfl rfl (one_of HT_.out (by kernel_rfl)) (by decide) (fun K hK => ?_)
               refine goes_ Tryd.func33 (by kernel_rfl) rfl #[.slice Ao98 t117.length co98, .int .i64 ((rd_T35 l0 x23_1).f2)] (by rfl) rfl rfl (by (try simp only [List.map_toArray, List.map_cons, List.map_nil]); first | done | rfl | (simp only [List.length_drop, List.length_take]; rfl)) ?_
               with_reducible refine (num_Put.calls _ _ t117 ((rd_T35 l0 x23_1).f2) t120 _ ?side1 ?side2 A22.out).mono ?_
               (case side1 => repeat (first | exact (Kd.R_reads' HO119.out).2.2 | (with_reducible refine Kd.C_alloc ?_ _) | (with_reducible refine Kd.C_drewN ?_ _) | (with_reducible refine Kd.C_drew ?_)))
               (case side2 => exact (Kd.R_reads' HO119.out).2.1)
               rintro e w99 ⟨v121, rfl, ho0, hb⟩
               refine ⟨_, rfl, ?_⟩
               have n0_ := Aside0.mk (Kd.R_elder' (by (with_reducible repeat (first | apply Kd.R_alloc | apply Kd.R_drewN | apply Kd.R_drew)); exact HO_5.out) (Kd.R_base ho0) hb)
               have n1_ := Aside0.mk (Kd.R_elder' (by (with_reducible repeat (first | apply Kd.R_alloc | apply Kd.R_drewN | apply Kd.R_drew)); exact HO113.out) (Kd.R_base ho0) hb)
               have n2_ := Aside0.mk (Kd.R_elder' (by (with_reducible repeat (first | apply Kd.R_alloc | apply Kd.R_drewN | apply Kd.R_drew)); exact HO116.out) (Kd.R_base ho0) hb)
               have n3_ := Aside0.mk (Kd.R_elder' (by (with_reducible repeat (first | apply Kd.R_alloc | apply Kd.R_drewN | apply Kd.R_drew)); exact HO119.out) (Kd.R_base ho0) hb)
               have n4_ := Aside0.mk (Kd.R_lower (Kd.R_new' (Kd.R_new' (Kd.R_new' (Kd.R_new' ho0 (Kd.R_lt (by (with_reducible repeat (first | apply Kd.R_alloc | apply Kd.R_drewN | apply Kd.R_drew)); exact HO_5.out))) (Kd.R_lt (by (with_reducible repeat (first | apply Kd.R_alloc | apply Kd.R_drewN | apply Kd.R_drew)); exact HO113.out))) (Kd.R_lt (by (with_reducible repeat (first | apply Kd.R_alloc | apply Kd.R_drewN | apply Kd.R_drew)); exact HO116.out))) (Kd.R_lt (by (with_reducible repeat (first | apply Kd.R_alloc | apply Kd.R_drewN | apply Kd.R_drew)); exact HO119.out))) (below_size (by repeat (first | (with_reducible first | exact HB.out | apply below_alloc | apply pw_below_drewN | apply below_drew1 | refine below_set ?_ GE109.out) | exact HB.out))))
               have n5_ := Aside0.mk (blk_below (g := gb109) (o := .cells #[.string ((rd_T35 l0 x23_1).f0), .int .i64 ((rd_T35 l0 x23_1).f1), .int .i64 ((rd_T35 l0 x23_1).f2), .int .i64 ((rd_T35 l0 x23_1).f3.f0), .int .i64 ((rd_T35 l0 x23_1).f3.f1), .int .i64 ((rd_T35 l0 x23_1).f3.f2), .int .i64 ((rd_T35 l0 x23_1).f3.f3), .int .i64 ((rd_T35 l0 x23_1).f3.f4), .string ((rd_T35 l0 x23_1).f4), .string ((rd_T35 l0 x23_1).f5), .int .i64 ((rd_T35 l0 x23_1).f6)] 35 (0, 0)) (by (with_reducible repeat (first | refine blk_drewN ?_ _ | refine blk_drew ?_ | refine blk_alloc ?_ _)); exact BK109.out) hb)
               have n6_ := Aside0.mk (below_step (by repeat (first | (with_reducible first | exact HB.out | apply below_alloc | apply pw_below_drewN | apply below_drew1 | refine below_set ?_ GE109.out) | exact HB.out)) hb)
               clear HO_5
               clear HO113
               clear HO116
               clear HO119
               clear BK109
               clear HB
               have HO_5 := n0_
               have HO113 := n1_
               have HO116 := n2_
               have HO119 := n3_
               have HO122 := n4_
               have BK109 := n5_
               have HB := n6_
               clear n0_ n1_ n2_ n3_ n4_ n5_ n6_
               (try clear hb)
               (try clear hb2)
               (try clear hk)
               (try clear hi)
               (try clear ho0)
               refine hK.out _ _ ⟨(blk_cell BK109.out 0).trans rfl, (blk_cell BK109.out 1).trans rfl, (blk_cell BK109.out 2).trans rfl, (blk_cell BK109.out 3).trans rfl, (blk_cell BK109.out 4).trans rfl, (blk_cell BK109.out 5).trans rfl, (blk_cell BK109.out 6).trans rfl, (blk_cell BK109.out 7).trans rfl, (blk_cell BK109.out 8).trans rfl, (blk_cell BK109.out 9).trans rfl, (blk_cell BK109.out 10).trans rfl⟩ (fun hHeld => ?_)
               clear hK K
               refine norm_ (a' := ?_) ?_ ?_
               rotate_left
               ·show Act.put _ (some 52) _ = _
                simp only [Act.put, List.setIfInBounds_toArray, List.set_cons_zero, List.set_cons_succ, i64_w, i32_w]
                rfl
               refine pure_ (i := 13) (N := some 5) (v := ?_) (a' := ?_) #[true, true, true, true, true, true, true, true, true, true, true, true, true, true] rfl rfl (any_of HT_.out (by kernel_rfl)) (fun _ _ _ h => h) (Or.inl ⟨by rfl, ?_⟩) ?_ ?_
               rotate_left
               ·intro w'
                go_simp
                with_reducible rfl
               rotate_left
               ·simp only [Act.put, List.setIfInBounds_toArray, List.set_cons_zero, List.set_cons_succ, i64_w, i32_w]
                rfl
               refine done_ (done_of HT_.out (by kernel_rfl)) ?_
               have hcz100_0 : w99.cell? ⟨gb109, 0, none⟩ = some (.string ((rd_T35 l0 x23_1).f0)) := (blk_cell BK109.out 0).trans rfl
               have hcz100_1 : w99.cell? ⟨gb109, 1, none⟩ = some (.int .i64 ((rd_T35 l0 x23_1).f1)) := (blk_cell BK109.out 1).trans rfl
               have hcz100_2 : w99.cell? ⟨gb109, 2, none⟩ = some (.int .i64 ((rd_T35 l0 x23_1).f2)) := (blk_cell BK109.out 2).trans rfl
               have hcz100_3 : w99.cell? ⟨gb109, 3, none⟩ = some (.int .i64 ((rd_T35 l0 x23_1).f3.f0)) := (blk_cell BK109.out 3).trans rfl
               have hcz100_4 : w99.cell? ⟨gb109, 4, none⟩ = some (.int .i64 ((rd_T35 l0 x23_1).f3.f1)) := (blk_cell BK109.out 4).trans rfl
               have hcz100_5 : w99.cell? ⟨gb109, 5, none⟩ = some (.int .i64 ((rd_T35 l0 x23_1).f3.f2)) := (blk_cell BK109.out 5).trans rfl
               have hcz100_6 : w99.cell? ⟨gb109, 6, none⟩ = some (.int .i64 ((rd_T35 l0 x23_1).f3.f3)) := (blk_cell BK109.out 6).trans rfl
               have hcz100_7 : w99.cell? ⟨gb109, 7, none⟩ = some (.int .i64 ((rd_T35 l0 x23_1).f3.f4)) := (blk_cell BK109.out 7).trans rfl
               have hcz100_8 : w99.cell? ⟨gb109, 8, none⟩ = some (.string ((rd_T35 l0 x23_1).f4)) := (blk_cell BK109.out 8).trans rfl
               have hcz100_9 : w99.cell? ⟨gb109, 9, none⟩ = some (.string ((rd_T35 l0 x23_1).f5)) := (blk_cell BK109.out 9).trans rfl
               have hcz100_10 : w99.cell? ⟨gb109, 10, none⟩ = some (.int .i64 ((rd_T35 l0 x23_1).f6)) := (blk_cell BK109.out 10).trans rfl
               have hfz100_0 := blk_frozen BK109.out 0
               have hfz100_1 := blk_frozen BK109.out 1
               have hfz100_2 := blk_frozen BK109.out 2
               have hfz100_3 := blk_frozen BK109.out 3
               have hfz100_4 := blk_frozen BK109.out 4
               have hfz100_5 := blk_frozen BK109.out 5
               have hfz100_6 := blk_frozen BK109.out 6
               have hfz100_7 := blk_frozen BK109.out 7
               have hfz100_8 := blk_frozen BK109.out 8
               have hfz100_9 := blk_frozen BK109.out 9
               have hfz100_10 := blk_frozen BK109.out 10
               try go_wp2_with (first | ((with_reducible refine gate_callee (f := 36) rfl ?_); refine goesL_ (some 56) rfl rfl Tryd.func36 (by kernel_rfl) rfl #[.agg #[.int .i64 ((rd_T35 l0 x23_1).f3.f0), .int .i64 ((rd_T35 l0 x23_1).f3.f1), .int .i64 ((rd_T35 l0 x23_1).f3.f2), .int .i64 ((rd_T35 l0 x23_1).f3.f3), .int .i64 ((rd_T35 l0 x23_1).f3.f4)]] rfl (by (try simp only [List.map_toArray, List.map_cons, List.map_nil]); first | done | rfl | (simp only [List.length_drop, List.length_take]; rfl)) ?_; (with_reducible refine (meta_Bytes.calls ((rd_T35 l0 x23_1).f3.f0) ((rd_T35 l0 x23_1).f3.f1) ((rd_T35 l0 x23_1).f3.f2) ((rd_T35 l0 x23_1).f3.f3) ((rd_T35 l0 x23_1).f3.f4) t123 t126 _ A23.out).mono ?_); rintro e w101 ⟨v124, rfl, ho0, hb⟩; refine ⟨_, rfl, ?_⟩; have n0_ := Aside0.mk (Kd.R_elder' (by (with_reducible repeat (first | apply Kd.R_alloc | apply Kd.R_drewN | apply Kd.R_drew)); exact HO_5.out) (Kd.R_base ho0) hb); have n1_ := Aside0.mk (Kd.R_elder' (by (with_reducible repeat (first | apply Kd.R_alloc | apply Kd.R_drewN | apply Kd.R_drew)); exact HO113.out) (Kd.R_base ho0) hb); have n2_ := Aside0.mk (Kd.R_elder' (by (with_reducible repeat (first | apply Kd.R_alloc | apply Kd.R_drewN | apply Kd.R_drew)); exact HO116.out) (Kd.R_base ho0) hb); have n3_ := Aside0.mk (Kd.R_elder' (by (with_reducible repeat (first | apply Kd.R_alloc | apply Kd.R_drewN | apply Kd.R_drew)); exact HO119.out) (Kd.R_base ho0) hb); have n4_ := Aside0.mk (Kd.R_elder' (by (with_reducible repeat (first | apply Kd.R_alloc | apply Kd.R_drewN | apply Kd.R_drew)); exact HO122.out) (Kd.R_base ho0) hb); have n5_ := Aside0.mk (Kd.R_lower (Kd.R_new' (Kd.R_new' (Kd.R_new' (Kd.R_new' (Kd.R_new' ho0 (Kd.R_lt (by (with_reducible repeat (first | apply Kd.R_alloc | apply Kd.R_drewN | apply Kd.R_drew)); exact HO_5.out))) (Kd.R_lt (by (with_reducible repeat (first | apply Kd.R_alloc | apply Kd.R_drewN | apply Kd.R_drew)); exact HO113.out))) (Kd.R_lt (by (with_reducible repeat (first | apply Kd.R_alloc | apply Kd.R_drewN | apply Kd.R_drew)); exact HO116.out))) (Kd.R_lt (by (with_reducible repeat (first | apply Kd.R_alloc | apply Kd.R_drewN | apply Kd.R_drew)); exact HO119.out))) (Kd.R_lt (by (with_reducible repeat (first | apply Kd.R_alloc | apply Kd.R_drewN | apply Kd.R_drew)); exact HO122.out))) (below_size (by repeat (first | (with_reducible first | exact HB.out | apply below_alloc | apply pw_below_drewN | apply below_drew1 | refine below_set ?_ GE109.out) | exact HB.out)))); have n6_ := Aside0.mk (blk_below (g := gb109) (o := .cells #[.string ((rd_T35 l0 x23_1).f0), .int .i64 ((rd_T35 l0 x23_1).f1), .int .i64 ((rd_T35 l0 x23_1).f2), .int .i64 ((rd_T35 l0 x23_1).f3.f0), .int .i64 ((rd_T35 l0 x23_1).f3.f1), .int .i64 ((rd_T35 l0 x23_1).f3.f2), .int .i64 ((rd_T35 l0 x23_1).f3.f3), .int .i64 ((rd_T35 l0 x23_1).f3.f4), .string ((rd_T35 l0 x23_1).f4), .string ((rd_T35 l0 x23_1).f5), .int .i64 ((rd_T35 l0 x23_1).f6)] 35 (0, 0)) (by (with_reducible repeat (first | refine blk_drewN ?_ _ | refine blk_drew ?_ | refine blk_alloc ?_ _)); exact BK109.out) hb); have n7_ := Aside0.mk (below_step (by repeat (first | (with_reducible first | exact HB.out | apply below_alloc | apply pw_below_drewN | apply below_drew1 | refine below_set ?_ GE109.out) | exact HB.out)) hb); clear HO_5; clear HO113; clear HO116; clear HO119; clear HO122; clear BK109; clear HB; have HO_5 := n0_; have HO113 := n1_; have HO116 := n2_; have HO119 := n3_; have HO122 := n4_; have HO125 := n5_; have BK109 := n6_; have HB := n7_; clear n0_ n1_ n2_ n3_ n4_ n5_ n6_ n7_; (try clear hb); (try clear hb2); (try clear hk); (try clear hi); (try clear ho0); obtain ⟨Ao103, co103, eo103⟩ := Kd.R_slice HO125.out; subst eo103) | ((with_reducible refine gate_builtin (b := .append) (xs := #[.tmp 59, .tmp 60]) rfl ?_); at_builtin; refine Kd.R_append_rows (Kd.int .u8) (w0 := w) w.heap.size rfl (.tmp 59) (.tmp 60) 27 5 (.int .u8 0) 1 rfl Tryd.underlying27 info5 rfl (by decide) (by omega) v121 t120 t123 _ _ _ (fun k_ => some k_ ≠ (.slice Ao92 x5_1.length co92 : Value).ownBlock ∧ some k_ ≠ (.slice Ao94 t111.length co94 : Value).ownBlock ∧ some k_ ≠ (.slice Ao96 t114.length co96 : Value).ownBlock ∧ some k_ ≠ (.slice Ao98 t117.length co98 : Value).ownBlock ∧ some k_ ≠ (.slice Ao103 t123.length co103 : Value).ownBlock) (fun _ => False) rfl rfl ?aO ?aR (fun _ _ h => h) (fun _ h => h.elim) ?aF ?aB ?aS ?aL ?_; (case aR => repeat (first | exact (Kd.R_reads' HO125.out).2.2 | (with_reducible refine Kd.C_alloc ?_ _) | (with_reducible refine Kd.C_drewN ?_ _) | (with_reducible refine Kd.C_drew ?_))); (case aB => exact (by repeat (first | (with_reducible first | exact HB.out | apply below_alloc | apply pw_below_drewN | apply below_drew1 | refine below_set ?_ GE109.out) | exact HB.out))); (case aF => exact (fun k_ hk => ⟨Kd.fresh' (Kd.R_lt (by (with_reducible repeat (first | apply Kd.R_alloc | apply Kd.R_drewN | apply Kd.R_drew)); exact HO_5.out)) k_ hk, Kd.fresh' (Kd.R_lt (by (with_reducible repeat (first | apply Kd.R_alloc | apply Kd.R_drewN | apply Kd.R_drew)); exact HO113.out)) k_ hk, Kd.fresh' (Kd.R_lt (by (with_reducible repeat (first | apply Kd.R_alloc | apply Kd.R_drewN | apply Kd.R_drew)); exact HO116.out)) k_ hk, Kd.fresh' (Kd.R_lt (by (with_reducible repeat (first | apply Kd.R_alloc | apply Kd.R_drewN | apply Kd.R_drew)); exact HO119.out)) k_ hk, Kd.fresh' (Kd.R_lt (by (with_reducible repeat (first | apply Kd.R_alloc | apply Kd.R_drewN | apply Kd.R_drew)); exact HO125.out)) k_ hk⟩)); (case aO => exact (by (with_reducible repeat (first | apply Kd.R_alloc | apply Kd.R_drewN | apply Kd.R_drew)); exact Kd.R_mono HO122.out (fun _ hk => ⟨hk.1.1.1.1.2, ⟨hk.1.1.1.2, ⟨hk.1.1.2, ⟨hk.1.2, hk.2⟩⟩⟩⟩))); (case aS => exact (below_size (by repeat (first | (with_reducible first | exact HB.out | apply below_alloc | apply pw_below_drewN | apply below_drew1 | refine below_set ?_ GE109.out) | exact HB.out)))); (case aL => have := LMc24.out; omega); intro v128 w102 ho hb hg hat; rw [← Ny127.out] at ho; have n0_ := Aside0.mk (Kd.R_after (ok := (fun k_ => some k_ ≠ (.slice Ao94 t111.length co94 : Value).ownBlock ∧ some k_ ≠ (.slice Ao96 t114.length co96 : Value).ownBlock ∧ some k_ ≠ (.slice Ao98 t117.length co98 : Value).ownBlock ∧ some k_ ≠ (.slice Ao103 t123.length co103 : Value).ownBlock)) (by (with_reducible repeat (first | apply Kd.R_alloc | apply Kd.R_drewN | apply Kd.R_drew)); exact Kd.R_mono HO_5.out (fun _ hk => ⟨⟨hk.1.1.1.1.2, ⟨hk.1.1.1.2, ⟨hk.1.1.2, hk.2⟩⟩⟩, hk.1.2⟩)) hg hat); have n1_ := Aside0.mk (blk_grown (g := gb109) (o := .cells #[.string ((rd_T35 l0 x23_1).f0), .int .i64 ((rd_T35 l0 x23_1).f1), .int .i64 ((rd_T35 l0 x23_1).f2), .int .i64 ((rd_T35 l0 x23_1).f3.f0), .int .i64 ((rd_T35 l0 x23_1).f3.f1), .int .i64 ((rd_T35 l0 x23_1).f3.f2), .int .i64 ((rd_T35 l0 x23_1).f3.f3), .int .i64 ((rd_T35 l0 x23_1).f3.f4), .string ((rd_T35 l0 x23_1).f4), .string ((rd_T35 l0 x23_1).f5), .int .i64 ((rd_T35 l0 x23_1).f6)] 35 (0, 0)) (by (with_reducible repeat (first | refine blk_drewN ?_ _ | refine blk_drew ?_ | refine blk_alloc ?_ _)); exact BK109.out) hg (Kd.R_ne HO122.out BK109.out (by decide))); have n2_ := Aside0.mk (Kd.R_after (ok := (fun k_ => some k_ ≠ (.slice Ao92 x5_1.length co92 : Value).ownBlock ∧ some k_ ≠ (.slice Ao96 t114.length co96 : Value).ownBlock ∧ some k_ ≠ (.slice Ao98 t117.length co98 : Value).ownBlock ∧ some k_ ≠ (.slice Ao103 t123.length co103 : Value).ownBlock)) (by (with_reducible repeat (first | apply Kd.R_alloc | apply Kd.R_drewN | apply Kd.R_drew)); exact Kd.R_mono HO113.out (fun _ hk => ⟨⟨hk.1.1.1.1.2, ⟨hk.1.1.1.2, ⟨hk.1.1.2, hk.2⟩⟩⟩, hk.1.2⟩)) hg hat); have n3_ := Aside0.mk (Kd.R_after (ok := (fun k_ => some k_ ≠ (.slice Ao92 x5_1.length co92 : Value).ownBlock ∧ some k_ ≠ (.slice Ao94 t111.length co94 : Value).ownBlock ∧ some k_ ≠ (.slice Ao98 t117.length co98 : Value).ownBlock ∧ some k_ ≠ (.slice Ao103 t123.length co103 : Value).ownBlock)) (by (with_reducible repeat (first | apply Kd.R_alloc | apply Kd.R_drewN | apply Kd.R_drew)); exact Kd.R_mono HO116.out (fun _ hk => ⟨⟨hk.1.1.1.1.2, ⟨hk.1.1.1.2, ⟨hk.1.1.2, hk.2⟩⟩⟩, hk.1.2⟩)) hg hat); have n4_ := Aside0.mk (Kd.R_after (ok := (fun k_ => some k_ ≠ (.slice Ao92 x5_1.length co92 : Value).ownBlock ∧ some k_ ≠ (.slice Ao94 t111.length co94 : Value).ownBlock ∧ some k_ ≠ (.slice Ao96 t114.length co96 : Value).ownBlock ∧ some k_ ≠ (.slice Ao103 t123.length co103 : Value).ownBlock)) (by (with_reducible repeat (first | apply Kd.R_alloc | apply Kd.R_drewN | apply Kd.R_drew)); exact Kd.R_mono HO119.out (fun _ hk => ⟨⟨hk.1.1.1.1.2, ⟨hk.1.1.1.2, ⟨hk.1.1.2, hk.2⟩⟩⟩, hk.1.2⟩)) hg hat); have n5_ := Aside0.mk (Kd.R_after (ok := (fun k_ => some k_ ≠ (.slice Ao92 x5_1.length co92 : Value).ownBlock ∧ some k_ ≠ (.slice Ao94 t111.length co94 : Value).ownBlock ∧ some k_ ≠ (.slice Ao96 t114.length co96 : Value).ownBlock ∧ some k_ ≠ (.slice Ao98 t117.length co98 : Value).ownBlock)) (by (with_reducible repeat (first | apply Kd.R_alloc | apply Kd.R_drewN | apply Kd.R_drew)); exact Kd.R_mono HO125.out (fun _ hk => ⟨⟨hk.1.1.1.1.2, ⟨hk.1.1.1.2, ⟨hk.1.1.2, hk.1.2⟩⟩⟩, hk.2⟩)) hg hat); have n6_ := Aside0.mk (hb); have n7_ := Aside0.mk (ho); clear HO_5; clear BK109; clear HO113; clear HO116; clear HO119; clear HO125; clear HB; clear HO122; have HO_5 := n0_; have BK109 := n1_; have HO113 := n2_; have HO116 := n3_; have HO119 := n4_; have HO125 := n5_; have HB := n6_; have HO129 := n7_; clear n0_ n1_ n2_ n3_ n4_ n5_ n6_ n7_; clear ho hb hg hat; have hcz104_0 : w102.cell? ⟨gb109, 0, none⟩ = some (.string ((rd_T35 l0 x23_1).f0)) := (blk_cell BK109.out 0).trans rfl; have hcz104_1 : w102.cell? ⟨gb109, 1, none⟩ = some (.int .i64 ((rd_T35 l0 x23_1).f1)) := (blk_cell BK109.out 1).trans rfl; have hcz104_2 : w102.cell? ⟨gb109, 2, none⟩ = some (.int .i64 ((rd_T35 l0 x23_1).f2)) := (blk_cell BK109.out 2).trans rfl; have hcz104_3 : w102.cell? ⟨gb109, 3, none⟩ = some (.int .i64 ((rd_T35 l0 x23_1).f3.f0)) := (blk_cell BK109.out 3).trans rfl; have hcz104_4 : w102.cell? ⟨gb109, 4, none⟩ = some (.int .i64 ((rd_T35 l0 x23_1).f3.f1)) := (blk_cell BK109.out 4).trans rfl; have hcz104_5 : w102.cell? ⟨gb109, 5, none⟩ = some (.int .i64 ((rd_T35 l0 x23_1).f3.f2)) := (blk_cell BK109.out 5).trans rfl; have hcz104_6 : w102.cell? ⟨gb109, 6, none⟩ = some (.int .i64 ((rd_T35 l0 x23_1).f3.f3)) := (blk_cell BK109.out 6).trans rfl; have hcz104_7 : w102.cell? ⟨gb109, 7, none⟩ = some (.int .i64 ((rd_T35 l0 x23_1).f3.f4)) := (blk_cell BK109.out 7).trans rfl; have hcz104_8 : w102.cell? ⟨gb109, 8, none⟩ = some (.string ((rd_T35 l0 x23_1).f4)) := (blk_cell BK109.out 8).trans rfl; have hcz104_9 : w102.cell? ⟨gb109, 9, none⟩ = some (.string ((rd_T35 l0 x23_1).f5)) := (blk_cell BK109.out 9).trans rfl; have hcz104_10 : w102.cell? ⟨gb109, 10, none⟩ = some (.int .i64 ((rd_T35 l0 x23_1).f6)) := (blk_cell BK109.out 10).trans rfl; have hfz104_0 := blk_frozen BK109.out 0; have hfz104_1 := blk_frozen BK109.out 1; have hfz104_2 := blk_frozen BK109.out 2; have hfz104_3 := blk_frozen BK109.out 3; have hfz104_4 := blk_frozen BK109.out 4; have hfz104_5 := blk_frozen BK109.out 5; have hfz104_6 := blk_frozen BK109.out 6; have hfz104_7 := blk_frozen BK109.out 7; have hfz104_8 := blk_frozen BK109.out 8; have hfz104_9 := blk_frozen BK109.out 9; have hfz104_10 := blk_frozen BK109.out 10) | (at_builtin; refine print_append_str (w0 := w) w.heap.size rfl (.tmp 69) _ 27 9 5 rfl Tryd.underlying27 Tryd.underlying9 info5 v128 y127 ((rd_T35 l0 x23_1).f5) rfl rfl ?aO ?aB ?aS ?aL ?_; (case aB => exact (by repeat (first | (with_reducible first | exact HB.out | apply below_alloc | apply pw_below_drewN | apply below_drew1 | refine below_set ?_ GE109.out) | exact HB.out))); (case aO => exact (Kd.own_of_R (by (with_reducible repeat (first | apply Kd.R_alloc | apply Kd.R_drewN | apply Kd.R_drew)); exact Kd.R_mono HO129.out (fun _ hk => trivial)))); (case aS => exact (below_size (by repeat (first | (with_reducible first | exact HB.out | apply below_alloc | apply pw_below_drewN | apply below_drew1 | refine below_set ?_ GE109.out) | exact HB.out)))); (case aL => have := LMc70.out; omega); intro v140 w105 ho0 hb hg; have ho := Kd.R_of_own (h1 := fun _ => rfl) (ok := fun _ => True) ho0 (fun _ _ => trivial); clear ho0; have hat := True.intro; rw [← Ny139.out] at ho; change Kd.R (Kd.int .u8) 5 w105 w.heap.size (fun _ => True) v140 y139 at ho; have n0_ := Aside0.mk (blk_grown (g := gb109) (o := .cells #[.string ((rd_T35 l0 x23_1).f0), .int .i64 ((rd_T35 l0 x23_1).f1), .int .i64 ((rd_T35 l0 x23_1).f2), .int .i64 ((rd_T35 l0 x23_1).f3.f0), .int .i64 ((rd_T35 l0 x23_1).f3.f1), .int .i64 ((rd_T35 l0 x23_1).f3.f2), .int .i64 ((rd_T35 l0 x23_1).f3.f3), .int .i64 ((rd_T35 l0 x23_1).f3.f4), .string ((rd_T35 l0 x23_1).f4), .string ((rd_T35 l0 x23_1).f5), .int .i64 ((rd_T35 l0 x23_1).f6)] 35 (0, 0)) (by (with_reducible repeat (first | refine blk_drewN ?_ _ | refine blk_drew ?_ | refine blk_alloc ?_ _)); exact BK109.out) hg (Kd.R_ne HO129.out BK109.out (by decide))); have n1_ := Aside0.mk (hb); have n2_ := Aside0.mk (ho); clear BK109; clear HB; clear HO129; have BK109 := n0_; have HB := n1_; have HO141 := n2_; clear n0_ n1_ n2_; clear ho hb hg hat; have hcz106_0 : w105.cell? ⟨gb109, 0, none⟩ = some (.string ((rd_T35 l0 x23_1).f0)) := (blk_cell BK109.out 0).trans rfl; have hcz106_1 : w105.cell? ⟨gb109, 1, none⟩ = some (.int .i64 ((rd_T35 l0 x23_1).f1)) := (blk_cell BK109.out 1).trans rfl; have hcz106_2 : w105.cell? ⟨gb109, 2, none⟩ = some (.int .i64 ((rd_T35 l0 x23_1).f2)) := (blk_cell BK109.out 2).trans rfl; have hcz106_3 : w105.cell? ⟨gb109, 3, none⟩ = some (.int .i64 ((rd_T35 l0 x23_1).f3.f0)) := (blk_cell BK109.out 3).trans rfl; have hcz106_4 : w105.cell? ⟨gb109, 4, none⟩ = some (.int .i64 ((rd_T35 l0 x23_1).f3.f1)) := (blk_cell BK109.out 4).trans rfl; have hcz106_5 : w105.cell? ⟨gb109, 5, none⟩ = some (.int .i64 ((rd_T35 l0 x23_1).f3.f2)) := (blk_cell BK109.out 5).trans rfl; have hcz106_6 : w105.cell? ⟨gb109, 6, none⟩ = some (.int .i64 ((rd_T35 l0 x23_1).f3.f3)) := (blk_cell BK109.out 6).trans rfl; have hcz106_7 : w105.cell? ⟨gb109, 7, none⟩ = some (.int .i64 ((rd_T35 l0 x23_1).f3.f4)) := (blk_cell BK109.out 7).trans rfl; have hcz106_8 : w105.cell? ⟨gb109, 8, none⟩ = some (.string ((rd_T35 l0 x23_1).f4)) := (blk_cell BK109.out 8).trans rfl; have hcz106_9 : w105.cell? ⟨gb109, 9, none⟩ = some (.string ((rd_T35 l0 x23_1).f5)) := (blk_cell BK109.out 9).trans rfl; have hcz106_10 : w105.cell? ⟨gb109, 10, none⟩ = some (.int .i64 ((rd_T35 l0 x23_1).f6)) := (blk_cell BK109.out 10).trans rfl; have hfz106_0 := blk_frozen BK109.out 0; have hfz106_1 := blk_frozen BK109.out 1; have hfz106_2 := blk_frozen BK109.out 2; have hfz106_3 := blk_frozen BK109.out 3; have hfz106_4 := blk_frozen BK109.out 4; have hfz106_5 := blk_frozen BK109.out 5; have hfz106_6 := blk_frozen BK109.out 6; have hfz106_7 := blk_frozen BK109.out 7; have hfz106_8 := blk_frozen BK109.out 8; have hfz106_9 := blk_frozen BK109.out 9; have hfz106_10 := blk_frozen BK109.out 10))
               go_roundg kj10
               case measure => have := HK1.out; have := HJ10.out; omega
               case rel => exact ⟨(y139), (((rd_T35 l0 x23_1).f0)), (wrap64 (x23_1 + 1)), (by first | rfl | (simp; done) | (simp [*]; done)), (by first | rfl | (simp; done) | (simp [*]; done)), H', ⟨by have := HK1.out; have := HJ10.out; omega⟩, ⟨by (with_reducible repeat (first | apply Kd.R_alloc | apply Kd.R_drewN | apply Kd.R_drew)); exact HO141.out⟩, ⟨by repeat (first | (with_reducible first | exact HB.out | apply below_alloc | apply pw_below_drewN | apply below_drew1 | refine below_set ?_ GE109.out) | exact HB.out)⟩⟩
             ·rw [if_neg c70] at H
              exact absurd H (by simp)
           ·rw [if_neg c24] at H
            exact absurd H (by simp)
          ·rw [if_neg c19] at H
           exact absurd H (by simp)
         ·rw [if_neg c18] at H
          exact absurd H (by simp)
      ·rw [if_neg c9] at H
       exact absurd H (by simp)
     ·rw [if_neg c8] at H
      exact absurd H (by simp)
    ·rw [if_neg c7] at H
     have c7b0 : decide (x23_1 < (l0.length : Int)) = false := decide_eq_false c7
     clear c7
     replace H := Option.bind_eq_some_iff.mp H
     obtain ⟨t105, A1070, H⟩ := H
     replace H : (some (t105, 0)) = some (r1, r2) := H
     have A107 := Aside0.mk A1070
     clear A1070
     simp only [Option.some.injEq, Prod.mk.injEq] at H
     obtain ⟨rfl, rfl⟩ := H
     obtain ⟨Ao108, co108, eo108⟩ := Kd.R_slice HO_5.out
     subst eo108
     go_wp2_with (first | ((with_reducible refine gate_callee (f := 37) rfl ?_); refine goesL_ (some 82) rfl rfl Tryd.func37 (by kernel_rfl) rfl #[.slice Ao108 x5_1.length co108] rfl (by (try simp only [List.map_toArray, List.map_cons, List.map_nil]); first | done | rfl | (simp only [List.length_drop, List.length_take]; rfl)) ?_; (with_reducible refine (crc_Seal.calls _ _ x5_1 t105 _ ?side1 ?side2 A107.out ?sideT).mono ?_); (case sideT => exact HT.out.step (by repeat (first | (with_reducible first | exact HB.out | apply below_alloc | apply pw_below_drewN | apply below_drew1) | exact HB.out))); (case side1 => repeat (first | exact (Kd.R_reads' HO_5.out).2.2 | (with_reducible refine Kd.C_alloc ?_ _) | (with_reducible refine Kd.C_drewN ?_ _) | (with_reducible refine Kd.C_drew ?_))); (case side2 => exact (Kd.R_reads' HO_5.out).2.1); rintro e w109 ⟨v106, rfl, ho0, hb⟩; refine ⟨_, rfl, ?_⟩; have n0_ := Aside0.mk (Kd.R_elder' (by (with_reducible repeat (first | apply Kd.R_alloc | apply Kd.R_drewN | apply Kd.R_drew)); exact HO_5.out) (Kd.R_base ho0) hb); have n1_ := Aside0.mk (Kd.R_lower (Kd.R_new' ho0 (Kd.R_lt (by (with_reducible repeat (first | apply Kd.R_alloc | apply Kd.R_drewN | apply Kd.R_drew)); exact HO_5.out))) (below_size (by repeat (first | (with_reducible first | exact HB.out | apply below_alloc | apply pw_below_drewN | apply below_drew1) | exact HB.out)))); have n2_ := Aside0.mk (below_step (by repeat (first | (with_reducible first | exact HB.out | apply below_alloc | apply pw_below_drewN | apply below_drew1) | exact HB.out)) hb); clear HO_5; clear HB; have HO_5 := n0_; have HO107 := n1_; have HB := n2_; clear n0_ n1_ n2_; (try clear hb); (try clear hb2); (try clear hk); (try clear hi); (try clear ho0)))
     go_ret2
     exact ⟨_, by first | rfl | (simp [errW_none, errW_some] <;> rfl) | (simp [*, errW_none, errW_some] <;> rfl), by (with_reducible repeat (first | apply Kd.R_alloc | apply Kd.R_drewN | apply Kd.R_drew)); exact Kd.R_mono HO107.out (fun _ hk => trivial), by repeat (first | (with_reducible first | exact HB.out | apply below_alloc | apply pw_below_drewN | apply below_drew1) | exact HB.out)⟩
 ·rw [if_neg c3] at H
  have c3b0 : (t101 == 0) = false := beq_eq_false_iff_ne.mpr c3
  have c3b1 : (t101 != 0) = true := bne_iff_ne.mpr c3
  simp only [Option.some.injEq, Prod.mk.injEq] at H
  obtain ⟨rfl, rfl⟩ := H
  go_enter Tryd.func14, Tryd.ntmps14
  go_wp2_with (first | ((with_reducible refine gate_callee (f := 12) rfl ?_); refine goesL_ (some 14) rfl rfl Tryd.func12 (by kernel_rfl) rfl #[.slice A0 l0.length c0] rfl (by (try simp only [List.map_toArray, List.map_cons, List.map_nil]); first | done | rfl | (simp only [List.length_drop, List.length_take]; rfl)) ?_; (with_reducible refine (flist_Check.calls _ _ l0 t101 _ ?side1 ?side2 A2.out).mono ?_); (case side1 => repeat (first | exact HR0.out | (with_reducible refine Kd.C_alloc ?_ _) | (with_reducible refine Kd.C_drewN ?_ _) | (with_reducible refine Kd.C_drew ?_))); (case side2 => exact HC0.out); rintro e w110 ⟨rfl, hb⟩; refine ⟨_, rfl, ?_⟩; have n0_ := Aside0.mk (below_step (by repeat (first | (with_reducible first | exact HB.out | apply below_alloc | apply pw_below_drewN | apply below_drew1) | exact HB.out)) hb); clear HB; have HB := n0_; clear n0_; (try clear hb); (try clear hb2); (try clear hk); (try clear hi)))
  go_ret2
  exact ⟨_, by first | rfl | (simp [errW_none, errW_some] <;> rfl) | (simp [*, errW_none, errW_some] <;> rfl), by first | exact Kd.R_nil _ _ _ _ _ | exact Kd.N_nil _ _ _ _ _ | exact Kd.V_nil _ _ _ _ _ | exact Kd.Q_nil _ _ _ _ _ | exact Kd.S_nil _ _ _ _ _, by repeat (first | (with_reducible first | exact HB.out | apply below_alloc | apply pw_below_drewN | apply below_drew1) | exact HB.out)⟩
end Go.Proofs.YtcdmgdegohcmhaaDoor.PA
namespace Go.Proofs.YtcdmgdegohcmhaaDoor.PA
open Go.RowKit Go.Proofs.YtcdmgdegohcmhaaDoorW.PrintWords Go.Proofs.YtcdmgdegohcmhaaDoorW.PrintLast Go.Proofs.YtcdmgdegohcmhaaDoorW.PrintMore
attribute [local go_sem] max2_int min2_int max_two min_two max_three min_three max_four min_four   -- for this text's walks alone
set_option linter.unusedVariables false
set_option linter.unusedSimpArgs false
def remoralaw20_awake.f (k : Nat)  : Option (Bool) := (flist_Bytes.f k (([(⟨(⟨#[97]⟩ : ByteArray), 1, 3, (⟨0, 0, 0, 0, 0⟩ : S33), (⟨#[]⟩ : ByteArray), (⟨#[]⟩ : ByteArray), 0⟩ : S35)] : List (S35)))).bind fun bt104 => (if bt104.2 = 0 then (if (bt104.1.length : Int) = 16 then (if 6 ≤ (bt104.1.length : Int) then (if (strOfNums (bt104.1.take 6)).toList = ([1, 0, 1, 97, 1, 3] : List UInt8) then ((flist_Check.f (([(⟨(⟨#[97, 47, 98]⟩ : ByteArray), 1, 0, (⟨0, 0, 0, 0, 0⟩ : S33), (⟨#[]⟩ : ByteArray), (⟨#[]⟩ : ByteArray), 0⟩ : S35)] : List (S35)))).bind fun t115 => (some (t115 == 12))) else (some false)) else (none)) else (some false)) else (some false))
set_option maxHeartbeats 8000000 in
set_option maxRecDepth 100000 in
theorem remoralaw20_awake.calls (k : Nat)  (r : Bool) (w : World) (h : remoralaw20_awake.f k  = some r) (hT_ : TabW w) :
  Calls Tryd.prog 11 #[] w fun e w' => e = .returned (.bool r) ∧ Below w.heap.size w w' := by
 have hu35 := Tryd.underlying35
 have HT := Aside0.mk hT_
 clear hT_
 have HB := Aside0.mk (Below.refl w.heap.size w)
 have H : ((flist_Bytes.f k (([(⟨(⟨#[97]⟩ : ByteArray), 1, 3, (⟨0, 0, 0, 0, 0⟩ : S33), (⟨#[]⟩ : ByteArray), (⟨#[]⟩ : ByteArray), 0⟩ : S35)] : List (S35)))).bind fun bt104 => (if bt104.2 = 0 then (if (bt104.1.length : Int) = 16 then (if 6 ≤ (bt104.1.length : Int) then (if (strOfNums (bt104.1.take 6)).toList = ([1, 0, 1, 97, 1, 3] : List UInt8) then ((flist_Check.f (([(⟨(⟨#[97, 47, 98]⟩ : ByteArray), 1, 0, (⟨0, 0, 0, 0, 0⟩ : S33), (⟨#[]⟩ : ByteArray), (⟨#[]⟩ : ByteArray), 0⟩ : S35)] : List (S35)))).bind fun t115 => (some (t115 == 12))) else (some false)) else (none)) else (some false)) else (some false))) = some r := h
 clear h
 obtain ⟨y101, hy101⟩ : ∃ y_ : List (S35), y_ = (([(⟨(⟨#[97]⟩ : ByteArray), 1, 3, (⟨0, 0, 0, 0, 0⟩ : S33), (⟨#[]⟩ : ByteArray), (⟨#[]⟩ : ByteArray), 0⟩ : S35)] : List (S35))) := ⟨_, rfl⟩
 replace H : ((flist_Bytes.f k y101).bind fun bt104 => (if bt104.2 = 0 then (if (bt104.1.length : Int) = 16 then (if 6 ≤ (bt104.1.length : Int) then (if (strOfNums (bt104.1.take 6)).toList = ([1, 0, 1, 97, 1, 3] : List UInt8) then ((flist_Check.f (([(⟨(⟨#[97, 47, 98]⟩ : ByteArray), 1, 0, (⟨0, 0, 0, 0, 0⟩ : S33), (⟨#[]⟩ : ByteArray), (⟨#[]⟩ : ByteArray), 0⟩ : S35)] : List (S35)))).bind fun t115 => (some (t115 == 12))) else (some false)) else (none)) else (some false)) else (some false))) = some r := by first | (rw [hy101]; with_reducible exact H) | (have H2_ := (Option.bind_some _ _).symm.trans H; rw [hy101]; with_reducible exact H2_) | (have H2_ := (Option.bind_some _ _).symm.trans H; with_reducible exact H2_) | with_reducible exact H | (rw [hy101]; exact H) | exact H
 have Ny101 := Aside0.mk hy101
 clear hy101
 replace H := Option.bind_eq_some_iff.mp H
 obtain ⟨⟨t104, t105⟩, A10, H⟩ := H
 replace H : (if t105 = 0 then (if (t104.length : Int) = 16 then (if 6 ≤ (t104.length : Int) then (if (strOfNums (t104.take 6)).toList = ([1, 0, 1, 97, 1, 3] : List UInt8) then ((flist_Check.f (([(⟨(⟨#[97, 47, 98]⟩ : ByteArray), 1, 0, (⟨0, 0, 0, 0, 0⟩ : S33), (⟨#[]⟩ : ByteArray), (⟨#[]⟩ : ByteArray), 0⟩ : S35)] : List (S35)))).bind fun t115 => (some (t115 == 12))) else (some false)) else (none)) else (some false)) else (some false)) = some r := H
 have A1 := Aside0.mk A10
 clear A10
 by_cases c2 : t105 = 0
 ·rw [if_pos c2] at H
  have c2b0 : (t105 == 0) = true := beq_iff_eq.mpr c2
  have c2b1 : (t105 != 0) = false := bne_eq_false_iff_eq.mpr c2
  clear c2
  by_cases c3 : (t104.length : Int) = 16
  ·rw [if_pos c3] at H
   have c3b0 : ((t104.length : Int) == 16) = true := beq_iff_eq.mpr c3
   have c3b1 : ((t104.length : Int) != 16) = false := bne_eq_false_iff_eq.mpr c3
   clear c3
   by_cases c4 : 6 ≤ (t104.length : Int)
   ·rw [if_pos c4] at H
    have c4b0 := eq_true c4
    have c4b1 : decide (6 ≤ (t104.length : Int)) = true := decide_eq_true c4
    clear c4
    obtain ⟨y108, hy108⟩ : ∃ y_ : List Int, y_ = (t104.take 6) := ⟨_, rfl⟩
    replace H : (if (strOfNums y108).toList = ([1, 0, 1, 97, 1, 3] : List UInt8) then ((flist_Check.f (([(⟨(⟨#[97, 47, 98]⟩ : ByteArray), 1, 0, (⟨0, 0, 0, 0, 0⟩ : S33), (⟨#[]⟩ : ByteArray), (⟨#[]⟩ : ByteArray), 0⟩ : S35)] : List (S35)))).bind fun t115 => (some (t115 == 12))) else (some false)) = some r := by first | (rw [hy108]; with_reducible exact H) | (have H2_ := (Option.bind_some _ _).symm.trans H; rw [hy108]; with_reducible exact H2_) | (have H2_ := (Option.bind_some _ _).symm.trans H; with_reducible exact H2_) | with_reducible exact H | (rw [hy108]; exact H) | exact H
    have Ny108 := Aside0.mk hy108
    clear hy108
    by_cases c5 : (strOfNums y108).toList = ([1, 0, 1, 97, 1, 3] : List UInt8)
    ·rw [if_pos c5] at H
     have c5b0 : ((strOfNums y108).toList == ([1, 0, 1, 97, 1, 3] : List UInt8)) = true := beq_iff_eq.mpr c5
     have c5b1 : ((strOfNums y108).toList != ([1, 0, 1, 97, 1, 3] : List UInt8)) = false := bne_eq_false_iff_eq.mpr c5
     clear c5
     obtain ⟨y112, hy112⟩ : ∃ y_ : List (S35), y_ = (([(⟨(⟨#[97, 47, 98]⟩ : ByteArray), 1, 0, (⟨0, 0, 0, 0, 0⟩ : S33), (⟨#[]⟩ : ByteArray), (⟨#[]⟩ : ByteArray), 0⟩ : S35)] : List (S35))) := ⟨_, rfl⟩
     replace H : ((flist_Check.f y112).bind fun t115 => (some (t115 == 12))) = some r := by first | (rw [hy112]; with_reducible exact H) | (have H2_ := (Option.bind_some _ _).symm.trans H; rw [hy112]; with_reducible exact H2_) | (have H2_ := (Option.bind_some _ _).symm.trans H; with_reducible exact H2_) | with_reducible exact H | (rw [hy112]; exact H) | exact H
     have Ny112 := Aside0.mk hy112
     clear hy112
     replace H := Option.bind_eq_some_iff.mp H
     obtain ⟨t115, A60, H⟩ := H
     replace H : (some (t115 == 12)) = some r := H
     have A6 := Aside0.mk A60
     clear A60
     obtain rfl := Option.some.inj H
     go_enter Tryd.func11, Tryd.ntmps11
     go_wp2_with (first | ((with_reducible refine gate_dst (N := 5) rfl ?_); (try (refine gate_guard (by rfl) ?_; dsimp only)); refine Kd.R_lit k35 _ 35 ?hg (N := 5) ?hd (xs := ([(⟨(⟨#[97]⟩ : ByteArray), 1, 3, (⟨0, 0, 0, 0, 0⟩ : S33), (⟨#[]⟩ : ByteArray), (⟨#[]⟩ : ByteArray), 0⟩ : S35)] : List (S35))) (inner := [.string (⟨#[97]⟩ : ByteArray), .int .i64 1, .int .i64 3, .int .i64 0, .int .i64 0, .int .i64 0, .int .i64 0, .int .i64 0, .string (⟨#[]⟩ : ByteArray), .string (⟨#[]⟩ : ByteArray), .int .i64 0]) (ok := fun _ => True) (okp := fun _ => True) ?hr ?hp (fun _ hk => hk) trivial (Below.refl _ _) (Nat.le_refl _) (by simp) ?_; (case hd => rfl); (case hg => rfl); (case hr => first | (go_simp; done) | (go_simp; rfl)); (case hp => exact (Reps.front (show Kd.M k35 _ _ _ (⟨(⟨#[97]⟩ : ByteArray), 1, 3, (⟨0, 0, 0, 0, 0⟩ : S33), (⟨#[]⟩ : ByteArray), (⟨#[]⟩ : ByteArray), 0⟩ : S35) [.string (⟨#[97]⟩ : ByteArray), .int .i64 1, .int .i64 3, .int .i64 0, .int .i64 0, .int .i64 0, .int .i64 0, .int .i64 0, .string (⟨#[]⟩ : ByteArray), .string (⟨#[]⟩ : ByteArray), .int .i64 0] from (k35_mkM _ _ _ (⟨(⟨#[97]⟩ : ByteArray), 1, 3, (⟨0, 0, 0, 0, 0⟩ : S33), (⟨#[]⟩ : ByteArray), (⟨#[]⟩ : ByteArray), 0⟩ : S35) )) rfl (Reps.none _ _) rfl)); intro v102 w7 ho8 hb hg_ hnew_; clear hg_ hnew_; (first | rw [← Ny101.out] at ho8 | (simp only [Int.reduceToNat] at ho8; rw [← Ny101.out] at ho8)); have n0_ := Aside0.mk (Kd.R_lower ho8 (below_size (by repeat (first | (with_reducible first | exact HB.out | apply below_alloc | apply pw_below_drewN | apply below_drew1) | exact HB.out)))); have n1_ := Aside0.mk (below_step (by repeat (first | (with_reducible first | exact HB.out | apply below_alloc | apply pw_below_drewN | apply below_drew1) | exact HB.out)) hb); clear HB; have HO103 := n0_; have HB := n1_; clear n0_ n1_; clear hb ho8; obtain ⟨Ao9, co9, eo9⟩ := Kd.R_slice HO103.out; subst eo9) | ((with_reducible refine gate_callee (f := 14) rfl ?_); refine goesL_ (some 6) rfl rfl Tryd.func14 (by kernel_rfl) rfl #[.slice Ao9 y101.length co9] rfl (by (try simp only [List.map_toArray, List.map_cons, List.map_nil]); first | done | rfl | (simp only [List.length_drop, List.length_take]; rfl)) ?_; (with_reducible refine (flist_Bytes.calls k _ _ y101 t104 t105 _ ?side1 ?side2 A1.out ?sideT).mono ?_); (case sideT => exact HT.out.step (by repeat (first | (with_reducible first | exact HB.out | apply below_alloc | apply pw_below_drewN | apply below_drew1) | exact HB.out))); (case side1 => repeat (first | exact (Kd.R_reads' HO103.out).2.2 | (with_reducible refine Kd.C_alloc ?_ _) | (with_reducible refine Kd.C_drewN ?_ _) | (with_reducible refine Kd.C_drew ?_))); (case side2 => exact (Kd.R_reads' HO103.out).2.1); rintro e w10 ⟨v106, rfl, ho0, hb⟩; refine ⟨_, rfl, ?_⟩; have n0_ := Aside0.mk (Kd.R_below (by (with_reducible repeat (first | apply Kd.R_alloc | apply Kd.R_drewN | apply Kd.R_drew)); exact HO103.out) hb); have n1_ := Aside0.mk (Kd.R_lower ho0 (below_size (by repeat (first | (with_reducible first | exact HB.out | apply below_alloc | apply pw_below_drewN | apply below_drew1) | exact HB.out)))); have n2_ := Aside0.mk (below_step (by repeat (first | (with_reducible first | exact HB.out | apply below_alloc | apply pw_below_drewN | apply below_drew1) | exact HB.out)) hb); clear HO103; clear HB; have HO103 := n0_; have HO107 := n1_; have HB := n2_; clear n0_ n1_ n2_; (try clear hb); (try clear hb2); (try clear hk); (try clear hi); (try clear ho0); obtain ⟨Ao11, co11, eo11⟩ := Kd.R_slice HO107.out; subst eo11; have q12 : (6 : Int) ≤ ((t104.length : Int) : Int) := of_decide_eq_true (by first | (with_reducible assumption) | assumption); obtain ⟨i012, hi012, _, hsz12, _⟩ := info_parts info5; have hroom12 : t104.length ≤ co11 := (Kd.R_reads' HO107.out).2.1; have hC12 : Kd.C (Kd.int .u8) _ Ao11 t104.length t104 := (Kd.R_reads' HO107.out).2.2; have hcut12 := cut_to (P := Tryd.prog) 27 5 .i64 Tryd.underlying27 hi012 Ao11 t104.length co11 6 (by omega) q12 hroom12; have hr12 := Kd.C_take (m := 6) hC12 (by omega); have hy12 : y108.length = (6 : Int).toNat := (by rw [Ny108.out, List.length_take]; omega); rw [← Ny108.out] at hr12; rw [← hy12] at hcut12; have HR111 := Aside0.mk hr12; have HC111 := Aside0.mk (show y108.length ≤ co11 from by omega); clear hr12 hC12 hroom12 hi012 hsz12; have KY12 := Aside0.mk hy12; clear hy12; have KL12 := Aside0.mk (show 6 ≤ t104.length from by omega); replace q12 := eq_true q12; have hcv13 := Kd.C_string (P := Tryd.prog) (A := Ao11) (c := co11) Tryd.underlying27 Tryd.underlying5 Tryd.underlying9 (by repeat (first | (with_reducible exact HR111.out) | (with_reducible refine Kd.C_alloc ?_ _) | (with_reducible refine Kd.C_drewN ?_ _) | (with_reducible refine Kd.C_drew ?_) | exact HR111.out))) | ((with_reducible refine gate_dst (N := 24) rfl ?_); (try (refine gate_guard (by rfl) ?_; dsimp only)); refine Kd.R_lit k35 _ 35 ?hg (N := 24) ?hd (xs := ([(⟨(⟨#[97, 47, 98]⟩ : ByteArray), 1, 0, (⟨0, 0, 0, 0, 0⟩ : S33), (⟨#[]⟩ : ByteArray), (⟨#[]⟩ : ByteArray), 0⟩ : S35)] : List (S35))) (inner := [.string (⟨#[97, 47, 98]⟩ : ByteArray), .int .i64 1, .int .i64 0, .int .i64 0, .int .i64 0, .int .i64 0, .int .i64 0, .int .i64 0, .string (⟨#[]⟩ : ByteArray), .string (⟨#[]⟩ : ByteArray), .int .i64 0]) (ok := fun _ => True) (okp := fun _ => True) ?hr ?hp (fun _ hk => hk) trivial (Below.refl _ _) (Nat.le_refl _) (by simp) ?_; (case hd => rfl); (case hg => rfl); (case hr => first | (go_simp; done) | (go_simp; rfl)); (case hp => exact (Reps.front (show Kd.M k35 _ _ _ (⟨(⟨#[97, 47, 98]⟩ : ByteArray), 1, 0, (⟨0, 0, 0, 0, 0⟩ : S33), (⟨#[]⟩ : ByteArray), (⟨#[]⟩ : ByteArray), 0⟩ : S35) [.string (⟨#[97, 47, 98]⟩ : ByteArray), .int .i64 1, .int .i64 0, .int .i64 0, .int .i64 0, .int .i64 0, .int .i64 0, .int .i64 0, .string (⟨#[]⟩ : ByteArray), .string (⟨#[]⟩ : ByteArray), .int .i64 0] from (k35_mkM _ _ _ (⟨(⟨#[97, 47, 98]⟩ : ByteArray), 1, 0, (⟨0, 0, 0, 0, 0⟩ : S33), (⟨#[]⟩ : ByteArray), (⟨#[]⟩ : ByteArray), 0⟩ : S35) )) rfl (Reps.none _ _) rfl)); intro v113 w14 ho15 hb hg_ hnew_; clear hg_ hnew_; (first | rw [← Ny112.out] at ho15 | (simp only [Int.reduceToNat] at ho15; rw [← Ny112.out] at ho15)); have n0_ := Aside0.mk (Kd.R_elder' (by (with_reducible repeat (first | apply Kd.R_alloc | apply Kd.R_drewN | apply Kd.R_drew)); exact HO103.out) (Kd.R_base ho15) hb); have n1_ := Aside0.mk (Kd.R_below (by (with_reducible repeat (first | apply Kd.R_alloc | apply Kd.R_drewN | apply Kd.R_drew)); exact HO107.out) hb); have n2_ := Aside0.mk (Kd.R_lower (Kd.R_new' ho15 (Kd.R_lt (by (with_reducible repeat (first | apply Kd.R_alloc | apply Kd.R_drewN | apply Kd.R_drew)); exact HO103.out))) (below_size (by repeat (first | (with_reducible first | exact HB.out | apply below_alloc | apply pw_below_drewN | apply below_drew1) | exact HB.out)))); have n3_ := Aside0.mk (Kd.C_below (by repeat (first | (with_reducible exact HR111.out) | (with_reducible refine Kd.C_alloc ?_ _) | (with_reducible refine Kd.C_drewN ?_ _) | (with_reducible refine Kd.C_drew ?_) | exact HR111.out)) hb); have n4_ := Aside0.mk (below_step (by repeat (first | (with_reducible first | exact HB.out | apply below_alloc | apply pw_below_drewN | apply below_drew1) | exact HB.out)) hb); clear HO103; clear HO107; clear HR111; clear HB; have HO103 := n0_; have HO107 := n1_; have HO114 := n2_; have HR111 := n3_; have HB := n4_; clear n0_ n1_ n2_ n3_ n4_; clear hb ho15; obtain ⟨Ao16, co16, eo16⟩ := Kd.R_slice HO114.out; subst eo16) | (go_at_call 12; (with_reducible refine (flist_Check.calls _ _ y112 t115 _ ?side1 ?side2 A6.out).mono ?_); (case side1 => repeat (first | exact (Kd.R_reads' HO114.out).2.2 | (with_reducible refine Kd.C_alloc ?_ _) | (with_reducible refine Kd.C_drewN ?_ _) | (with_reducible refine Kd.C_drew ?_))); (case side2 => exact (Kd.R_reads' HO114.out).2.1); rintro e w17 ⟨rfl, hb⟩; have n0_ := Aside0.mk (Kd.R_below (by (with_reducible repeat (first | apply Kd.R_alloc | apply Kd.R_drewN | apply Kd.R_drew)); exact HO103.out) hb); have n1_ := Aside0.mk (Kd.R_below (by (with_reducible repeat (first | apply Kd.R_alloc | apply Kd.R_drewN | apply Kd.R_drew)); exact HO107.out) hb); have n2_ := Aside0.mk (Kd.R_below (by (with_reducible repeat (first | apply Kd.R_alloc | apply Kd.R_drewN | apply Kd.R_drew)); exact HO114.out) hb); have n3_ := Aside0.mk (Kd.C_below (by repeat (first | (with_reducible exact HR111.out) | (with_reducible refine Kd.C_alloc ?_ _) | (with_reducible refine Kd.C_drewN ?_ _) | (with_reducible refine Kd.C_drew ?_) | exact HR111.out)) hb); have n4_ := Aside0.mk (below_step (by repeat (first | (with_reducible first | exact HB.out | apply below_alloc | apply pw_below_drewN | apply below_drew1) | exact HB.out)) hb); clear HO103; clear HO107; clear HO114; clear HR111; clear HB; have HO103 := n0_; have HO107 := n1_; have HO114 := n2_; have HR111 := n3_; have HB := n4_; clear n0_ n1_ n2_ n3_ n4_; (try clear hb); (try clear hb2); (try clear hk); (try clear hi)))
     go_ret
     exact ⟨by first | rfl | (simp [errW_none, errW_some] <;> rfl) | (simp [*, errW_none, errW_some] <;> rfl), by repeat (first | (with_reducible first | exact HB.out | apply below_alloc | apply pw_below_drewN | apply below_drew1) | exact HB.out)⟩
    ·rw [if_neg c5] at H
     have c5b0 : ((strOfNums y108).toList == ([1, 0, 1, 97, 1, 3] : List UInt8)) = false := beq_eq_false_iff_ne.mpr c5
     have c5b1 : ((strOfNums y108).toList != ([1, 0, 1, 97, 1, 3] : List UInt8)) = true := bne_iff_ne.mpr c5
     obtain rfl := Option.some.inj H
     go_enter Tryd.func11, Tryd.ntmps11
     go_wp2_with (first | ((with_reducible refine gate_dst (N := 5) rfl ?_); (try (refine gate_guard (by rfl) ?_; dsimp only)); refine Kd.R_lit k35 _ 35 ?hg (N := 5) ?hd (xs := ([(⟨(⟨#[97]⟩ : ByteArray), 1, 3, (⟨0, 0, 0, 0, 0⟩ : S33), (⟨#[]⟩ : ByteArray), (⟨#[]⟩ : ByteArray), 0⟩ : S35)] : List (S35))) (inner := [.string (⟨#[97]⟩ : ByteArray), .int .i64 1, .int .i64 3, .int .i64 0, .int .i64 0, .int .i64 0, .int .i64 0, .int .i64 0, .string (⟨#[]⟩ : ByteArray), .string (⟨#[]⟩ : ByteArray), .int .i64 0]) (ok := fun _ => True) (okp := fun _ => True) ?hr ?hp (fun _ hk => hk) trivial (Below.refl _ _) (Nat.le_refl _) (by simp) ?_; (case hd => rfl); (case hg => rfl); (case hr => first | (go_simp; done) | (go_simp; rfl)); (case hp => exact (Reps.front (show Kd.M k35 _ _ _ (⟨(⟨#[97]⟩ : ByteArray), 1, 3, (⟨0, 0, 0, 0, 0⟩ : S33), (⟨#[]⟩ : ByteArray), (⟨#[]⟩ : ByteArray), 0⟩ : S35) [.string (⟨#[97]⟩ : ByteArray), .int .i64 1, .int .i64 3, .int .i64 0, .int .i64 0, .int .i64 0, .int .i64 0, .int .i64 0, .string (⟨#[]⟩ : ByteArray), .string (⟨#[]⟩ : ByteArray), .int .i64 0] from (k35_mkM _ _ _ (⟨(⟨#[97]⟩ : ByteArray), 1, 3, (⟨0, 0, 0, 0, 0⟩ : S33), (⟨#[]⟩ : ByteArray), (⟨#[]⟩ : ByteArray), 0⟩ : S35) )) rfl (Reps.none _ _) rfl)); intro v102 w18 ho19 hb hg_ hnew_; clear hg_ hnew_; (first | rw [← Ny101.out] at ho19 | (simp only [Int.reduceToNat] at ho19; rw [← Ny101.out] at ho19)); have n0_ := Aside0.mk (Kd.R_lower ho19 (below_size (by repeat (first | (with_reducible first | exact HB.out | apply below_alloc | apply pw_below_drewN | apply below_drew1) | exact HB.out)))); have n1_ := Aside0.mk (below_step (by repeat (first | (with_reducible first | exact HB.out | apply below_alloc | apply pw_below_drewN | apply below_drew1) | exact HB.out)) hb); clear HB; have HO103 := n0_; have HB := n1_; clear n0_ n1_; clear hb ho19; obtain ⟨Ao20, co20, eo20⟩ := Kd.R_slice HO103.out; subst eo20) | ((with_reducible refine gate_callee (f := 14) rfl ?_); refine goesL_ (some 6) rfl rfl Tryd.func14 (by kernel_rfl) rfl #[.slice Ao20 y101.length co20] rfl (by (try simp only [List.map_toArray, List.map_cons, List.map_nil]); first | done | rfl | (simp only [List.length_drop, List.length_take]; rfl)) ?_; (with_reducible refine (flist_Bytes.calls k _ _ y101 t104 t105 _ ?side1 ?side2 A1.out ?sideT).mono ?_); (case sideT => exact HT.out.step (by repeat (first | (with_reducible first | exact HB.out | apply below_alloc | apply pw_below_drewN | apply below_drew1) | exact HB.out))); (case side1 => repeat (first | exact (Kd.R_reads' HO103.out).2.2 | (with_reducible refine Kd.C_alloc ?_ _) | (with_reducible refine Kd.C_drewN ?_ _) | (with_reducible refine Kd.C_drew ?_))); (case side2 => exact (Kd.R_reads' HO103.out).2.1); rintro e w21 ⟨v106, rfl, ho0, hb⟩; refine ⟨_, rfl, ?_⟩; have n0_ := Aside0.mk (Kd.R_below (by (with_reducible repeat (first | apply Kd.R_alloc | apply Kd.R_drewN | apply Kd.R_drew)); exact HO103.out) hb); have n1_ := Aside0.mk (Kd.R_lower ho0 (below_size (by repeat (first | (with_reducible first | exact HB.out | apply below_alloc | apply pw_below_drewN | apply below_drew1) | exact HB.out)))); have n2_ := Aside0.mk (below_step (by repeat (first | (with_reducible first | exact HB.out | apply below_alloc | apply pw_below_drewN | apply below_drew1) | exact HB.out)) hb); clear HO103; clear HB; have HO103 := n0_; have HO107 := n1_; have HB := n2_; clear n0_ n1_ n2_; (try clear hb); (try clear hb2); (try clear hk); (try clear hi); (try clear ho0); obtain ⟨Ao22, co22, eo22⟩ := Kd.R_slice HO107.out; subst eo22; have q23 : (6 : Int) ≤ ((t104.length : Int) : Int) := of_decide_eq_true (by first | (with_reducible assumption) | assumption); obtain ⟨i023, hi023, _, hsz23, _⟩ := info_parts info5; have hroom23 : t104.length ≤ co22 := (Kd.R_reads' HO107.out).2.1; have hC23 : Kd.C (Kd.int .u8) _ Ao22 t104.length t104 := (Kd.R_reads' HO107.out).2.2; have hcut23 := cut_to (P := Tryd.prog) 27 5 .i64 Tryd.underlying27 hi023 Ao22 t104.length co22 6 (by omega) q23 hroom23; have hr23 := Kd.C_take (m := 6) hC23 (by omega); have hy23 : y108.length = (6 : Int).toNat := (by rw [Ny108.out, List.length_take]; omega); rw [← Ny108.out] at hr23; rw [← hy23] at hcut23; have HR111 := Aside0.mk hr23; have HC111 := Aside0.mk (show y108.length ≤ co22 from by omega); clear hr23 hC23 hroom23 hi023 hsz23; have KY23 := Aside0.mk hy23; clear hy23; have KL23 := Aside0.mk (show 6 ≤ t104.length from by omega); replace q23 := eq_true q23; have hcv24 := Kd.C_string (P := Tryd.prog) (A := Ao22) (c := co22) Tryd.underlying27 Tryd.underlying5 Tryd.underlying9 (by repeat (first | (with_reducible exact HR111.out) | (with_reducible refine Kd.C_alloc ?_ _) | (with_reducible refine Kd.C_drewN ?_ _) | (with_reducible refine Kd.C_drew ?_) | exact HR111.out))))
     go_ret
     exact ⟨by first | rfl | (simp [errW_none, errW_some] <;> rfl) | (simp [*, errW_none, errW_some] <;> rfl), by repeat (first | (with_reducible first | exact HB.out | apply below_alloc | apply pw_below_drewN | apply below_drew1) | exact HB.out)⟩
   ·rw [if_neg c4] at H
    exact absurd H (by simp)
  ·rw [if_neg c3] at H
   have c3b0 : ((t104.length : Int) == 16) = false := beq_eq_false_iff_ne.mpr c3
   have c3b1 : ((t104.length : Int) != 16) = true := bne_iff_ne.mpr c3
   obtain rfl := Option.some.inj H
   go_enter Tryd.func11, Tryd.ntmps11
   go_wp2_with (first | ((with_reducible refine gate_dst (N := 5) rfl ?_); (try (refine gate_guard (by rfl) ?_; dsimp only)); refine Kd.R_lit k35 _ 35 ?hg (N := 5) ?hd (xs := ([(⟨(⟨#[97]⟩ : ByteArray), 1, 3, (⟨0, 0, 0, 0, 0⟩ : S33), (⟨#[]⟩ : ByteArray), (⟨#[]⟩ : ByteArray), 0⟩ : S35)] : List (S35))) (inner := [.string (⟨#[97]⟩ : ByteArray), .int .i64 1, .int .i64 3, .int .i64 0, .int .i64 0, .int .i64 0, .int .i64 0, .int .i64 0, .string (⟨#[]⟩ : ByteArray), .string (⟨#[]⟩ : ByteArray), .int .i64 0]) (ok := fun _ => True) (okp := fun _ => True) ?hr ?hp (fun _ hk => hk) trivial (Below.refl _ _) (Nat.le_refl _) (by simp) ?_; (case hd => rfl); (case hg => rfl); (case hr => first | (go_simp; done) | (go_simp; rfl)); (case hp => exact (Reps.front (show Kd.M k35 _ _ _ (⟨(⟨#[97]⟩ : ByteArray), 1, 3, (⟨0, 0, 0, 0, 0⟩ : S33), (⟨#[]⟩ : ByteArray), (⟨#[]⟩ : ByteArray), 0⟩ : S35) [.string (⟨#[97]⟩ : ByteArray), .int .i64 1, .int .i64 3, .int .i64 0, .int .i64 0, .int .i64 0, .int .i64 0, .int .i64 0, .string (⟨#[]⟩ : ByteArray), .string (⟨#[]⟩ : ByteArray), .int .i64 0] from (k35_mkM _ _ _ (⟨(⟨#[97]⟩ : ByteArray), 1, 3, (⟨0, 0, 0, 0, 0⟩ : S33), (⟨#[]⟩ : ByteArray), (⟨#[]⟩ : ByteArray), 0⟩ : S35) )) rfl (Reps.none _ _) rfl)); intro v102 w25 ho26 hb hg_ hnew_; clear hg_ hnew_; (first | rw [← Ny101.out] at ho26 | (simp only [Int.reduceToNat] at ho26; rw [← Ny101.out] at ho26)); have n0_ := Aside0.mk (Kd.R_lower ho26 (below_size (by repeat (first | (with_reducible first | exact HB.out | apply below_alloc | apply pw_below_drewN | apply below_drew1) | exact HB.out)))); have n1_ := Aside0.mk (below_step (by repeat (first | (with_reducible first | exact HB.out | apply below_alloc | apply pw_below_drewN | apply below_drew1) | exact HB.out)) hb); clear HB; have HO103 := n0_; have HB := n1_; clear n0_ n1_; clear hb ho26; obtain ⟨Ao27, co27, eo27⟩ := Kd.R_slice HO103.out; subst eo27) | ((with_reducible refine gate_callee (f := 14) rfl ?_); refine goesL_ (some 6) rfl rfl Tryd.func14 (by kernel_rfl) rfl #[.slice Ao27 y101.length co27] rfl (by (try simp only [List.map_toArray, List.map_cons, List.map_nil]); first | done | rfl | (simp only [List.length_drop, List.length_take]; rfl)) ?_; (with_reducible refine (flist_Bytes.calls k _ _ y101 t104 t105 _ ?side1 ?side2 A1.out ?sideT).mono ?_); (case sideT => exact HT.out.step (by repeat (first | (with_reducible first | exact HB.out | apply below_alloc | apply pw_below_drewN | apply below_drew1) | exact HB.out))); (case side1 => repeat (first | exact (Kd.R_reads' HO103.out).2.2 | (with_reducible refine Kd.C_alloc ?_ _) | (with_reducible refine Kd.C_drewN ?_ _) | (with_reducible refine Kd.C_drew ?_))); (case side2 => exact (Kd.R_reads' HO103.out).2.1); rintro e w28 ⟨v106, rfl, ho0, hb⟩; refine ⟨_, rfl, ?_⟩; have n0_ := Aside0.mk (Kd.R_below (by (with_reducible repeat (first | apply Kd.R_alloc | apply Kd.R_drewN | apply Kd.R_drew)); exact HO103.out) hb); have n1_ := Aside0.mk (Kd.R_lower ho0 (below_size (by repeat (first | (with_reducible first | exact HB.out | apply below_alloc | apply pw_below_drewN | apply below_drew1) | exact HB.out)))); have n2_ := Aside0.mk (below_step (by repeat (first | (with_reducible first | exact HB.out | apply below_alloc | apply pw_below_drewN | apply below_drew1) | exact HB.out)) hb); clear HO103; clear HB; have HO103 := n0_; have HO107 := n1_; have HB := n2_; clear n0_ n1_ n2_; (try clear hb); (try clear hb2); (try clear hk); (try clear hi); (try clear ho0); obtain ⟨Ao29, co29, eo29⟩ := Kd.R_slice HO107.out; subst eo29))
   go_ret
   exact ⟨by first | rfl | (simp [errW_none, errW_some] <;> rfl) | (simp [*, errW_none, errW_some] <;> rfl), by repeat (first | (with_reducible first | exact HB.out | apply below_alloc | apply pw_below_drewN | apply below_drew1) | exact HB.out)⟩
 ·rw [if_neg c2] at H
  have c2b0 : (t105 == 0) = false := beq_eq_false_iff_ne.mpr c2
  have c2b1 : (t105 != 0) = true := bne_iff_ne.mpr c2
  obtain rfl := Option.some.inj H
  go_enter Tryd.func11, Tryd.ntmps11
  go_wp2_with (first | ((with_reducible refine gate_dst (N := 5) rfl ?_); (try (refine gate_guard (by rfl) ?_; dsimp only)); refine Kd.R_lit k35 _ 35 ?hg (N := 5) ?hd (xs := ([(⟨(⟨#[97]⟩ : ByteArray), 1, 3, (⟨0, 0, 0, 0, 0⟩ : S33), (⟨#[]⟩ : ByteArray), (⟨#[]⟩ : ByteArray), 0⟩ : S35)] : List (S35))) (inner := [.string (⟨#[97]⟩ : ByteArray), .int .i64 1, .int .i64 3, .int .i64 0, .int .i64 0, .int .i64 0, .int .i64 0, .int .i64 0, .string (⟨#[]⟩ : ByteArray), .string (⟨#[]⟩ : ByteArray), .int .i64 0]) (ok := fun _ => True) (okp := fun _ => True) ?hr ?hp (fun _ hk => hk) trivial (Below.refl _ _) (Nat.le_refl _) (by simp) ?_; (case hd => rfl); (case hg => rfl); (case hr => first | (go_simp; done) | (go_simp; rfl)); (case hp => exact (Reps.front (show Kd.M k35 _ _ _ (⟨(⟨#[97]⟩ : ByteArray), 1, 3, (⟨0, 0, 0, 0, 0⟩ : S33), (⟨#[]⟩ : ByteArray), (⟨#[]⟩ : ByteArray), 0⟩ : S35) [.string (⟨#[97]⟩ : ByteArray), .int .i64 1, .int .i64 3, .int .i64 0, .int .i64 0, .int .i64 0, .int .i64 0, .int .i64 0, .string (⟨#[]⟩ : ByteArray), .string (⟨#[]⟩ : ByteArray), .int .i64 0] from (k35_mkM _ _ _ (⟨(⟨#[97]⟩ : ByteArray), 1, 3, (⟨0, 0, 0, 0, 0⟩ : S33), (⟨#[]⟩ : ByteArray), (⟨#[]⟩ : ByteArray), 0⟩ : S35) )) rfl (Reps.none _ _) rfl)); intro v102 w30 ho31 hb hg_ hnew_; clear hg_ hnew_; (first | rw [← Ny101.out] at ho31 | (simp only [Int.reduceToNat] at ho31; rw [← Ny101.out] at ho31)); have n0_ := Aside0.mk (Kd.R_lower ho31 (below_size (by repeat (first | (with_reducible first | exact HB.out | apply below_alloc | apply pw_below_drewN | apply below_drew1) | exact HB.out)))); have n1_ := Aside0.mk (below_step (by repeat (first | (with_reducible first | exact HB.out | apply below_alloc | apply pw_below_drewN | apply below_drew1) | exact HB.out)) hb); clear HB; have HO103 := n0_; have HB := n1_; clear n0_ n1_; clear hb ho31; obtain ⟨Ao32, co32, eo32⟩ := Kd.R_slice HO103.out; subst eo32) | ((with_reducible refine gate_callee (f := 14) rfl ?_); refine goesL_ (some 6) rfl rfl Tryd.func14 (by kernel_rfl) rfl #[.slice Ao32 y101.length co32] rfl (by (try simp only [List.map_toArray, List.map_cons, List.map_nil]); first | done | rfl | (simp only [List.length_drop, List.length_take]; rfl)) ?_; (with_reducible refine (flist_Bytes.calls k _ _ y101 t104 t105 _ ?side1 ?side2 A1.out ?sideT).mono ?_); (case sideT => exact HT.out.step (by repeat (first | (with_reducible first | exact HB.out | apply below_alloc | apply pw_below_drewN | apply below_drew1) | exact HB.out))); (case side1 => repeat (first | exact (Kd.R_reads' HO103.out).2.2 | (with_reducible refine Kd.C_alloc ?_ _) | (with_reducible refine Kd.C_drewN ?_ _) | (with_reducible refine Kd.C_drew ?_))); (case side2 => exact (Kd.R_reads' HO103.out).2.1); rintro e w33 ⟨v106, rfl, ho0, hb⟩; refine ⟨_, rfl, ?_⟩; have n0_ := Aside0.mk (Kd.R_below (by (with_reducible repeat (first | apply Kd.R_alloc | apply Kd.R_drewN | apply Kd.R_drew)); exact HO103.out) hb); have n1_ := Aside0.mk (Kd.R_lower ho0 (below_size (by repeat (first | (with_reducible first | exact HB.out | apply below_alloc | apply pw_below_drewN | apply below_drew1) | exact HB.out)))); have n2_ := Aside0.mk (below_step (by repeat (first | (with_reducible first | exact HB.out | apply below_alloc | apply pw_below_drewN | apply below_drew1) | exact HB.out)) hb); clear HO103; clear HB; have HO103 := n0_; have HO107 := n1_; have HB := n2_; clear n0_ n1_ n2_; (try clear hb); (try clear hb2); (try clear hk); (try clear hi); (try clear ho0)))
  go_ret
  exact ⟨by first | rfl | (simp [errW_none, errW_some] <;> rfl) | (simp [*, errW_none, errW_some] <;> rfl), by repeat (first | (with_reducible first | exact HB.out | apply below_alloc | apply pw_below_drewN | apply below_drew1) | exact HB.out)⟩
end Go.Proofs.YtcdmgdegohcmhaaDoor.PA
namespace Go.Proofs.YtcdmgdegohcmhaaDoor.PA
open Go.RowKit Go.Proofs.YtcdmgdegohcmhaaDoorW.PrintWords Go.Proofs.YtcdmgdegohcmhaaDoorW.PrintLast Go.Proofs.YtcdmgdegohcmhaaDoorW.PrintMore
attribute [local go_sem] max2_int min2_int max_two min_two max_three min_three max_four min_four   -- for this text's walks alone
set_option linter.unusedVariables false
set_option linter.unusedSimpArgs false
def remoraref20_Small.l0 : Nat → List (S35) → Int → Option (Bool)
 | 0, _, _ => none
 | k + 1, x0, x3 => if x3 < (x0.length : Int) then (if 0 ≤ x3 then (if (((rd_T35 x0 x3).f0).size : Int) > 600 then (some false) else (if (((rd_T35 x0 x3).f4).size : Int) > 600 then (some false) else (if (((rd_T35 x0 x3).f5).size : Int) > 100 then (some false) else (remoraref20_Small.l0 k x0 (wrap64 (x3 + 1)))))) else (none)) else (some (decide ((x0.length : Int) ≤ 60)))
def remoraref20_Small.f (k : Nat) (l0 : List (S35)) : Option (Bool) := remoraref20_Small.l0 k l0 0
set_option maxHeartbeats 8000000 in
set_option maxRecDepth 100000 in
theorem remoraref20_Small.calls (k : Nat) (A0 : Option Addr) (c0 : Nat) (l0 : List (S35)) (r : Bool) (w : World) (hr0 : Kd.C k35 w A0 l0.length l0) (hc0 : l0.length ≤ c0) (h : remoraref20_Small.f k l0 = some r) :
  Calls Tryd.prog 10 #[.slice A0 l0.length c0] w fun e w' => e = .returned (.bool r) ∧ Drawn0 w w' := by
 have HR0 := Aside0.mk hr0
 have HC0 := Aside0.mk hc0
 clear hr0 hc0
 have H : (remoraref20_Small.l0 k l0 0) = some r := h
 clear h
 have H' := Aside0.mk H
 clear H
 go_enter Tryd.func10, Tryd.ntmps10
 go_wp2
 go_loopg [3] k (fun kq v3 w' => ∃ (x3_1 : Int), v3 = .int .i64 x3_1 ∧ Aside0 (remoraref20_Small.l0 kq l0 x3_1 = some r) ∧ Aside0 (kq ≤ k) ∧ Drawn0 w w')
 case atStart => exact ⟨(0), (by first | rfl | (simp; done) | (simp [*]; done)), H', ⟨Nat.le_refl _⟩, by repeat (first | exact Drawn0.refl _ | apply Drawn0.step)⟩
 case round =>
  clear H'
  try clear c1
  obtain ⟨x3_1, rfl, HA, HK1, ⟨m1, rfl⟩⟩ := hrel
  cases gk with
  | zero => exact absurd HA.out (by simp [remoraref20_Small.l0])
  | succ k1 =>
   have H := HA.out
   clear HA
   simp only [remoraref20_Small.l0] at H
   by_cases c2 : x3_1 < (l0.length : Int)
   ·rw [if_pos c2] at H
    have c2b0 : decide (x3_1 < (l0.length : Int)) = true := decide_eq_true c2
    clear c2
    by_cases c3 : 0 ≤ x3_1
    ·rw [if_pos c3] at H
     have c3b0 : decide (0 ≤ x3_1) = true := decide_eq_true c3
     clear c3
     by_cases c4 : (((rd_T35 l0 x3_1).f0).size : Int) > 600
     ·rw [if_pos c4] at H
      have c4b0 : decide (600 < (((rd_T35 l0 x3_1).f0).size : Int)) = true := decide_eq_true c4
      have c4b1 : decide (600 < ((rd_T35 l0 x3_1).f0).size) = true := decide_eq_true (by omega)
      clear c4
      obtain rfl := Option.some.inj H
      have p101 : 0 ≤ (x3_1 : Int) := of_decide_eq_true (by first | (with_reducible assumption) | assumption)
      have q101 : x3_1 < (l0.length : Int) := of_decide_eq_true (by first | (with_reducible assumption) | assumption)
      obtain ⟨ad101, e101, hx101_0, hx101_1, hx101_2, hx101_3, hx101_4, hx101_5, hx101_6, hx101_7, hx101_8, hx101_9, hx101_10⟩ := at_T35 HR0.out x3_1 p101 q101
      cases e101
      replace p101 := eq_true p101
      replace q101 := eq_true q101
      go_wp2
      go_ret
      exact ⟨by first | rfl | (simp; done) | (simp [*]; done), by repeat (first | exact Drawn0.refl _ | apply Drawn0.step)⟩
     ·rw [if_neg c4] at H
      have c4b0 : decide (600 < (((rd_T35 l0 x3_1).f0).size : Int)) = false := decide_eq_false c4
      have c4b1 : decide (600 < ((rd_T35 l0 x3_1).f0).size) = false := decide_eq_false (by omega)
      clear c4
      by_cases c5 : (((rd_T35 l0 x3_1).f4).size : Int) > 600
      ·rw [if_pos c5] at H
       have c5b0 : decide (600 < (((rd_T35 l0 x3_1).f4).size : Int)) = true := decide_eq_true c5
       have c5b1 : decide (600 < ((rd_T35 l0 x3_1).f4).size) = true := decide_eq_true (by omega)
       clear c5
       obtain rfl := Option.some.inj H
       have p101 : 0 ≤ (x3_1 : Int) := of_decide_eq_true (by first | (with_reducible assumption) | assumption)
       have q101 : x3_1 < (l0.length : Int) := of_decide_eq_true (by first | (with_reducible assumption) | assumption)
       obtain ⟨ad101, e101, hx101_0, hx101_1, hx101_2, hx101_3, hx101_4, hx101_5, hx101_6, hx101_7, hx101_8, hx101_9, hx101_10⟩ := at_T35 HR0.out x3_1 p101 q101
       cases e101
       replace p101 := eq_true p101
       replace q101 := eq_true q101
       have p102 : 0 ≤ (x3_1 : Int) := of_decide_eq_true (by first | (with_reducible assumption) | assumption)
       have q102 : x3_1 < (l0.length : Int) := of_decide_eq_true (by first | (with_reducible assumption) | assumption)
       obtain ⟨ad102, e102, hx102_0, hx102_1, hx102_2, hx102_3, hx102_4, hx102_5, hx102_6, hx102_7, hx102_8, hx102_9, hx102_10⟩ := at_T35 HR0.out x3_1 p102 q102
       obtain rfl : ad101 = ad102 := (by injection e102)
       replace p102 := eq_true p102
       replace q102 := eq_true q102
       go_wp2
       go_ret
       exact ⟨by first | rfl | (simp; done) | (simp [*]; done), by repeat (first | exact Drawn0.refl _ | apply Drawn0.step)⟩
      ·rw [if_neg c5] at H
       have c5b0 : decide (600 < (((rd_T35 l0 x3_1).f4).size : Int)) = false := decide_eq_false c5
       have c5b1 : decide (600 < ((rd_T35 l0 x3_1).f4).size) = false := decide_eq_false (by omega)
       clear c5
       by_cases c6 : (((rd_T35 l0 x3_1).f5).size : Int) > 100
       ·rw [if_pos c6] at H
        have c6b0 : decide (100 < (((rd_T35 l0 x3_1).f5).size : Int)) = true := decide_eq_true c6
        have c6b1 : decide (100 < ((rd_T35 l0 x3_1).f5).size) = true := decide_eq_true (by omega)
        clear c6
        obtain rfl := Option.some.inj H
        have p101 : 0 ≤ (x3_1 : Int) := of_decide_eq_true (by first | (with_reducible assumption) | assumption)
        have q101 : x3_1 < (l0.length : Int) := of_decide_eq_true (by first | (with_reducible assumption) | assumption)
        obtain ⟨ad101, e101, hx101_0, hx101_1, hx101_2, hx101_3, hx101_4, hx101_5, hx101_6, hx101_7, hx101_8, hx101_9, hx101_10⟩ := at_T35 HR0.out x3_1 p101 q101
        cases e101
        replace p101 := eq_true p101
        replace q101 := eq_true q101
        have p102 : 0 ≤ (x3_1 : Int) := of_decide_eq_true (by first | (with_reducible assumption) | assumption)
        have q102 : x3_1 < (l0.length : Int) := of_decide_eq_true (by first | (with_reducible assumption) | assumption)
        obtain ⟨ad102, e102, hx102_0, hx102_1, hx102_2, hx102_3, hx102_4, hx102_5, hx102_6, hx102_7, hx102_8, hx102_9, hx102_10⟩ := at_T35 HR0.out x3_1 p102 q102
        obtain rfl : ad101 = ad102 := (by injection e102)
        replace p102 := eq_true p102
        replace q102 := eq_true q102
        have p103 : 0 ≤ (x3_1 : Int) := of_decide_eq_true (by first | (with_reducible assumption) | assumption)
        have q103 : x3_1 < (l0.length : Int) := of_decide_eq_true (by first | (with_reducible assumption) | assumption)
        obtain ⟨ad103, e103, hx103_0, hx103_1, hx103_2, hx103_3, hx103_4, hx103_5, hx103_6, hx103_7, hx103_8, hx103_9, hx103_10⟩ := at_T35 HR0.out x3_1 p103 q103
        obtain rfl : ad101 = ad103 := (by injection e103)
        replace p103 := eq_true p103
        replace q103 := eq_true q103
        go_wp2
        go_ret
        exact ⟨by first | rfl | (simp; done) | (simp [*]; done), by repeat (first | exact Drawn0.refl _ | apply Drawn0.step)⟩
       ·rw [if_neg c6] at H
        have c6b0 : decide (100 < (((rd_T35 l0 x3_1).f5).size : Int)) = false := decide_eq_false c6
        have c6b1 : decide (100 < ((rd_T35 l0 x3_1).f5).size) = false := decide_eq_false (by omega)
        clear c6
        have H' := Aside0.mk H
        clear H
        have p101 : 0 ≤ (x3_1 : Int) := of_decide_eq_true (by first | (with_reducible assumption) | assumption)
        have q101 : x3_1 < (l0.length : Int) := of_decide_eq_true (by first | (with_reducible assumption) | assumption)
        obtain ⟨ad101, e101, hx101_0, hx101_1, hx101_2, hx101_3, hx101_4, hx101_5, hx101_6, hx101_7, hx101_8, hx101_9, hx101_10⟩ := at_T35 HR0.out x3_1 p101 q101
        cases e101
        replace p101 := eq_true p101
        replace q101 := eq_true q101
        have p102 : 0 ≤ (x3_1 : Int) := of_decide_eq_true (by first | (with_reducible assumption) | assumption)
        have q102 : x3_1 < (l0.length : Int) := of_decide_eq_true (by first | (with_reducible assumption) | assumption)
        obtain ⟨ad102, e102, hx102_0, hx102_1, hx102_2, hx102_3, hx102_4, hx102_5, hx102_6, hx102_7, hx102_8, hx102_9, hx102_10⟩ := at_T35 HR0.out x3_1 p102 q102
        obtain rfl : ad101 = ad102 := (by injection e102)
        replace p102 := eq_true p102
        replace q102 := eq_true q102
        have p103 : 0 ≤ (x3_1 : Int) := of_decide_eq_true (by first | (with_reducible assumption) | assumption)
        have q103 : x3_1 < (l0.length : Int) := of_decide_eq_true (by first | (with_reducible assumption) | assumption)
        obtain ⟨ad103, e103, hx103_0, hx103_1, hx103_2, hx103_3, hx103_4, hx103_5, hx103_6, hx103_7, hx103_8, hx103_9, hx103_10⟩ := at_T35 HR0.out x3_1 p103 q103
        obtain rfl : ad101 = ad103 := (by injection e103)
        replace p103 := eq_true p103
        replace q103 := eq_true q103
        go_wp2
        go_roundg k1
        case measure => have := HK1.out; omega
        case rel => exact ⟨(wrap64 (x3_1 + 1)), (by first | rfl | (simp; done) | (simp [*]; done)), H', ⟨by have := HK1.out; omega⟩, by repeat (first | exact Drawn0.refl _ | apply Drawn0.step)⟩
    ·rw [if_neg c3] at H
     exact absurd H (by simp)
   ·rw [if_neg c2] at H
    have c2b0 : decide (x3_1 < (l0.length : Int)) = false := decide_eq_false c2
    clear c2
    obtain rfl := Option.some.inj H
    go_wp2
    go_ret
    exact ⟨by first | rfl | (simp; done) | (simp [*]; done), by repeat (first | exact Drawn0.refl _ | apply Drawn0.step)⟩
end Go.Proofs.YtcdmgdegohcmhaaDoor.PA
