/- The table of crc as the row lays it. -/
import Derived.Test.YtcdmgdegohcmhaaDoorMG1
import Derived.Test.YtcdmgdegohcmhaaDoorMG4
import Derived.Test.YtcdmgdegohcmhaaDoorMG6
import Derived.Test.YtcdmgdegohcmhaaDoorMG5
import Derived.Laws.BitsAllLaws
import Derived.Laws.BitsLemmas
import Derived.ProofKit
import Derived.Test.YtcdmgdegohcmhaaDoorRows
import Derived.WalkKit
import Derived.Below
import Derived.Carry
import Derived.ChangeOld
import Derived.LaidMore
import Derived.Lay
import Derived.OpenShut
import Derived.SevenTiedAt
import Derived.ShutString
import Derived.SizedLaws
import Derived.Stop.Joined
import Derived.Test.YtcdmgdegohcmhaaDoorCards
import Derived.Test.YtcdmgdegohcmhaaDoorTie
namespace Go.Proofs.YtcdmgdegohcmhaaDoor.PA
open Go.RowKit Go.Proofs.YtcdmgdegohcmhaaDoorW.PrintWords Go.Proofs.YtcdmgdegohcmhaaDoorW.PrintLast Go.Proofs.YtcdmgdegohcmhaaDoorW.PrintMore
attribute [local go_sem] max2_int min2_int max_two min_two max_three min_three max_four min_four   -- for this text's walks alone
set_option linter.unusedVariables false
set_option linter.unusedSimpArgs false
mutual
def remoraref20_Bytes.l0 : Nat → List (S35) → List Int → ByteArray → Int → Option (List Int × Int)
 | 0, _, _, _, _ => none
 | k + 1, x0, x5, x6, x7 => if x7 < (x0.length : Int) then (if 0 ≤ x7 then ((remoraref20_alike.f k x6 ((rd_T35 x0 x7).f0)).bind fun t110 => ((remoraref01_Put.f k x5 t110).bind fun t111 => (if 0 ≤ t110 then (if t110 ≤ (((rd_T35 x0 x7).f0).size : Int) then ((remoraref01_PutText.f t111 (((rd_T35 x0 x7).f0).extract (t110 : Int).toNat ((rd_T35 x0 x7).f0).size)).bind fun t114 => (if ((rd_T35 x0 x7).f5).toList = ([] : List UInt8) then (remoraref20_Bytes.j1 k x0 t114 x7 ((rd_T35 x0 x7).f1) ((rd_T35 x0 x7).f0) ((rd_T35 x0 x7).f1) ((rd_T35 x0 x7).f2) ((rd_T35 x0 x7).f3.f0) ((rd_T35 x0 x7).f3.f1) ((rd_T35 x0 x7).f3.f2) ((rd_T35 x0 x7).f3.f3) ((rd_T35 x0 x7).f3.f4) ((rd_T35 x0 x7).f4) ((rd_T35 x0 x7).f5) ((rd_T35 x0 x7).f6)) else (remoraref20_Bytes.j1 k x0 t114 x7 (wrap64 (((rd_T35 x0 x7).f1) + 4)) ((rd_T35 x0 x7).f0) ((rd_T35 x0 x7).f1) ((rd_T35 x0 x7).f2) ((rd_T35 x0 x7).f3.f0) ((rd_T35 x0 x7).f3.f1) ((rd_T35 x0 x7).f3.f2) ((rd_T35 x0 x7).f3.f3) ((rd_T35 x0 x7).f3.f4) ((rd_T35 x0 x7).f4) ((rd_T35 x0 x7).f5) ((rd_T35 x0 x7).f6)))) else (none)) else (none)))) else (none)) else ((remoraref02_Seal.f k x5).bind fun t105 => (some (t105, 0)))
def remoraref20_Bytes.j1 : Nat → List (S35) → List Int → Int → Int → ByteArray → Int → Int → Int → Int → Int → Int → Int → ByteArray → ByteArray → Int → Option (List Int × Int)
 | 0, _, _, _, _, _, _, _, _, _, _, _, _, _, _, _ => none
 | k + 1, x0, x5, x7, x10, x110000, x110001, x110002, x110003, x110004, x110005, x110006, x110007, x110008, x110009, x110010 => (remoraref16_Bytes.f k x110003 x110004 x110005 x110006 x110007).bind fun bt117 => ((remoraref01_Put.f k x5 x10).bind fun t121 => ((remoraref01_Put.f k t121 x110002).bind fun t124 => (if t124.length + bt117.1.length < 140737488355328 then ((some (t124 ++ bt117.1 : List Int)).bind fun y127 => (if x110001 = 3 then ((remoraref01_PutText.f y127 x110008).bind fun t130 => (if t130.length + x110009.size < 140737488355328 then ((some (t130 ++ bytesOf x110009 : List Int)).bind fun y133 => (if x110001 = 1 then ((remoraref01_Put.f k y133 x110010).bind fun t136 => (remoraref20_Bytes.l0 k x0 t136 x110000 (wrap64 (x7 + 1)))) else (remoraref20_Bytes.l0 k x0 y133 x110000 (wrap64 (x7 + 1))))) else (none))) else (if y127.length + x110009.size < 140737488355328 then ((some (y127 ++ bytesOf x110009 : List Int)).bind fun y139 => (if x110001 = 1 then ((remoraref01_Put.f k y139 x110010).bind fun t142 => (remoraref20_Bytes.l0 k x0 t142 x110000 (wrap64 (x7 + 1)))) else (remoraref20_Bytes.l0 k x0 y139 x110000 (wrap64 (x7 + 1))))) else (none)))) else (none))))
end
def remoraref20_Bytes.f (k : Nat) (l0 : List (S35)) : Option (List Int × Int) := (remoraref20_Check.f k l0).bind fun t101 => (if t101 = 0 then ((remoraref01_Put.f k ([] : List Int) (l0.length : Int)).bind fun t102 => (remoraref20_Bytes.l0 k l0 t102 (⟨#[]⟩ : ByteArray) 0)) else (some (([] : List Int), t101)))
def remoraref20_Bytes.T11 : Bool × List (List Nat × List Nat) := (true, [([], []), ([], []), ([0, 1], [0, 1]), ([], []), ([3], [3]), ([], []), ([4, 5], [4, 5]), ([2, 6, 2], [2, 6]), ([7, 7, 0, 1, 2, 3, 4, 5, 6, 7], [0, 7])])
def remoraref20_Bytes.B11 : List Nat := [0, 0, 3, 0, 8, 0, 56, 127, 255]
theorem remoraref20_Bytes.tab11 : rtab .any (opsOf Tryd.f15 11) = remoraref20_Bytes.T11 := by kernel_rfl
theorem remoraref20_Bytes.bits11 : waitsOk remoraref20_Bytes.T11.2 remoraref20_Bytes.B11 = true := by kernel_rfl
def remoraref20_Bytes.T16 : Bool × List (List Nat × List Nat) := (true, [([], []), ([], []), ([0, 1], [0, 1]), ([], []), ([3], [3]), ([2, 4, 2], [2, 4]), ([], []), ([5, 6, 5], [5, 6]), ([7, 7, 0, 1, 2, 3, 4, 5, 6, 7], [0, 7])])
def remoraref20_Bytes.B16 : List Nat := [0, 0, 3, 0, 8, 31, 0, 127, 255]
theorem remoraref20_Bytes.tab16 : rtab .any (opsOf Tryd.f15 16) = remoraref20_Bytes.T16 := by kernel_rfl
theorem remoraref20_Bytes.bits16 : waitsOk remoraref20_Bytes.T16.2 remoraref20_Bytes.B16 = true := by kernel_rfl
set_option maxHeartbeats 8000000 in
set_option maxRecDepth 100000 in
theorem remoraref20_Bytes.calls (k : Nat) (A0 : Option Addr) (c0 : Nat) (l0 : List (S35)) (r1 : List Int) (r2 : Int) (w : World) (hr0 : Kd.C k35 w A0 l0.length l0) (hc0 : l0.length ≤ c0) (h : remoraref20_Bytes.f k l0 = some (r1, r2)) :
  Calls Tryd.prog 15 #[.slice A0 l0.length c0] w fun e w' => ∃ v0_ : Value, e = .returned (.tuple #[v0_, .int .i64 r2]) ∧ Kd.R (Kd.int .u8) 5 w' w.heap.size (fun _ => True) v0_ r1 ∧ Below w.heap.size w w' := by
 have hu35 := Tryd.underlying35
 have hu33 := Tryd.underlying33
 have HR0 := Aside0.mk hr0
 have HC0 := Aside0.mk hc0
 clear hr0 hc0
 have HB := Aside0.mk (Below.refl w.heap.size w)
 have H : ((remoraref20_Check.f k l0).bind fun t101 => (if t101 = 0 then ((remoraref01_Put.f k ([] : List Int) (l0.length : Int)).bind fun t102 => (remoraref20_Bytes.l0 k l0 t102 (⟨#[]⟩ : ByteArray) 0)) else (some (([] : List Int), t101)))) = some (r1, r2) := h
 clear h
 replace H := Option.bind_eq_some_iff.mp H
 obtain ⟨t101, A20, H⟩ := H
 replace H : (if t101 = 0 then ((remoraref01_Put.f k ([] : List Int) (l0.length : Int)).bind fun t102 => (remoraref20_Bytes.l0 k l0 t102 (⟨#[]⟩ : ByteArray) 0)) else (some (([] : List Int), t101))) = some (r1, r2) := H
 have A2 := Aside0.mk A20
 clear A20
 by_cases c3 : t101 = 0
 ·rw [if_pos c3] at H
  have c3b0 : (t101 == 0) = true := beq_iff_eq.mpr c3
  have c3b1 : (t101 != 0) = false := bne_eq_false_iff_eq.mpr c3
  clear c3
  replace H := Option.bind_eq_some_iff.mp H
  obtain ⟨t102, A40, H⟩ := H
  replace H : (remoraref20_Bytes.l0 k l0 t102 (⟨#[]⟩ : ByteArray) 0) = some (r1, r2) := H
  have A4 := Aside0.mk A40
  clear A40
  have H' := Aside0.mk H
  clear H
  go_enter Tryd.func15, Tryd.ntmps15
  go_wp2_with (first | ((with_reducible refine gate_callee (f := 13) rfl ?_); refine goesL_ (some 14) rfl rfl Tryd.func13 (by kernel_rfl) rfl #[.slice A0 l0.length c0] rfl (by (try simp only [List.map_toArray, List.map_cons, List.map_nil]); first | done | rfl | (simp only [List.length_drop, List.length_take]; rfl)) ?_; (with_reducible refine (remoraref20_Check.calls k _ _ l0 t101 _ ?side1 ?side2 A2.out).mono ?_); (case side1 => repeat (first | exact HR0.out | (with_reducible refine Kd.C_alloc ?_ _) | (with_reducible refine Kd.C_drewN ?_ _) | (with_reducible refine Kd.C_drew ?_))); (case side2 => exact HC0.out); rintro e w5 ⟨rfl, hb⟩; refine ⟨_, rfl, ?_⟩; have n0_ := Aside0.mk (below_step (upB HB.out) hb); clear HB; have HB := n0_; clear n0_; (try clear hb); (try clear hb2); (try clear hk); (try clear hi)) | ((with_reducible refine gate_callee (f := 38) rfl ?_); refine goesL_ (some 20) rfl rfl Tryd.func38 (by kernel_rfl) rfl #[.slice none 0 0, .int .i64 (l0.length : Int)] rfl (by (try simp only [List.map_toArray, List.map_cons, List.map_nil]); first | done | rfl | (simp only [List.length_drop, List.length_take]; rfl)) ?_; (refine (remoraref01_Put.calls k _ _ ([] : List Int) (l0.length : Int) t102 _ ?side1 ?side2 A4.out).mono ?_); (case side1 => exact Kd.C_nil _ _); (case side2 => exact Nat.le_refl _); rintro e w6 ⟨v103, rfl, ho0, hb⟩; refine ⟨_, rfl, ?_⟩; have n0_ := Aside0.mk (Kd.R_lower ho0 (below_size (upB HB.out))); have n1_ := Aside0.mk (below_step (upB HB.out) hb); clear HB; have HO104 := n0_; have HB := n1_; clear n0_ n1_; (try clear hb); (try clear hb2); (try clear hk); (try clear hi); (try clear ho0)))
  go_loopg [5, 6, 7] k (fun kq v5 v6 v7 w' => ∃ (x5_1 : List Int) (x6_1 : ByteArray) (x7_1 : Int), v6 = .string x6_1 ∧ v7 = .int .i64 x7_1 ∧ Aside0 (remoraref20_Bytes.l0 kq l0 x5_1 x6_1 x7_1 = some (r1, r2)) ∧ Aside0 (kq ≤ k) ∧ Aside0 (Kd.R (Kd.int .u8) 5 w' w.heap.size (fun _ => True) v5 x5_1) ∧ Aside0 (Below w.heap.size w w'))
  case atStart => exact ⟨(t102), ((⟨#[]⟩ : ByteArray)), (0), (by first | rfl | (simp; done) | (simp [*]; done)), (by first | rfl | (simp; done) | (simp [*]; done)), H', ⟨Nat.le_refl _⟩, ⟨upR HO104.out⟩, ⟨upB HB.out⟩⟩
  case round =>
   clear H'
   try clear c1
   try clear p2
   try clear c3
   try clear c3b0
   try clear c3b1
   obtain ⟨x5_1, x6_1, x7_1, rfl, rfl, HA, HK1, HO_5, HB⟩ := hrel
   cases gk with
   | zero => exact absurd HA.out (by simp [remoraref20_Bytes.l0])
   | succ k1 =>
    have H := HA.out
    clear HA
    simp only [remoraref20_Bytes.l0] at H
    by_cases c7 : x7_1 < (l0.length : Int)
    ·rw [if_pos c7] at H
     have c7b0 : decide (x7_1 < (l0.length : Int)) = true := decide_eq_true c7
     clear c7
     by_cases c8 : 0 ≤ x7_1
     ·rw [if_pos c8] at H
      have c8b0 : decide (0 ≤ x7_1) = true := decide_eq_true c8
      clear c8
      replace H := Option.bind_eq_some_iff.mp H
      obtain ⟨t110, A90, H⟩ := H
      replace H : ((remoraref01_Put.f k1 x5_1 t110).bind fun t111 => (if 0 ≤ t110 then (if t110 ≤ (((rd_T35 l0 x7_1).f0).size : Int) then ((remoraref01_PutText.f t111 (((rd_T35 l0 x7_1).f0).extract (t110 : Int).toNat ((rd_T35 l0 x7_1).f0).size)).bind fun t114 => (if ((rd_T35 l0 x7_1).f5).toList = ([] : List UInt8) then (remoraref20_Bytes.j1 k1 l0 t114 x7_1 ((rd_T35 l0 x7_1).f1) ((rd_T35 l0 x7_1).f0) ((rd_T35 l0 x7_1).f1) ((rd_T35 l0 x7_1).f2) ((rd_T35 l0 x7_1).f3.f0) ((rd_T35 l0 x7_1).f3.f1) ((rd_T35 l0 x7_1).f3.f2) ((rd_T35 l0 x7_1).f3.f3) ((rd_T35 l0 x7_1).f3.f4) ((rd_T35 l0 x7_1).f4) ((rd_T35 l0 x7_1).f5) ((rd_T35 l0 x7_1).f6)) else (remoraref20_Bytes.j1 k1 l0 t114 x7_1 (wrap64 (((rd_T35 l0 x7_1).f1) + 4)) ((rd_T35 l0 x7_1).f0) ((rd_T35 l0 x7_1).f1) ((rd_T35 l0 x7_1).f2) ((rd_T35 l0 x7_1).f3.f0) ((rd_T35 l0 x7_1).f3.f1) ((rd_T35 l0 x7_1).f3.f2) ((rd_T35 l0 x7_1).f3.f3) ((rd_T35 l0 x7_1).f3.f4) ((rd_T35 l0 x7_1).f4) ((rd_T35 l0 x7_1).f5) ((rd_T35 l0 x7_1).f6)))) else (none)) else (none))) = some (r1, r2) := H
      have A9 := Aside0.mk A90
      clear A90
      replace H := Option.bind_eq_some_iff.mp H
      obtain ⟨t111, A100, H⟩ := H
      replace H : (if 0 ≤ t110 then (if t110 ≤ (((rd_T35 l0 x7_1).f0).size : Int) then ((remoraref01_PutText.f t111 (((rd_T35 l0 x7_1).f0).extract (t110 : Int).toNat ((rd_T35 l0 x7_1).f0).size)).bind fun t114 => (if ((rd_T35 l0 x7_1).f5).toList = ([] : List UInt8) then (remoraref20_Bytes.j1 k1 l0 t114 x7_1 ((rd_T35 l0 x7_1).f1) ((rd_T35 l0 x7_1).f0) ((rd_T35 l0 x7_1).f1) ((rd_T35 l0 x7_1).f2) ((rd_T35 l0 x7_1).f3.f0) ((rd_T35 l0 x7_1).f3.f1) ((rd_T35 l0 x7_1).f3.f2) ((rd_T35 l0 x7_1).f3.f3) ((rd_T35 l0 x7_1).f3.f4) ((rd_T35 l0 x7_1).f4) ((rd_T35 l0 x7_1).f5) ((rd_T35 l0 x7_1).f6)) else (remoraref20_Bytes.j1 k1 l0 t114 x7_1 (wrap64 (((rd_T35 l0 x7_1).f1) + 4)) ((rd_T35 l0 x7_1).f0) ((rd_T35 l0 x7_1).f1) ((rd_T35 l0 x7_1).f2) ((rd_T35 l0 x7_1).f3.f0) ((rd_T35 l0 x7_1).f3.f1) ((rd_T35 l0 x7_1).f3.f2) ((rd_T35 l0 x7_1).f3.f3) ((rd_T35 l0 x7_1).f3.f4) ((rd_T35 l0 x7_1).f4) ((rd_T35 l0 x7_1).f5) ((rd_T35 l0 x7_1).f6)))) else (none)) else (none)) = some (r1, r2) := H
      have A10 := Aside0.mk A100
      clear A100
      by_cases c11 : 0 ≤ t110
      ·rw [if_pos c11] at H
       have c11b0 := eq_true c11
       have c11b1 : decide (0 ≤ t110) = true := decide_eq_true c11
       clear c11
       by_cases c12 : t110 ≤ (((rd_T35 l0 x7_1).f0).size : Int)
       ·rw [if_pos c12] at H
        have c12b0 := eq_true c12
        have c12b1 : decide (t110 ≤ (((rd_T35 l0 x7_1).f0).size : Int)) = true := decide_eq_true c12
        clear c12
        replace H := Option.bind_eq_some_iff.mp H
        obtain ⟨t114, A130, H⟩ := H
        replace H : (if ((rd_T35 l0 x7_1).f5).toList = ([] : List UInt8) then (remoraref20_Bytes.j1 k1 l0 t114 x7_1 ((rd_T35 l0 x7_1).f1) ((rd_T35 l0 x7_1).f0) ((rd_T35 l0 x7_1).f1) ((rd_T35 l0 x7_1).f2) ((rd_T35 l0 x7_1).f3.f0) ((rd_T35 l0 x7_1).f3.f1) ((rd_T35 l0 x7_1).f3.f2) ((rd_T35 l0 x7_1).f3.f3) ((rd_T35 l0 x7_1).f3.f4) ((rd_T35 l0 x7_1).f4) ((rd_T35 l0 x7_1).f5) ((rd_T35 l0 x7_1).f6)) else (remoraref20_Bytes.j1 k1 l0 t114 x7_1 (wrap64 (((rd_T35 l0 x7_1).f1) + 4)) ((rd_T35 l0 x7_1).f0) ((rd_T35 l0 x7_1).f1) ((rd_T35 l0 x7_1).f2) ((rd_T35 l0 x7_1).f3.f0) ((rd_T35 l0 x7_1).f3.f1) ((rd_T35 l0 x7_1).f3.f2) ((rd_T35 l0 x7_1).f3.f3) ((rd_T35 l0 x7_1).f3.f4) ((rd_T35 l0 x7_1).f4) ((rd_T35 l0 x7_1).f5) ((rd_T35 l0 x7_1).f6))) = some (r1, r2) := H
        have A13 := Aside0.mk A130
        clear A130
        have HC14 := Aside0.mk H
        clear H
        have p108 : 0 ≤ (x7_1 : Int) := of_decide_eq_true (by first | (with_reducible assumption) | assumption)
        have q108 : x7_1 < (l0.length : Int) := of_decide_eq_true (by first | (with_reducible assumption) | assumption)
        obtain ⟨ad108, e108, hx108_0, hx108_1, hx108_2, hx108_3, hx108_4, hx108_5, hx108_6, hx108_7, hx108_8, hx108_9, hx108_10⟩ := at_T35 HR0.out x7_1 p108 q108
        cases e108
        replace hx108_0 := (HB.out.cell (World.block_lt_of_cell? w _ hx108_0)).trans hx108_0
        replace hx108_1 := (HB.out.cell (World.block_lt_of_cell? w _ hx108_1)).trans hx108_1
        replace hx108_2 := (HB.out.cell (World.block_lt_of_cell? w _ hx108_2)).trans hx108_2
        replace hx108_3 := (HB.out.cell (World.block_lt_of_cell? w _ hx108_3)).trans hx108_3
        replace hx108_4 := (HB.out.cell (World.block_lt_of_cell? w _ hx108_4)).trans hx108_4
        replace hx108_5 := (HB.out.cell (World.block_lt_of_cell? w _ hx108_5)).trans hx108_5
        replace hx108_6 := (HB.out.cell (World.block_lt_of_cell? w _ hx108_6)).trans hx108_6
        replace hx108_7 := (HB.out.cell (World.block_lt_of_cell? w _ hx108_7)).trans hx108_7
        replace hx108_8 := (HB.out.cell (World.block_lt_of_cell? w _ hx108_8)).trans hx108_8
        replace hx108_9 := (HB.out.cell (World.block_lt_of_cell? w _ hx108_9)).trans hx108_9
        replace hx108_10 := (HB.out.cell (World.block_lt_of_cell? w _ hx108_10)).trans hx108_10
        replace p108 := eq_true p108
        replace q108 := eq_true q108
        try go_wp2_with (first | ((with_reducible refine gate_dst (N := 8) rfl ?_); refine box_event ?hg (N := 8) ?hd (cs := #[.string (⟨#[]⟩ : ByteArray), .int .i64 0, .int .i64 0, .int .i64 0, .int .i64 0, .int .i64 0, .int .i64 0, .int .i64 0, .string (⟨#[]⟩ : ByteArray), .string (⟨#[]⟩ : ByteArray), .int .i64 0]) (t := 35) ?hr ?_; (case hd => rfl); (case hg => rfl); (case hr => first | (go_simp; done) | (go_simp; rfl)); intro gb109 hg w15 hbox hb; have n0_ := Aside0.mk (Kd.R_below (upR HO_5.out) hb); have n1_ := Aside0.mk (below_step (upB HB.out) hb); have n2_ := Aside0.mk (hbox); have n3_ := Aside0.mk ((by rw [hg]; exact (below_size (upB HB.out)) : w.heap.size ≤ gb109)); have n4_ := Aside0.mk ((by rw [hg]; exact (below_size (upB HB.out)) : w.heap.size ≤ gb109)); clear HO_5; clear HB; have HO_5 := n0_; have HB := n1_; have BK109 := n2_; have GW109 := n3_; have GE109 := n4_; clear n0_ n1_ n2_ n3_ n4_; clear hb hbox hg; have hcz16_0 : w15.cell? ⟨gb109, 0, none⟩ = some (.string (⟨#[]⟩ : ByteArray)) := (blk_cell BK109.out 0).trans rfl; have hcz16_1 : w15.cell? ⟨gb109, 1, none⟩ = some (.int .i64 0) := (blk_cell BK109.out 1).trans rfl; have hcz16_2 : w15.cell? ⟨gb109, 2, none⟩ = some (.int .i64 0) := (blk_cell BK109.out 2).trans rfl; have hcz16_3 : w15.cell? ⟨gb109, 3, none⟩ = some (.int .i64 0) := (blk_cell BK109.out 3).trans rfl; have hcz16_4 : w15.cell? ⟨gb109, 4, none⟩ = some (.int .i64 0) := (blk_cell BK109.out 4).trans rfl; have hcz16_5 : w15.cell? ⟨gb109, 5, none⟩ = some (.int .i64 0) := (blk_cell BK109.out 5).trans rfl; have hcz16_6 : w15.cell? ⟨gb109, 6, none⟩ = some (.int .i64 0) := (blk_cell BK109.out 6).trans rfl; have hcz16_7 : w15.cell? ⟨gb109, 7, none⟩ = some (.int .i64 0) := (blk_cell BK109.out 7).trans rfl; have hcz16_8 : w15.cell? ⟨gb109, 8, none⟩ = some (.string (⟨#[]⟩ : ByteArray)) := (blk_cell BK109.out 8).trans rfl; have hcz16_9 : w15.cell? ⟨gb109, 9, none⟩ = some (.string (⟨#[]⟩ : ByteArray)) := (blk_cell BK109.out 9).trans rfl; have hcz16_10 : w15.cell? ⟨gb109, 10, none⟩ = some (.int .i64 0) := (blk_cell BK109.out 10).trans rfl; have hfz16_0 := blk_frozen BK109.out 0; have hfz16_1 := blk_frozen BK109.out 1; have hfz16_2 := blk_frozen BK109.out 2; have hfz16_3 := blk_frozen BK109.out 3; have hfz16_4 := blk_frozen BK109.out 4; have hfz16_5 := blk_frozen BK109.out 5; have hfz16_6 := blk_frozen BK109.out 6; have hfz16_7 := blk_frozen BK109.out 7; have hfz16_8 := blk_frozen BK109.out 8; have hfz16_9 := blk_frozen BK109.out 9; have hfz16_10 := blk_frozen BK109.out 10) | ((with_reducible refine gate_callee (f := 39) rfl ?_); refine goesL_ (some 34) rfl rfl Tryd.func39 (by kernel_rfl) rfl #[.string x6_1, .string ((rd_T35 l0 x7_1).f0)] rfl (by (try simp only [List.map_toArray, List.map_cons, List.map_nil]); first | done | rfl | (simp only [List.length_drop, List.length_take]; rfl)) ?_; (with_reducible refine (remoraref20_alike.calls k1 x6_1 ((rd_T35 l0 x7_1).f0) t110 _ A9.out).mono ?_); rintro e w' ⟨rfl, ⟨nd, rfl⟩⟩; refine ⟨_, rfl, ?_⟩))
        have n0_ : Aside0 (Kd.R (Kd.int .u8) 5 (((((((((((w15.setCell ⟨gb109, 0, none⟩ (.string ((rd_T35 l0 x7_1).f0))).setCell ⟨gb109, 1, none⟩ (.int .i64 ((rd_T35 l0 x7_1).f1))).setCell ⟨gb109, 2, none⟩ (.int .i64 ((rd_T35 l0 x7_1).f2))).setCell ⟨gb109, 3, none⟩ (.int .i64 ((rd_T35 l0 x7_1).f3.f0))).setCell ⟨gb109, 4, none⟩ (.int .i64 ((rd_T35 l0 x7_1).f3.f1))).setCell ⟨gb109, 5, none⟩ (.int .i64 ((rd_T35 l0 x7_1).f3.f2))).setCell ⟨gb109, 6, none⟩ (.int .i64 ((rd_T35 l0 x7_1).f3.f3))).setCell ⟨gb109, 7, none⟩ (.int .i64 ((rd_T35 l0 x7_1).f3.f4))).setCell ⟨gb109, 8, none⟩ (.string ((rd_T35 l0 x7_1).f4))).setCell ⟨gb109, 9, none⟩ (.string ((rd_T35 l0 x7_1).f5))).setCell ⟨gb109, 10, none⟩ (.int .i64 ((rd_T35 l0 x7_1).f6))) w.heap.size (fun _ => True) u5 x5_1) := ⟨upR (Kd.R_mono (Kd.R_far (p := ⟨gb109, 10, none⟩) (Kd.R_far (p := ⟨gb109, 9, none⟩) (Kd.R_far (p := ⟨gb109, 8, none⟩) (Kd.R_far (p := ⟨gb109, 7, none⟩) (Kd.R_far (p := ⟨gb109, 6, none⟩) (Kd.R_far (p := ⟨gb109, 5, none⟩) (Kd.R_far (p := ⟨gb109, 4, none⟩) (Kd.R_far (p := ⟨gb109, 3, none⟩) (Kd.R_far (p := ⟨gb109, 2, none⟩) (Kd.R_far (p := ⟨gb109, 1, none⟩) (Kd.R_far (p := ⟨gb109, 0, none⟩) (Kd.R_types HO_5.out BK109.out (by decide)) (fun _ hk => hk.2) (.string ((rd_T35 l0 x7_1).f0))) (fun _ hk => hk.2) (.int .i64 ((rd_T35 l0 x7_1).f1))) (fun _ hk => hk.2) (.int .i64 ((rd_T35 l0 x7_1).f2))) (fun _ hk => hk.2) (.int .i64 ((rd_T35 l0 x7_1).f3.f0))) (fun _ hk => hk.2) (.int .i64 ((rd_T35 l0 x7_1).f3.f1))) (fun _ hk => hk.2) (.int .i64 ((rd_T35 l0 x7_1).f3.f2))) (fun _ hk => hk.2) (.int .i64 ((rd_T35 l0 x7_1).f3.f3))) (fun _ hk => hk.2) (.int .i64 ((rd_T35 l0 x7_1).f3.f4))) (fun _ hk => hk.2) (.string ((rd_T35 l0 x7_1).f4))) (fun _ hk => hk.2) (.string ((rd_T35 l0 x7_1).f5))) (fun _ hk => hk.2) (.int .i64 ((rd_T35 l0 x7_1).f6))) (fun _ hk => trivial))⟩
        have n1_ : Aside0 ((((((((((((w15.setCell ⟨gb109, 0, none⟩ (.string ((rd_T35 l0 x7_1).f0))).setCell ⟨gb109, 1, none⟩ (.int .i64 ((rd_T35 l0 x7_1).f1))).setCell ⟨gb109, 2, none⟩ (.int .i64 ((rd_T35 l0 x7_1).f2))).setCell ⟨gb109, 3, none⟩ (.int .i64 ((rd_T35 l0 x7_1).f3.f0))).setCell ⟨gb109, 4, none⟩ (.int .i64 ((rd_T35 l0 x7_1).f3.f1))).setCell ⟨gb109, 5, none⟩ (.int .i64 ((rd_T35 l0 x7_1).f3.f2))).setCell ⟨gb109, 6, none⟩ (.int .i64 ((rd_T35 l0 x7_1).f3.f3))).setCell ⟨gb109, 7, none⟩ (.int .i64 ((rd_T35 l0 x7_1).f3.f4))).setCell ⟨gb109, 8, none⟩ (.string ((rd_T35 l0 x7_1).f4))).setCell ⟨gb109, 9, none⟩ (.string ((rd_T35 l0 x7_1).f5))).setCell ⟨gb109, 10, none⟩ (.int .i64 ((rd_T35 l0 x7_1).f6))).heap[gb109]? = some (.cells #[.string ((rd_T35 l0 x7_1).f0), .int .i64 ((rd_T35 l0 x7_1).f1), .int .i64 ((rd_T35 l0 x7_1).f2), .int .i64 ((rd_T35 l0 x7_1).f3.f0), .int .i64 ((rd_T35 l0 x7_1).f3.f1), .int .i64 ((rd_T35 l0 x7_1).f3.f2), .int .i64 ((rd_T35 l0 x7_1).f3.f3), .int .i64 ((rd_T35 l0 x7_1).f3.f4), .string ((rd_T35 l0 x7_1).f4), .string ((rd_T35 l0 x7_1).f5), .int .i64 ((rd_T35 l0 x7_1).f6)] 35 (0, 0))) := ⟨by (with_reducible repeat (first | refine blk_drewN ?_ _ | refine blk_drew ?_ | refine blk_alloc ?_ _)); refine blk_put (cs := #[.string ((rd_T35 l0 x7_1).f0), .int .i64 ((rd_T35 l0 x7_1).f1), .int .i64 ((rd_T35 l0 x7_1).f2), .int .i64 ((rd_T35 l0 x7_1).f3.f0), .int .i64 ((rd_T35 l0 x7_1).f3.f1), .int .i64 ((rd_T35 l0 x7_1).f3.f2), .int .i64 ((rd_T35 l0 x7_1).f3.f3), .int .i64 ((rd_T35 l0 x7_1).f3.f4), .string ((rd_T35 l0 x7_1).f4), .string ((rd_T35 l0 x7_1).f5), .int .i64 0]) ?_ 10 _ rfl; (with_reducible repeat (first | refine blk_drewN ?_ _ | refine blk_drew ?_ | refine blk_alloc ?_ _)); refine blk_put (cs := #[.string ((rd_T35 l0 x7_1).f0), .int .i64 ((rd_T35 l0 x7_1).f1), .int .i64 ((rd_T35 l0 x7_1).f2), .int .i64 ((rd_T35 l0 x7_1).f3.f0), .int .i64 ((rd_T35 l0 x7_1).f3.f1), .int .i64 ((rd_T35 l0 x7_1).f3.f2), .int .i64 ((rd_T35 l0 x7_1).f3.f3), .int .i64 ((rd_T35 l0 x7_1).f3.f4), .string ((rd_T35 l0 x7_1).f4), .string (⟨#[]⟩ : ByteArray), .int .i64 0]) ?_ 9 _ rfl; (with_reducible repeat (first | refine blk_drewN ?_ _ | refine blk_drew ?_ | refine blk_alloc ?_ _)); refine blk_put (cs := #[.string ((rd_T35 l0 x7_1).f0), .int .i64 ((rd_T35 l0 x7_1).f1), .int .i64 ((rd_T35 l0 x7_1).f2), .int .i64 ((rd_T35 l0 x7_1).f3.f0), .int .i64 ((rd_T35 l0 x7_1).f3.f1), .int .i64 ((rd_T35 l0 x7_1).f3.f2), .int .i64 ((rd_T35 l0 x7_1).f3.f3), .int .i64 ((rd_T35 l0 x7_1).f3.f4), .string (⟨#[]⟩ : ByteArray), .string (⟨#[]⟩ : ByteArray), .int .i64 0]) ?_ 8 _ rfl; (with_reducible repeat (first | refine blk_drewN ?_ _ | refine blk_drew ?_ | refine blk_alloc ?_ _)); refine blk_put (cs := #[.string ((rd_T35 l0 x7_1).f0), .int .i64 ((rd_T35 l0 x7_1).f1), .int .i64 ((rd_T35 l0 x7_1).f2), .int .i64 ((rd_T35 l0 x7_1).f3.f0), .int .i64 ((rd_T35 l0 x7_1).f3.f1), .int .i64 ((rd_T35 l0 x7_1).f3.f2), .int .i64 ((rd_T35 l0 x7_1).f3.f3), .int .i64 0, .string (⟨#[]⟩ : ByteArray), .string (⟨#[]⟩ : ByteArray), .int .i64 0]) ?_ 7 _ rfl; (with_reducible repeat (first | refine blk_drewN ?_ _ | refine blk_drew ?_ | refine blk_alloc ?_ _)); refine blk_put (cs := #[.string ((rd_T35 l0 x7_1).f0), .int .i64 ((rd_T35 l0 x7_1).f1), .int .i64 ((rd_T35 l0 x7_1).f2), .int .i64 ((rd_T35 l0 x7_1).f3.f0), .int .i64 ((rd_T35 l0 x7_1).f3.f1), .int .i64 ((rd_T35 l0 x7_1).f3.f2), .int .i64 0, .int .i64 0, .string (⟨#[]⟩ : ByteArray), .string (⟨#[]⟩ : ByteArray), .int .i64 0]) ?_ 6 _ rfl; (with_reducible repeat (first | refine blk_drewN ?_ _ | refine blk_drew ?_ | refine blk_alloc ?_ _)); refine blk_put (cs := #[.string ((rd_T35 l0 x7_1).f0), .int .i64 ((rd_T35 l0 x7_1).f1), .int .i64 ((rd_T35 l0 x7_1).f2), .int .i64 ((rd_T35 l0 x7_1).f3.f0), .int .i64 ((rd_T35 l0 x7_1).f3.f1), .int .i64 0, .int .i64 0, .int .i64 0, .string (⟨#[]⟩ : ByteArray), .string (⟨#[]⟩ : ByteArray), .int .i64 0]) ?_ 5 _ rfl; (with_reducible repeat (first | refine blk_drewN ?_ _ | refine blk_drew ?_ | refine blk_alloc ?_ _)); refine blk_put (cs := #[.string ((rd_T35 l0 x7_1).f0), .int .i64 ((rd_T35 l0 x7_1).f1), .int .i64 ((rd_T35 l0 x7_1).f2), .int .i64 ((rd_T35 l0 x7_1).f3.f0), .int .i64 0, .int .i64 0, .int .i64 0, .int .i64 0, .string (⟨#[]⟩ : ByteArray), .string (⟨#[]⟩ : ByteArray), .int .i64 0]) ?_ 4 _ rfl; (with_reducible repeat (first | refine blk_drewN ?_ _ | refine blk_drew ?_ | refine blk_alloc ?_ _)); refine blk_put (cs := #[.string ((rd_T35 l0 x7_1).f0), .int .i64 ((rd_T35 l0 x7_1).f1), .int .i64 ((rd_T35 l0 x7_1).f2), .int .i64 0, .int .i64 0, .int .i64 0, .int .i64 0, .int .i64 0, .string (⟨#[]⟩ : ByteArray), .string (⟨#[]⟩ : ByteArray), .int .i64 0]) ?_ 3 _ rfl; (with_reducible repeat (first | refine blk_drewN ?_ _ | refine blk_drew ?_ | refine blk_alloc ?_ _)); refine blk_put (cs := #[.string ((rd_T35 l0 x7_1).f0), .int .i64 ((rd_T35 l0 x7_1).f1), .int .i64 0, .int .i64 0, .int .i64 0, .int .i64 0, .int .i64 0, .int .i64 0, .string (⟨#[]⟩ : ByteArray), .string (⟨#[]⟩ : ByteArray), .int .i64 0]) ?_ 2 _ rfl; (with_reducible repeat (first | refine blk_drewN ?_ _ | refine blk_drew ?_ | refine blk_alloc ?_ _)); refine blk_put (cs := #[.string ((rd_T35 l0 x7_1).f0), .int .i64 0, .int .i64 0, .int .i64 0, .int .i64 0, .int .i64 0, .int .i64 0, .int .i64 0, .string (⟨#[]⟩ : ByteArray), .string (⟨#[]⟩ : ByteArray), .int .i64 0]) ?_ 1 _ rfl; (with_reducible repeat (first | refine blk_drewN ?_ _ | refine blk_drew ?_ | refine blk_alloc ?_ _)); refine blk_put (cs := #[.string (⟨#[]⟩ : ByteArray), .int .i64 0, .int .i64 0, .int .i64 0, .int .i64 0, .int .i64 0, .int .i64 0, .int .i64 0, .string (⟨#[]⟩ : ByteArray), .string (⟨#[]⟩ : ByteArray), .int .i64 0]) ?_ 0 _ rfl; (with_reducible repeat (first | refine blk_drewN ?_ _ | refine blk_drew ?_ | refine blk_alloc ?_ _)); exact BK109.out⟩
        have n2_ : Aside0 (Below w.heap.size w (((((((((((w15.setCell ⟨gb109, 0, none⟩ (.string ((rd_T35 l0 x7_1).f0))).setCell ⟨gb109, 1, none⟩ (.int .i64 ((rd_T35 l0 x7_1).f1))).setCell ⟨gb109, 2, none⟩ (.int .i64 ((rd_T35 l0 x7_1).f2))).setCell ⟨gb109, 3, none⟩ (.int .i64 ((rd_T35 l0 x7_1).f3.f0))).setCell ⟨gb109, 4, none⟩ (.int .i64 ((rd_T35 l0 x7_1).f3.f1))).setCell ⟨gb109, 5, none⟩ (.int .i64 ((rd_T35 l0 x7_1).f3.f2))).setCell ⟨gb109, 6, none⟩ (.int .i64 ((rd_T35 l0 x7_1).f3.f3))).setCell ⟨gb109, 7, none⟩ (.int .i64 ((rd_T35 l0 x7_1).f3.f4))).setCell ⟨gb109, 8, none⟩ (.string ((rd_T35 l0 x7_1).f4))).setCell ⟨gb109, 9, none⟩ (.string ((rd_T35 l0 x7_1).f5))).setCell ⟨gb109, 10, none⟩ (.int .i64 ((rd_T35 l0 x7_1).f6)))) := ⟨by repeat (first | (with_reducible first | exact HB.out | apply below_alloc | apply pw_below_drewN | apply below_drew1 | refine below_set ?_ GE109.out) | exact HB.out)⟩
        (try clear HO_5)
        (try clear BK109)
        (try clear HB)
        generalize (((((((((((w15.setCell ⟨gb109, 0, none⟩ (.string ((rd_T35 l0 x7_1).f0))).setCell ⟨gb109, 1, none⟩ (.int .i64 ((rd_T35 l0 x7_1).f1))).setCell ⟨gb109, 2, none⟩ (.int .i64 ((rd_T35 l0 x7_1).f2))).setCell ⟨gb109, 3, none⟩ (.int .i64 ((rd_T35 l0 x7_1).f3.f0))).setCell ⟨gb109, 4, none⟩ (.int .i64 ((rd_T35 l0 x7_1).f3.f1))).setCell ⟨gb109, 5, none⟩ (.int .i64 ((rd_T35 l0 x7_1).f3.f2))).setCell ⟨gb109, 6, none⟩ (.int .i64 ((rd_T35 l0 x7_1).f3.f3))).setCell ⟨gb109, 7, none⟩ (.int .i64 ((rd_T35 l0 x7_1).f3.f4))).setCell ⟨gb109, 8, none⟩ (.string ((rd_T35 l0 x7_1).f4))).setCell ⟨gb109, 9, none⟩ (.string ((rd_T35 l0 x7_1).f5))).setCell ⟨gb109, 10, none⟩ (.int .i64 ((rd_T35 l0 x7_1).f6))) = w17 at n0_ n1_ n2_ ⊢
        have HO_5 := n0_
        have BK109 := n1_
        have HB := n2_
        clear n0_ n1_ n2_
        (try (rw [drewN_self w17]; generalize hq_ : World.drewN w17 _ = w17; have n0_ : Aside0 (Kd.R (Kd.int .u8) 5 w17 w.heap.size (fun _ => True) u5 x5_1) := ⟨by rw [← hq_]; exact (upR HO_5.out)⟩; have n1_ : Aside0 (w17.heap[gb109]? = some (.cells #[.string ((rd_T35 l0 x7_1).f0), .int .i64 ((rd_T35 l0 x7_1).f1), .int .i64 ((rd_T35 l0 x7_1).f2), .int .i64 ((rd_T35 l0 x7_1).f3.f0), .int .i64 ((rd_T35 l0 x7_1).f3.f1), .int .i64 ((rd_T35 l0 x7_1).f3.f2), .int .i64 ((rd_T35 l0 x7_1).f3.f3), .int .i64 ((rd_T35 l0 x7_1).f3.f4), .string ((rd_T35 l0 x7_1).f4), .string ((rd_T35 l0 x7_1).f5), .int .i64 ((rd_T35 l0 x7_1).f6)] 35 (0, 0))) := ⟨by rw [← hq_]; exact (upK BK109.out)⟩; have n2_ : Aside0 (Below w.heap.size w w17) := ⟨by rw [← hq_]; exact (by repeat (first | (with_reducible first | exact HB.out | apply below_alloc | apply pw_below_drewN | apply below_drew1 | refine below_set ?_ GE109.out) | exact HB.out))⟩; clear HO_5 BK109 HB hq_; have HO_5 := n0_; have BK109 := n1_; have HB := n2_; clear n0_ n1_ n2_))
        have n0_ := Aside0.mk (Kd.R_drew HO_5.out)
        have n1_ := Aside0.mk (blk_drew BK109.out)
        have n2_ := Aside0.mk (below_drew1 HB.out)
        clear HO_5
        clear BK109
        clear HB
        have HO_5 := n0_
        have BK109 := n1_
        have HB := n2_
        clear n0_ n1_ n2_
        obtain ⟨Ao19, co19, eo19⟩ := Kd.R_slice HO_5.out
        (first | subst eo19 | (injection eo19 with f1_ f2_ f3_; have f4_ := f1_.symm; have f5_ := f3_.symm; clear f1_ f2_ f3_; subst f4_; subst f5_))
        refine start_ (n := 9) (S := fun w' => w'.cell? ⟨gb109, 0, none⟩ = some (.string ((rd_T35 l0 x7_1).f0)) ∧ w'.cell? ⟨gb109, 1, none⟩ = some (.int .i64 ((rd_T35 l0 x7_1).f1)) ∧ w'.cell? ⟨gb109, 2, none⟩ = some (.int .i64 ((rd_T35 l0 x7_1).f2)) ∧ w'.cell? ⟨gb109, 3, none⟩ = some (.int .i64 ((rd_T35 l0 x7_1).f3.f0)) ∧ w'.cell? ⟨gb109, 4, none⟩ = some (.int .i64 ((rd_T35 l0 x7_1).f3.f1)) ∧ w'.cell? ⟨gb109, 5, none⟩ = some (.int .i64 ((rd_T35 l0 x7_1).f3.f2)) ∧ w'.cell? ⟨gb109, 6, none⟩ = some (.int .i64 ((rd_T35 l0 x7_1).f3.f3)) ∧ w'.cell? ⟨gb109, 7, none⟩ = some (.int .i64 ((rd_T35 l0 x7_1).f3.f4)) ∧ w'.cell? ⟨gb109, 8, none⟩ = some (.string ((rd_T35 l0 x7_1).f4)) ∧ w'.cell? ⟨gb109, 9, none⟩ = some (.string ((rd_T35 l0 x7_1).f5)) ∧ w'.cell? ⟨gb109, 10, none⟩ = some (.int .i64 ((rd_T35 l0 x7_1).f6))) (ds := []) #[Z_,Z_,Z_,Z_,Z_,Z_,Z_,Z_,Z_] (by kernel_rfl) rfl rfl ⟨(blk_cell BK109.out 0).trans rfl, (blk_cell BK109.out 1).trans rfl, (blk_cell BK109.out 2).trans rfl, (blk_cell BK109.out 3).trans rfl, (blk_cell BK109.out 4).trans rfl, (blk_cell BK109.out 5).trans rfl, (blk_cell BK109.out 6).trans rfl, (blk_cell BK109.out 7).trans rfl, (blk_cell BK109.out 8).trans rfl, (blk_cell BK109.out 9).trans rfl, (blk_cell BK109.out 10).trans rfl⟩ (fun hHeld => ?_); refine with_tabW remoraref20_Bytes.tab11 remoraref20_Bytes.bits11 (fun HT_ HW_ => ?_)
        generalize w17.drew = w18 at HO_5 BK109 HB hHeld ⊢
        refine pure_ (i := 0) (N := some 35) (v := ?_) (a' := ?_) #[Y_,Z_,Z_,Z_,Z_,Z_,Z_,Z_,Z_] rfl rfl (any_of HT_.out (by kernel_rfl)) (fun _ _ _ h => h) (Or.inl ⟨by rfl, ?_⟩) ?_ ?_
        rotate_left
        ·intro w';go_simp;with_reducible rfl
        rotate_left
        ·simp only [Act.put, nS, i64_w, i32_w];rfl
        refine pure_ (i := 1) (N := some 36) (v := ?_) (a' := ?_) #[Y_,Y_,Z_,Z_,Z_,Z_,Z_,Z_,Z_] rfl rfl (any_of HT_.out (by kernel_rfl)) (fun _ _ _ h => h) (Or.inl ⟨by rfl, ?_⟩) ?_ ?_
        rotate_left
        ·intro w';go_simp;with_reducible rfl
        rotate_left
        ·simp only [Act.put, nS, i64_w, i32_w];rfl
        refine pure_ (i := 3) (N := some 38) (v := ?_) (a' := ?_) #[Y_,Y_,Z_,Y_,Z_,Z_,Z_,Z_,Z_] rfl rfl (any_of HT_.out (by kernel_rfl)) (fun _ _ _ h => h) (Or.inl ⟨by rfl, ?_⟩) ?_ ?_
        rotate_left
        ·intro w';go_simp;with_reducible rfl
        rotate_left
        ·simp only [Act.put, nS, i64_w, i32_w];rfl
        refine pure_ (i := 5) (N := some 40) (v := ?_) (a' := ?_) #[Y_,Y_,Z_,Y_,Z_,Y_,Z_,Z_,Z_] rfl rfl (any_of HT_.out (by kernel_rfl)) (fun _ _ _ h => h) (Or.inl ⟨by rfl, ?_⟩) ?_ ?_
        rotate_left
        ·intro w';go_simp;with_reducible rfl
        rotate_left
        ·simp only [Act.put, nS, i64_w, i32_w];rfl
        refine take_ (i := 4) (N := some 39) (v := ?_) (a' := ?_) #[Y_,Y_,Z_,Y_,Y_,Y_,Z_,Z_,Z_] rfl rfl (take_ofW HT_.out HW_.out (by kernel_rfl)) (fun _ _ _ h => h) (Or.inl ⟨by rfl, ?_⟩) hHeld ?_ ?_
        rotate_left
        ·rintro w' ⟨s0, s1, s2, s3, s4, s5, s6, s7, s8, s9, s10⟩
         go_simp
         with_reducible rfl
        rotate_left
        ·simp only [Act.put, nS, i64_w, i32_w];rfl
        refine pure_ (i := 6) (N := some 41) (v := ?_) (a' := ?_) #[Y_,Y_,Z_,Y_,Y_,Y_,Y_,Z_,Z_] rfl rfl (any_of HT_.out (by kernel_rfl)) (fun _ _ _ h => h) (Or.inl ⟨by rfl, ?_⟩) ?_ ?_
        rotate_left
        ·intro w';go_simp;with_reducible rfl
        rotate_left
        ·simp only [Act.put, nS, i64_w, i32_w];rfl
        refine one_ (i := 2) (N := some 37) #[Y_,Y_,Y_,Y_,Y_,Y_,Y_,Z_,Z_] rfl rfl (one_of HT_.out (by kernel_rfl)) (by decide) (fun K hK => ?_)
        refine goes_ Tryd.func38 (by kernel_rfl) rfl #[.slice Ao19 x5_1.length co19, .int .i64 t110] (by rfl) rfl rfl (by (try simp only [List.map_toArray, List.map_cons, List.map_nil]); first | done | rfl | (simp only [List.length_drop, List.length_take]; rfl)) ?_
        with_reducible refine (remoraref01_Put.calls k1 _ _ x5_1 t110 t111 _ ?side1 ?side2 A10.out).mono ?_
        (case side1 => repeat (first | exact (Kd.R_reads' HO_5.out).2.2 | (with_reducible refine Kd.C_alloc ?_ _) | (with_reducible refine Kd.C_drewN ?_ _) | (with_reducible refine Kd.C_drew ?_)))
        (case side2 => exact (Kd.R_reads' HO_5.out).2.1)
        rintro e w20 ⟨v112, rfl, ho0, hb⟩
        refine ⟨_, rfl, ?_⟩
        have n0_ := Aside0.mk (Kd.R_elder' (upR HO_5.out) (Kd.R_base ho0) hb)
        have n1_ := Aside0.mk (Kd.R_lower (Kd.R_new' ho0 (Kd.R_lt (upR HO_5.out))) (below_size (by repeat (first | (with_reducible first | exact HB.out | apply below_alloc | apply pw_below_drewN | apply below_drew1 | refine below_set ?_ GE109.out) | exact HB.out))))
        have n2_ := Aside0.mk (blk_below (g := gb109) (o := .cells #[.string ((rd_T35 l0 x7_1).f0), .int .i64 ((rd_T35 l0 x7_1).f1), .int .i64 ((rd_T35 l0 x7_1).f2), .int .i64 ((rd_T35 l0 x7_1).f3.f0), .int .i64 ((rd_T35 l0 x7_1).f3.f1), .int .i64 ((rd_T35 l0 x7_1).f3.f2), .int .i64 ((rd_T35 l0 x7_1).f3.f3), .int .i64 ((rd_T35 l0 x7_1).f3.f4), .string ((rd_T35 l0 x7_1).f4), .string ((rd_T35 l0 x7_1).f5), .int .i64 ((rd_T35 l0 x7_1).f6)] 35 (0, 0)) (upK BK109.out) hb)
        have n3_ := Aside0.mk (below_step (by repeat (first | (with_reducible first | exact HB.out | apply below_alloc | apply pw_below_drewN | apply below_drew1 | refine below_set ?_ GE109.out) | exact HB.out)) hb)
        clear HO_5
        clear BK109
        clear HB
        have HO_5 := n0_
        have HO113 := n1_
        have BK109 := n2_
        have HB := n3_
        clear n0_ n1_ n2_ n3_
        (try clear hb)
        (try clear hb2)
        (try clear hk)
        (try clear hi)
        (try clear ho0)
        obtain ⟨Ao21, co21, eo21⟩ := Kd.R_slice HO113.out
        (first | subst eo21 | (injection eo21 with f1_ f2_ f3_; have f4_ := f1_.symm; have f5_ := f3_.symm; clear f1_ f2_ f3_; subst f4_; subst f5_))
        refine hK.out _ _ ⟨(blk_cell BK109.out 0).trans rfl, (blk_cell BK109.out 1).trans rfl, (blk_cell BK109.out 2).trans rfl, (blk_cell BK109.out 3).trans rfl, (blk_cell BK109.out 4).trans rfl, (blk_cell BK109.out 5).trans rfl, (blk_cell BK109.out 6).trans rfl, (blk_cell BK109.out 7).trans rfl, (blk_cell BK109.out 8).trans rfl, (blk_cell BK109.out 9).trans rfl, (blk_cell BK109.out 10).trans rfl⟩ (fun hHeld => ?_)
        clear hK K
        refine norm_ (a' := ?_) ?_ ?_
        rotate_left
        ·show Act.put _ (some 37) _ = _
         simp only [Act.put, nS, i64_w, i32_w]
         rfl
        refine one_ (i := 7) (N := some 42) #[Y_,Y_,Y_,Y_,Y_,Y_,Y_,Y_,Z_] rfl rfl (one_of HT_.out (by kernel_rfl)) (by decide) (fun K hK => ?_)
        refine goes_ Tryd.func40 (by kernel_rfl) rfl #[.slice Ao21 t111.length co21, .string (((rd_T35 l0 x7_1).f0).extract (t110 : Int).toNat ((rd_T35 l0 x7_1).f0).size)] (by rfl) rfl rfl (by (try simp only [List.map_toArray, List.map_cons, List.map_nil]); first | done | rfl | (simp only [List.length_drop, List.length_take]; rfl)) ?_
        with_reducible refine (remoraref01_PutText.calls _ _ t111 (((rd_T35 l0 x7_1).f0).extract (t110 : Int).toNat ((rd_T35 l0 x7_1).f0).size) t114 _ ?side1 ?side2 A13.out).mono ?_
        (case side1 => repeat (first | exact (Kd.R_reads' HO113.out).2.2 | (with_reducible refine Kd.C_alloc ?_ _) | (with_reducible refine Kd.C_drewN ?_ _) | (with_reducible refine Kd.C_drew ?_)))
        (case side2 => exact (Kd.R_reads' HO113.out).2.1)
        rintro e w22 ⟨v115, rfl, ho0, hb⟩
        refine ⟨_, rfl, ?_⟩
        have n0_ := Aside0.mk (Kd.R_elder' (upR HO_5.out) (Kd.R_base ho0) hb)
        have n1_ := Aside0.mk (Kd.R_elder' (upR HO113.out) (Kd.R_base ho0) hb)
        have n2_ := Aside0.mk (Kd.R_lower (Kd.R_new' (Kd.R_new' ho0 (Kd.R_lt (upR HO_5.out))) (Kd.R_lt (upR HO113.out))) (below_size (by repeat (first | (with_reducible first | exact HB.out | apply below_alloc | apply pw_below_drewN | apply below_drew1 | refine below_set ?_ GE109.out) | exact HB.out))))
        have n3_ := Aside0.mk (blk_below (g := gb109) (o := .cells #[.string ((rd_T35 l0 x7_1).f0), .int .i64 ((rd_T35 l0 x7_1).f1), .int .i64 ((rd_T35 l0 x7_1).f2), .int .i64 ((rd_T35 l0 x7_1).f3.f0), .int .i64 ((rd_T35 l0 x7_1).f3.f1), .int .i64 ((rd_T35 l0 x7_1).f3.f2), .int .i64 ((rd_T35 l0 x7_1).f3.f3), .int .i64 ((rd_T35 l0 x7_1).f3.f4), .string ((rd_T35 l0 x7_1).f4), .string ((rd_T35 l0 x7_1).f5), .int .i64 ((rd_T35 l0 x7_1).f6)] 35 (0, 0)) (upK BK109.out) hb)
        have n4_ := Aside0.mk (below_step (by repeat (first | (with_reducible first | exact HB.out | apply below_alloc | apply pw_below_drewN | apply below_drew1 | refine below_set ?_ GE109.out) | exact HB.out)) hb)
        clear HO_5
        clear HO113
        clear BK109
        clear HB
        have HO_5 := n0_
        have HO113 := n1_
        have HO116 := n2_
        have BK109 := n3_
        have HB := n4_
        clear n0_ n1_ n2_ n3_ n4_
        (try clear hb)
        (try clear hb2)
        (try clear hk)
        (try clear hi)
        (try clear ho0)
        refine hK.out _ _ ⟨(blk_cell BK109.out 0).trans rfl, (blk_cell BK109.out 1).trans rfl, (blk_cell BK109.out 2).trans rfl, (blk_cell BK109.out 3).trans rfl, (blk_cell BK109.out 4).trans rfl, (blk_cell BK109.out 5).trans rfl, (blk_cell BK109.out 6).trans rfl, (blk_cell BK109.out 7).trans rfl, (blk_cell BK109.out 8).trans rfl, (blk_cell BK109.out 9).trans rfl, (blk_cell BK109.out 10).trans rfl⟩ (fun hHeld => ?_)
        clear hK K
        refine norm_ (a' := ?_) ?_ ?_
        rotate_left
        ·show Act.put _ (some 42) _ = _
         simp only [Act.put, nS, i64_w, i32_w]
         rfl
        refine pure_ (i := 8) (N := some 5) (v := ?_) (a' := ?_) #[Y_,Y_,Y_,Y_,Y_,Y_,Y_,Y_,Y_] rfl rfl (any_of HT_.out (by kernel_rfl)) (fun _ _ _ h => h) (Or.inl ⟨by rfl, ?_⟩) ?_ ?_
        rotate_left
        ·intro w';go_simp;with_reducible rfl
        rotate_left
        ·simp only [Act.put, nS, i64_w, i32_w];rfl
        refine done_ (done_of HT_.out (by kernel_rfl)) ?_
        obtain ⟨hcz23_0, hcz23_1, hcz23_2, hcz23_3, hcz23_4, hcz23_5, hcz23_6, hcz23_7, hcz23_8, hcz23_9, hcz23_10⟩ := blkc11 BK109.out
        obtain ⟨hfz23_0, hfz23_1, hfz23_2, hfz23_3, hfz23_4, hfz23_5, hfz23_6, hfz23_7, hfz23_8, hfz23_9, hfz23_10⟩ := blkf11 BK109.out
        go_upto_if 47 with (fail)
        go_cut [10] (fun v10 wc => ∃ (kq : Nat) (x10_13 : Int), v10 = .int .i64 x10_13 ∧ Aside0 (remoraref20_Bytes.j1 kq l0 t114 x7_1 x10_13 ((rd_T35 l0 x7_1).f0) ((rd_T35 l0 x7_1).f1) ((rd_T35 l0 x7_1).f2) ((rd_T35 l0 x7_1).f3.f0) ((rd_T35 l0 x7_1).f3.f1) ((rd_T35 l0 x7_1).f3.f2) ((rd_T35 l0 x7_1).f3.f3) ((rd_T35 l0 x7_1).f3.f4) ((rd_T35 l0 x7_1).f4) ((rd_T35 l0 x7_1).f5) ((rd_T35 l0 x7_1).f6) = some (r1, r2)) ∧ Aside0 (kq ≤ k1) ∧ Aside0 (Kd.R (Kd.int .u8) 5 wc w.heap.size (fun _ => True) v115 t114) ∧ Aside0 (wc.heap[gb109]? = some (.cells #[.string ((rd_T35 l0 x7_1).f0), .int .i64 ((rd_T35 l0 x7_1).f1), .int .i64 ((rd_T35 l0 x7_1).f2), .int .i64 ((rd_T35 l0 x7_1).f3.f0), .int .i64 ((rd_T35 l0 x7_1).f3.f1), .int .i64 ((rd_T35 l0 x7_1).f3.f2), .int .i64 ((rd_T35 l0 x7_1).f3.f3), .int .i64 ((rd_T35 l0 x7_1).f3.f4), .string ((rd_T35 l0 x7_1).f4), .string ((rd_T35 l0 x7_1).f5), .int .i64 ((rd_T35 l0 x7_1).f6)] 35 (0, 0))) ∧ Aside0 (Below w.heap.size w wc))
        case first =>
         have H := HC14.out
         clear HC14
         by_cases c24 : ((rd_T35 l0 x7_1).f5).toList = ([] : List UInt8)
         ·rw [if_pos c24] at H
          have c24b0 : (((rd_T35 l0 x7_1).f5).toList == ([] : List UInt8)) = true := beq_iff_eq.mpr c24
          have c24e : (((rd_T35 l0 x7_1).f5).toList.isEmpty) = true := by rw [c24]; rfl
          have c24b1 : (((rd_T35 l0 x7_1).f5).toList != ([] : List UInt8)) = false := bne_eq_false_iff_eq.mpr c24
          clear c24
          (first | rw [c24b0] | (simp only [i64_w, i32_w]; rw [c24b0]) | skip)
          (try rw [c24e])
          (try simp only [Bool.not_true, Bool.not_false])
          have H' := Aside0.mk H
          clear H
          go_wp2
          go_meet
          case rel => exact ⟨_, ((rd_T35 l0 x7_1).f1), (by first | rfl | (simp; done) | (simp [*]; done)), H', ⟨by have := HK1.out; first | omega | exact Nat.le_refl _⟩, ⟨upR (Kd.R_mono HO116.out (fun _ hk => trivial))⟩, ⟨upK BK109.out⟩, ⟨by repeat (first | (with_reducible first | exact HB.out | apply below_alloc | apply pw_below_drewN | apply below_drew1 | refine below_set ?_ GE109.out) | exact HB.out)⟩⟩
         rw [if_neg c24] at H
         have c24b0 : (((rd_T35 l0 x7_1).f5).toList == ([] : List UInt8)) = false := beq_eq_false_iff_ne.mpr c24
         have c24e : (((rd_T35 l0 x7_1).f5).toList.isEmpty) = false := by cases hc_ : ((rd_T35 l0 x7_1).f5).toList with | nil => exact absurd hc_ c24 | cons _ _ => rfl
         have c24b1 : (((rd_T35 l0 x7_1).f5).toList != ([] : List UInt8)) = true := bne_iff_ne.mpr c24
         (first | rw [c24b0] | (simp only [i64_w, i32_w]; rw [c24b0]) | skip)
         (try rw [c24e])
         (try simp only [Bool.not_true, Bool.not_false])
         have H' := Aside0.mk H
         clear H
         go_wp2
         go_meet
         case rel => exact ⟨_, (wrap64 (((rd_T35 l0 x7_1).f1) + 4)), (by first | rfl | (simp; done) | (simp [*]; done)), H', ⟨by have := HK1.out; first | omega | exact Nat.le_refl _⟩, ⟨upR (Kd.R_mono HO116.out (fun _ hk => trivial))⟩, ⟨upK BK109.out⟩, ⟨by repeat (first | (with_reducible first | exact HB.out | apply below_alloc | apply pw_below_drewN | apply below_drew1 | refine below_set ?_ GE109.out) | exact HB.out)⟩⟩
        case rest =>
         clear HC14
         try clear c1
         try clear p1
         try clear q1
         try clear hx1
         try clear c2
         try clear p2
         try clear c3
         try clear c3b0
         try clear c3b1
         try clear c4
         try clear p6
         try clear c7
         try clear c7b0
         try clear c8
         try clear c8b0
         try clear p10
         try clear q10
         try clear hx10
         try clear c11
         try clear c11b0
         try clear c11b1
         try clear c12
         try clear c12b0
         try clear c12b1
         try clear c13
         try clear c15
         try clear c24
         try clear c24b0
         try clear c24b1
         try clear hcz16_0
         try clear hcz16_1
         try clear hcz16_10
         try clear hcz16_2
         try clear hcz16_3
         try clear hcz16_4
         try clear hcz16_5
         try clear hcz16_6
         try clear hcz16_7
         try clear hcz16_8
         try clear hcz16_9
         try clear hcz23_0
         try clear hcz23_1
         try clear hcz23_10
         try clear hcz23_2
         try clear hcz23_3
         try clear hcz23_4
         try clear hcz23_5
         try clear hcz23_6
         try clear hcz23_7
         try clear hcz23_8
         try clear hcz23_9
         try clear hfz16_0
         try clear hfz16_1
         try clear hfz16_10
         try clear hfz16_2
         try clear hfz16_3
         try clear hfz16_4
         try clear hfz16_5
         try clear hfz16_6
         try clear hfz16_7
         try clear hfz16_8
         try clear hfz16_9
         try clear hfz23_0
         try clear hfz23_1
         try clear hfz23_10
         try clear hfz23_2
         try clear hfz23_3
         try clear hfz23_4
         try clear hfz23_5
         try clear hfz23_6
         try clear hfz23_7
         try clear hfz23_8
         try clear hfz23_9
         try clear hx108_0
         try clear hx108_1
         try clear hx108_10
         try clear hx108_2
         try clear hx108_3
         try clear hx108_4
         try clear hx108_5
         try clear hx108_6
         try clear hx108_7
         try clear hx108_8
         try clear hx108_9
         try clear p108
         try clear p2
         try clear q108
         obtain ⟨kq, x10_13, rfl, HA, HJ13, HO_5, BK109, HB⟩ := hcut
         cases kq with
         | zero => exact absurd HA.out (by simp [remoraref20_Bytes.j1])
         | succ kj13 =>
          have H := HA.out
          clear HA
          simp only [remoraref20_Bytes.j1] at H
          replace H := Option.bind_eq_some_iff.mp H
          obtain ⟨⟨t117, t120⟩, A250, H⟩ := H
          replace H : ((remoraref01_Put.f kj13 t114 x10_13).bind fun t121 => ((remoraref01_Put.f kj13 t121 ((rd_T35 l0 x7_1).f2)).bind fun t124 => (if t124.length + t117.length < 140737488355328 then ((some (t124 ++ t117 : List Int)).bind fun y127 => (if ((rd_T35 l0 x7_1).f1) = 3 then ((remoraref01_PutText.f y127 ((rd_T35 l0 x7_1).f4)).bind fun t130 => (if t130.length + ((rd_T35 l0 x7_1).f5).size < 140737488355328 then ((some (t130 ++ bytesOf ((rd_T35 l0 x7_1).f5) : List Int)).bind fun y133 => (if ((rd_T35 l0 x7_1).f1) = 1 then ((remoraref01_Put.f kj13 y133 ((rd_T35 l0 x7_1).f6)).bind fun t136 => (remoraref20_Bytes.l0 kj13 l0 t136 ((rd_T35 l0 x7_1).f0) (wrap64 (x7_1 + 1)))) else (remoraref20_Bytes.l0 kj13 l0 y133 ((rd_T35 l0 x7_1).f0) (wrap64 (x7_1 + 1))))) else (none))) else (if y127.length + ((rd_T35 l0 x7_1).f5).size < 140737488355328 then ((some (y127 ++ bytesOf ((rd_T35 l0 x7_1).f5) : List Int)).bind fun y139 => (if ((rd_T35 l0 x7_1).f1) = 1 then ((remoraref01_Put.f kj13 y139 ((rd_T35 l0 x7_1).f6)).bind fun t142 => (remoraref20_Bytes.l0 kj13 l0 t142 ((rd_T35 l0 x7_1).f0) (wrap64 (x7_1 + 1)))) else (remoraref20_Bytes.l0 kj13 l0 y139 ((rd_T35 l0 x7_1).f0) (wrap64 (x7_1 + 1))))) else (none)))) else (none)))) = some (r1, r2) := H
          have A25 := Aside0.mk A250
          clear A250
          replace H := Option.bind_eq_some_iff.mp H
          obtain ⟨t121, A260, H⟩ := H
          replace H : ((remoraref01_Put.f kj13 t121 ((rd_T35 l0 x7_1).f2)).bind fun t124 => (if t124.length + t117.length < 140737488355328 then ((some (t124 ++ t117 : List Int)).bind fun y127 => (if ((rd_T35 l0 x7_1).f1) = 3 then ((remoraref01_PutText.f y127 ((rd_T35 l0 x7_1).f4)).bind fun t130 => (if t130.length + ((rd_T35 l0 x7_1).f5).size < 140737488355328 then ((some (t130 ++ bytesOf ((rd_T35 l0 x7_1).f5) : List Int)).bind fun y133 => (if ((rd_T35 l0 x7_1).f1) = 1 then ((remoraref01_Put.f kj13 y133 ((rd_T35 l0 x7_1).f6)).bind fun t136 => (remoraref20_Bytes.l0 kj13 l0 t136 ((rd_T35 l0 x7_1).f0) (wrap64 (x7_1 + 1)))) else (remoraref20_Bytes.l0 kj13 l0 y133 ((rd_T35 l0 x7_1).f0) (wrap64 (x7_1 + 1))))) else (none))) else (if y127.length + ((rd_T35 l0 x7_1).f5).size < 140737488355328 then ((some (y127 ++ bytesOf ((rd_T35 l0 x7_1).f5) : List Int)).bind fun y139 => (if ((rd_T35 l0 x7_1).f1) = 1 then ((remoraref01_Put.f kj13 y139 ((rd_T35 l0 x7_1).f6)).bind fun t142 => (remoraref20_Bytes.l0 kj13 l0 t142 ((rd_T35 l0 x7_1).f0) (wrap64 (x7_1 + 1)))) else (remoraref20_Bytes.l0 kj13 l0 y139 ((rd_T35 l0 x7_1).f0) (wrap64 (x7_1 + 1))))) else (none)))) else (none))) = some (r1, r2) := H
          have A26 := Aside0.mk A260
          clear A260
          replace H := Option.bind_eq_some_iff.mp H
          obtain ⟨t124, A270, H⟩ := H
          replace H : (if t124.length + t117.length < 140737488355328 then ((some (t124 ++ t117 : List Int)).bind fun y127 => (if ((rd_T35 l0 x7_1).f1) = 3 then ((remoraref01_PutText.f y127 ((rd_T35 l0 x7_1).f4)).bind fun t130 => (if t130.length + ((rd_T35 l0 x7_1).f5).size < 140737488355328 then ((some (t130 ++ bytesOf ((rd_T35 l0 x7_1).f5) : List Int)).bind fun y133 => (if ((rd_T35 l0 x7_1).f1) = 1 then ((remoraref01_Put.f kj13 y133 ((rd_T35 l0 x7_1).f6)).bind fun t136 => (remoraref20_Bytes.l0 kj13 l0 t136 ((rd_T35 l0 x7_1).f0) (wrap64 (x7_1 + 1)))) else (remoraref20_Bytes.l0 kj13 l0 y133 ((rd_T35 l0 x7_1).f0) (wrap64 (x7_1 + 1))))) else (none))) else (if y127.length + ((rd_T35 l0 x7_1).f5).size < 140737488355328 then ((some (y127 ++ bytesOf ((rd_T35 l0 x7_1).f5) : List Int)).bind fun y139 => (if ((rd_T35 l0 x7_1).f1) = 1 then ((remoraref01_Put.f kj13 y139 ((rd_T35 l0 x7_1).f6)).bind fun t142 => (remoraref20_Bytes.l0 kj13 l0 t142 ((rd_T35 l0 x7_1).f0) (wrap64 (x7_1 + 1)))) else (remoraref20_Bytes.l0 kj13 l0 y139 ((rd_T35 l0 x7_1).f0) (wrap64 (x7_1 + 1))))) else (none)))) else (none)) = some (r1, r2) := H
          have A27 := Aside0.mk A270
          clear A270
          by_cases c28 : t124.length + t117.length < 140737488355328
          ·rw [if_pos c28] at H
           have LMc28 := Aside0.mk c28
           clear c28
           obtain ⟨y127, hy127⟩ : ∃ y_ : List Int, y_ = (t124 ++ t117) := ⟨_, rfl⟩
           replace H : (if ((rd_T35 l0 x7_1).f1) = 3 then ((remoraref01_PutText.f y127 ((rd_T35 l0 x7_1).f4)).bind fun t130 => (if t130.length + ((rd_T35 l0 x7_1).f5).size < 140737488355328 then ((some (t130 ++ bytesOf ((rd_T35 l0 x7_1).f5) : List Int)).bind fun y133 => (if ((rd_T35 l0 x7_1).f1) = 1 then ((remoraref01_Put.f kj13 y133 ((rd_T35 l0 x7_1).f6)).bind fun t136 => (remoraref20_Bytes.l0 kj13 l0 t136 ((rd_T35 l0 x7_1).f0) (wrap64 (x7_1 + 1)))) else (remoraref20_Bytes.l0 kj13 l0 y133 ((rd_T35 l0 x7_1).f0) (wrap64 (x7_1 + 1))))) else (none))) else (if y127.length + ((rd_T35 l0 x7_1).f5).size < 140737488355328 then ((some (y127 ++ bytesOf ((rd_T35 l0 x7_1).f5) : List Int)).bind fun y139 => (if ((rd_T35 l0 x7_1).f1) = 1 then ((remoraref01_Put.f kj13 y139 ((rd_T35 l0 x7_1).f6)).bind fun t142 => (remoraref20_Bytes.l0 kj13 l0 t142 ((rd_T35 l0 x7_1).f0) (wrap64 (x7_1 + 1)))) else (remoraref20_Bytes.l0 kj13 l0 y139 ((rd_T35 l0 x7_1).f0) (wrap64 (x7_1 + 1))))) else (none))) = some (r1, r2) := by first | (rw [hy127]; with_reducible exact H) | (have H2_ := (Option.bind_some _ _).symm.trans H; rw [hy127]; with_reducible exact H2_) | (have H2_ := (Option.bind_some _ _).symm.trans H; with_reducible exact H2_) | with_reducible exact H | (rw [hy127]; exact H) | exact H
           have Ny127 := Aside0.mk hy127
           clear hy127
           by_cases c29 : ((rd_T35 l0 x7_1).f1) = 3
           ·rw [if_pos c29] at H
            have c29b0 : (((rd_T35 l0 x7_1).f1) == 3) = true := beq_iff_eq.mpr c29
            have c29b1 : (((rd_T35 l0 x7_1).f1) != 3) = false := bne_eq_false_iff_eq.mpr c29
            clear c29
            replace H := Option.bind_eq_some_iff.mp H
            obtain ⟨t130, A300, H⟩ := H
            replace H : (if t130.length + ((rd_T35 l0 x7_1).f5).size < 140737488355328 then ((some (t130 ++ bytesOf ((rd_T35 l0 x7_1).f5) : List Int)).bind fun y133 => (if ((rd_T35 l0 x7_1).f1) = 1 then ((remoraref01_Put.f kj13 y133 ((rd_T35 l0 x7_1).f6)).bind fun t136 => (remoraref20_Bytes.l0 kj13 l0 t136 ((rd_T35 l0 x7_1).f0) (wrap64 (x7_1 + 1)))) else (remoraref20_Bytes.l0 kj13 l0 y133 ((rd_T35 l0 x7_1).f0) (wrap64 (x7_1 + 1))))) else (none)) = some (r1, r2) := H
            have A30 := Aside0.mk A300
            clear A300
            by_cases c31 : t130.length + ((rd_T35 l0 x7_1).f5).size < 140737488355328
            ·rw [if_pos c31] at H
             have LMc31 := Aside0.mk c31
             clear c31
             obtain ⟨y133, hy133⟩ : ∃ y_ : List Int, y_ = (t130 ++ bytesOf ((rd_T35 l0 x7_1).f5)) := ⟨_, rfl⟩
             replace H : (if ((rd_T35 l0 x7_1).f1) = 1 then ((remoraref01_Put.f kj13 y133 ((rd_T35 l0 x7_1).f6)).bind fun t136 => (remoraref20_Bytes.l0 kj13 l0 t136 ((rd_T35 l0 x7_1).f0) (wrap64 (x7_1 + 1)))) else (remoraref20_Bytes.l0 kj13 l0 y133 ((rd_T35 l0 x7_1).f0) (wrap64 (x7_1 + 1)))) = some (r1, r2) := by first | (rw [hy133]; with_reducible exact H) | (have H2_ := (Option.bind_some _ _).symm.trans H; rw [hy133]; with_reducible exact H2_) | (have H2_ := (Option.bind_some _ _).symm.trans H; with_reducible exact H2_) | with_reducible exact H | (rw [hy133]; exact H) | exact H
             have Ny133 := Aside0.mk hy133
             clear hy133
             by_cases c32 : ((rd_T35 l0 x7_1).f1) = 1
             ·rw [if_pos c32] at H
              have c32b0 : (((rd_T35 l0 x7_1).f1) == 1) = true := beq_iff_eq.mpr c32
              have c32b1 : (((rd_T35 l0 x7_1).f1) != 1) = false := bne_eq_false_iff_eq.mpr c32
              clear c32
              replace H := Option.bind_eq_some_iff.mp H
              obtain ⟨t136, A330, H⟩ := H
              replace H : (remoraref20_Bytes.l0 kj13 l0 t136 ((rd_T35 l0 x7_1).f0) (wrap64 (x7_1 + 1))) = some (r1, r2) := H
              have A33 := Aside0.mk A330
              clear A330
              have H' := Aside0.mk H
              clear H
              obtain ⟨hcz34_0, hcz34_1, hcz34_2, hcz34_3, hcz34_4, hcz34_5, hcz34_6, hcz34_7, hcz34_8, hcz34_9, hcz34_10⟩ := blkc11 BK109.out
              obtain ⟨hfz34_0, hfz34_1, hfz34_2, hfz34_3, hfz34_4, hfz34_5, hfz34_6, hfz34_7, hfz34_8, hfz34_9, hfz34_10⟩ := blkf11 BK109.out
              try go_wp2_with (first | ((with_reducible refine gate_callee (f := 41) rfl ?_); refine goesL_ (some 53) rfl rfl Tryd.func41 (by kernel_rfl) rfl #[.agg #[.int .i64 ((rd_T35 l0 x7_1).f3.f0), .int .i64 ((rd_T35 l0 x7_1).f3.f1), .int .i64 ((rd_T35 l0 x7_1).f3.f2), .int .i64 ((rd_T35 l0 x7_1).f3.f3), .int .i64 ((rd_T35 l0 x7_1).f3.f4)]] rfl (by (try simp only [List.map_toArray, List.map_cons, List.map_nil]); first | done | rfl | (simp only [List.length_drop, List.length_take]; rfl)) ?_; (with_reducible refine (remoraref16_Bytes.calls kj13 ((rd_T35 l0 x7_1).f3.f0) ((rd_T35 l0 x7_1).f3.f1) ((rd_T35 l0 x7_1).f3.f2) ((rd_T35 l0 x7_1).f3.f3) ((rd_T35 l0 x7_1).f3.f4) t117 t120 _ A25.out).mono ?_); rintro e w35 ⟨v118, rfl, ho0, hb⟩; refine ⟨_, rfl, ?_⟩; have n0_ := Aside0.mk (Kd.R_elder' (upR HO_5.out) (Kd.R_base ho0) hb); have n1_ := Aside0.mk (Kd.R_lower (Kd.R_new' ho0 (Kd.R_lt (upR HO_5.out))) (below_size (by repeat (first | (with_reducible first | exact HB.out | apply below_alloc | apply pw_below_drewN | apply below_drew1 | refine below_set ?_ GE109.out) | exact HB.out)))); have n2_ := Aside0.mk (blk_below (g := gb109) (o := .cells #[.string ((rd_T35 l0 x7_1).f0), .int .i64 ((rd_T35 l0 x7_1).f1), .int .i64 ((rd_T35 l0 x7_1).f2), .int .i64 ((rd_T35 l0 x7_1).f3.f0), .int .i64 ((rd_T35 l0 x7_1).f3.f1), .int .i64 ((rd_T35 l0 x7_1).f3.f2), .int .i64 ((rd_T35 l0 x7_1).f3.f3), .int .i64 ((rd_T35 l0 x7_1).f3.f4), .string ((rd_T35 l0 x7_1).f4), .string ((rd_T35 l0 x7_1).f5), .int .i64 ((rd_T35 l0 x7_1).f6)] 35 (0, 0)) (upK BK109.out) hb); have n3_ := Aside0.mk (below_step (by repeat (first | (with_reducible first | exact HB.out | apply below_alloc | apply pw_below_drewN | apply below_drew1 | refine below_set ?_ GE109.out) | exact HB.out)) hb); clear HO_5; clear BK109; clear HB; have HO_5 := n0_; have HO119 := n1_; have BK109 := n2_; have HB := n3_; clear n0_ n1_ n2_ n3_; (try clear hb); (try clear hb2); (try clear hk); (try clear hi); (try clear ho0)))
              have n0_ := Aside0.mk (Kd.R_drew HO_5.out)
              have n1_ := Aside0.mk (Kd.R_drew HO119.out)
              have n2_ := Aside0.mk (blk_drew BK109.out)
              have n3_ := Aside0.mk (below_drew1 HB.out)
              clear HO_5
              clear HO119
              clear BK109
              clear HB
              have HO_5 := n0_
              have HO119 := n1_
              have BK109 := n2_
              have HB := n3_
              clear n0_ n1_ n2_ n3_
              obtain ⟨Ao37, co37, eo37⟩ := Kd.R_slice HO_5.out
              (first | subst eo37 | (injection eo37 with f1_ f2_ f3_; have f4_ := f1_.symm; have f5_ := f3_.symm; clear f1_ f2_ f3_; subst f4_; subst f5_))
              refine start_ (n := 9) (S := fun w' => w'.cell? ⟨gb109, 0, none⟩ = some (.string ((rd_T35 l0 x7_1).f0)) ∧ w'.cell? ⟨gb109, 1, none⟩ = some (.int .i64 ((rd_T35 l0 x7_1).f1)) ∧ w'.cell? ⟨gb109, 2, none⟩ = some (.int .i64 ((rd_T35 l0 x7_1).f2)) ∧ w'.cell? ⟨gb109, 3, none⟩ = some (.int .i64 ((rd_T35 l0 x7_1).f3.f0)) ∧ w'.cell? ⟨gb109, 4, none⟩ = some (.int .i64 ((rd_T35 l0 x7_1).f3.f1)) ∧ w'.cell? ⟨gb109, 5, none⟩ = some (.int .i64 ((rd_T35 l0 x7_1).f3.f2)) ∧ w'.cell? ⟨gb109, 6, none⟩ = some (.int .i64 ((rd_T35 l0 x7_1).f3.f3)) ∧ w'.cell? ⟨gb109, 7, none⟩ = some (.int .i64 ((rd_T35 l0 x7_1).f3.f4)) ∧ w'.cell? ⟨gb109, 8, none⟩ = some (.string ((rd_T35 l0 x7_1).f4)) ∧ w'.cell? ⟨gb109, 9, none⟩ = some (.string ((rd_T35 l0 x7_1).f5)) ∧ w'.cell? ⟨gb109, 10, none⟩ = some (.int .i64 ((rd_T35 l0 x7_1).f6))) (ds := []) #[Z_,Z_,Z_,Z_,Z_,Z_,Z_,Z_,Z_] (by kernel_rfl) rfl rfl ⟨(blk_cell BK109.out 0).trans rfl, (blk_cell BK109.out 1).trans rfl, (blk_cell BK109.out 2).trans rfl, (blk_cell BK109.out 3).trans rfl, (blk_cell BK109.out 4).trans rfl, (blk_cell BK109.out 5).trans rfl, (blk_cell BK109.out 6).trans rfl, (blk_cell BK109.out 7).trans rfl, (blk_cell BK109.out 8).trans rfl, (blk_cell BK109.out 9).trans rfl, (blk_cell BK109.out 10).trans rfl⟩ (fun hHeld => ?_); refine with_tabW remoraref20_Bytes.tab16 remoraref20_Bytes.bits16 (fun HT_ HW_ => ?_)
              generalize w35.drew = w36 at HO_5 HO119 BK109 HB hHeld ⊢
              refine pure_ (i := 0) (N := some 56) (v := ?_) (a' := ?_) #[Y_,Z_,Z_,Z_,Z_,Z_,Z_,Z_,Z_] rfl rfl (any_of HT_.out (by kernel_rfl)) (fun _ _ _ h => h) (Or.inl ⟨by rfl, ?_⟩) ?_ ?_
              rotate_left
              ·intro w';go_simp;with_reducible rfl
              rotate_left
              ·simp only [Act.put, nS, i64_w, i32_w];rfl
              refine pure_ (i := 1) (N := some 57) (v := ?_) (a' := ?_) #[Y_,Y_,Z_,Z_,Z_,Z_,Z_,Z_,Z_] rfl rfl (any_of HT_.out (by kernel_rfl)) (fun _ _ _ h => h) (Or.inl ⟨by rfl, ?_⟩) ?_ ?_
              rotate_left
              ·intro w';go_simp;with_reducible rfl
              rotate_left
              ·simp only [Act.put, nS, i64_w, i32_w];rfl
              refine pure_ (i := 3) (N := some 59) (v := ?_) (a' := ?_) #[Y_,Y_,Z_,Y_,Z_,Z_,Z_,Z_,Z_] rfl rfl (any_of HT_.out (by kernel_rfl)) (fun _ _ _ h => h) (Or.inl ⟨by rfl, ?_⟩) ?_ ?_
              rotate_left
              ·intro w';go_simp;with_reducible rfl
              rotate_left
              ·simp only [Act.put, nS, i64_w, i32_w];rfl
              refine pure_ (i := 6) (N := some 62) (v := ?_) (a' := ?_) #[Y_,Y_,Z_,Y_,Z_,Z_,Y_,Z_,Z_] rfl rfl (any_of HT_.out (by kernel_rfl)) (fun _ _ _ h => h) (Or.inl ⟨by rfl, ?_⟩) ?_ ?_
              rotate_left
              ·intro w';go_simp;with_reducible rfl
              rotate_left
              ·simp only [Act.put, nS, i64_w, i32_w];rfl
              refine take_ (i := 4) (N := some 60) (v := ?_) (a' := ?_) #[Y_,Y_,Z_,Y_,Y_,Z_,Y_,Z_,Z_] rfl rfl (take_ofW HT_.out HW_.out (by kernel_rfl)) (fun _ _ _ h => h) (Or.inl ⟨by rfl, ?_⟩) hHeld ?_ ?_
              rotate_left
              ·rintro w' ⟨s0, s1, s2, s3, s4, s5, s6, s7, s8, s9, s10⟩
               go_simp
               with_reducible rfl
              rotate_left
              ·simp only [Act.put, nS, i64_w, i32_w];rfl
              refine one_ (i := 2) (N := some 58) #[Y_,Y_,Y_,Y_,Y_,Z_,Y_,Z_,Z_] rfl rfl (one_of HT_.out (by kernel_rfl)) (by decide) (fun K hK => ?_)
              refine goes_ Tryd.func38 (by kernel_rfl) rfl #[.slice Ao37 t114.length co37, .int .i64 x10_13] (by rfl) rfl rfl (by (try simp only [List.map_toArray, List.map_cons, List.map_nil]); first | done | rfl | (simp only [List.length_drop, List.length_take]; rfl)) ?_
              with_reducible refine (remoraref01_Put.calls kj13 _ _ t114 x10_13 t121 _ ?side1 ?side2 A26.out).mono ?_
              (case side1 => repeat (first | exact (Kd.R_reads' HO_5.out).2.2 | (with_reducible refine Kd.C_alloc ?_ _) | (with_reducible refine Kd.C_drewN ?_ _) | (with_reducible refine Kd.C_drew ?_)))
              (case side2 => exact (Kd.R_reads' HO_5.out).2.1)
              rintro e w38 ⟨v122, rfl, ho0, hb⟩
              refine ⟨_, rfl, ?_⟩
              have n0_ := Aside0.mk (Kd.R_elder' (upR HO_5.out) (Kd.R_base ho0) hb)
              have n1_ := Aside0.mk (Kd.R_elder' (upR HO119.out) (Kd.R_base ho0) hb)
              have n2_ := Aside0.mk (Kd.R_lower (Kd.R_new' (Kd.R_new' ho0 (Kd.R_lt (upR HO_5.out))) (Kd.R_lt (upR HO119.out))) (below_size (by repeat (first | (with_reducible first | exact HB.out | apply below_alloc | apply pw_below_drewN | apply below_drew1 | refine below_set ?_ GE109.out) | exact HB.out))))
              have n3_ := Aside0.mk (blk_below (g := gb109) (o := .cells #[.string ((rd_T35 l0 x7_1).f0), .int .i64 ((rd_T35 l0 x7_1).f1), .int .i64 ((rd_T35 l0 x7_1).f2), .int .i64 ((rd_T35 l0 x7_1).f3.f0), .int .i64 ((rd_T35 l0 x7_1).f3.f1), .int .i64 ((rd_T35 l0 x7_1).f3.f2), .int .i64 ((rd_T35 l0 x7_1).f3.f3), .int .i64 ((rd_T35 l0 x7_1).f3.f4), .string ((rd_T35 l0 x7_1).f4), .string ((rd_T35 l0 x7_1).f5), .int .i64 ((rd_T35 l0 x7_1).f6)] 35 (0, 0)) (upK BK109.out) hb)
              have n4_ := Aside0.mk (below_step (by repeat (first | (with_reducible first | exact HB.out | apply below_alloc | apply pw_below_drewN | apply below_drew1 | refine below_set ?_ GE109.out) | exact HB.out)) hb)
              clear HO_5
              clear HO119
              clear BK109
              clear HB
              have HO_5 := n0_
              have HO119 := n1_
              have HO123 := n2_
              have BK109 := n3_
              have HB := n4_
              clear n0_ n1_ n2_ n3_ n4_
              (try clear hb)
              (try clear hb2)
              (try clear hk)
              (try clear hi)
              (try clear ho0)
              obtain ⟨Ao39, co39, eo39⟩ := Kd.R_slice HO123.out
              (first | subst eo39 | (injection eo39 with f1_ f2_ f3_; have f4_ := f1_.symm; have f5_ := f3_.symm; clear f1_ f2_ f3_; subst f4_; subst f5_))
              refine hK.out _ _ ⟨(blk_cell BK109.out 0).trans rfl, (blk_cell BK109.out 1).trans rfl, (blk_cell BK109.out 2).trans rfl, (blk_cell BK109.out 3).trans rfl, (blk_cell BK109.out 4).trans rfl, (blk_cell BK109.out 5).trans rfl, (blk_cell BK109.out 6).trans rfl, (blk_cell BK109.out 7).trans rfl, (blk_cell BK109.out 8).trans rfl, (blk_cell BK109.out 9).trans rfl, (blk_cell BK109.out 10).trans rfl⟩ (fun hHeld => ?_)
              clear hK K
              refine norm_ (a' := ?_) ?_ ?_
              rotate_left
              ·show Act.put _ (some 58) _ = _
               simp only [Act.put, nS, i64_w, i32_w]
               rfl
              refine one_ (i := 5) (N := some 61) #[Y_,Y_,Y_,Y_,Y_,Y_,Y_,Z_,Z_] rfl rfl (one_of HT_.out (by kernel_rfl)) (by decide) (fun K hK => ?_)
              refine goes_ Tryd.func38 (by kernel_rfl) rfl #[.slice Ao39 t121.length co39, .int .i64 ((rd_T35 l0 x7_1).f2)] (by rfl) rfl rfl (by (try simp only [List.map_toArray, List.map_cons, List.map_nil]); first | done | rfl | (simp only [List.length_drop, List.length_take]; rfl)) ?_
              with_reducible refine (remoraref01_Put.calls kj13 _ _ t121 ((rd_T35 l0 x7_1).f2) t124 _ ?side1 ?side2 A27.out).mono ?_
              (case side1 => repeat (first | exact (Kd.R_reads' HO123.out).2.2 | (with_reducible refine Kd.C_alloc ?_ _) | (with_reducible refine Kd.C_drewN ?_ _) | (with_reducible refine Kd.C_drew ?_)))
              (case side2 => exact (Kd.R_reads' HO123.out).2.1)
              rintro e w40 ⟨v125, rfl, ho0, hb⟩
              refine ⟨_, rfl, ?_⟩
              have n0_ := Aside0.mk (Kd.R_elder' (upR HO_5.out) (Kd.R_base ho0) hb)
              have n1_ := Aside0.mk (Kd.R_elder' (upR HO119.out) (Kd.R_base ho0) hb)
              have n2_ := Aside0.mk (Kd.R_elder' (upR HO123.out) (Kd.R_base ho0) hb)
              have n3_ := Aside0.mk (Kd.R_lower (Kd.R_new' (Kd.R_new' (Kd.R_new' ho0 (Kd.R_lt (upR HO_5.out))) (Kd.R_lt (upR HO119.out))) (Kd.R_lt (upR HO123.out))) (below_size (by repeat (first | (with_reducible first | exact HB.out | apply below_alloc | apply pw_below_drewN | apply below_drew1 | refine below_set ?_ GE109.out) | exact HB.out))))
              have n4_ := Aside0.mk (blk_below (g := gb109) (o := .cells #[.string ((rd_T35 l0 x7_1).f0), .int .i64 ((rd_T35 l0 x7_1).f1), .int .i64 ((rd_T35 l0 x7_1).f2), .int .i64 ((rd_T35 l0 x7_1).f3.f0), .int .i64 ((rd_T35 l0 x7_1).f3.f1), .int .i64 ((rd_T35 l0 x7_1).f3.f2), .int .i64 ((rd_T35 l0 x7_1).f3.f3), .int .i64 ((rd_T35 l0 x7_1).f3.f4), .string ((rd_T35 l0 x7_1).f4), .string ((rd_T35 l0 x7_1).f5), .int .i64 ((rd_T35 l0 x7_1).f6)] 35 (0, 0)) (upK BK109.out) hb)
              have n5_ := Aside0.mk (below_step (by repeat (first | (with_reducible first | exact HB.out | apply below_alloc | apply pw_below_drewN | apply below_drew1 | refine below_set ?_ GE109.out) | exact HB.out)) hb)
              clear HO_5
              clear HO119
              clear HO123
              clear BK109
              clear HB
              have HO_5 := n0_
              have HO119 := n1_
              have HO123 := n2_
              have HO126 := n3_
              have BK109 := n4_
              have HB := n5_
              clear n0_ n1_ n2_ n3_ n4_ n5_
              (try clear hb)
              (try clear hb2)
              (try clear hk)
              (try clear hi)
              (try clear ho0)
              obtain ⟨Ao42, co42, eo42⟩ := Kd.R_slice HO119.out
              (first | subst eo42 | (injection eo42 with f1_ f2_ f3_; have f4_ := f1_.symm; have f5_ := f3_.symm; clear f1_ f2_ f3_; subst f4_; subst f5_))
              refine hK.out _ _ ⟨(blk_cell BK109.out 0).trans rfl, (blk_cell BK109.out 1).trans rfl, (blk_cell BK109.out 2).trans rfl, (blk_cell BK109.out 3).trans rfl, (blk_cell BK109.out 4).trans rfl, (blk_cell BK109.out 5).trans rfl, (blk_cell BK109.out 6).trans rfl, (blk_cell BK109.out 7).trans rfl, (blk_cell BK109.out 8).trans rfl, (blk_cell BK109.out 9).trans rfl, (blk_cell BK109.out 10).trans rfl⟩ (fun hHeld => ?_)
              clear hK K
              refine norm_ (a' := ?_) ?_ ?_
              rotate_left
              ·show Act.put _ (some 61) _ = _
               simp only [Act.put, nS, i64_w, i32_w]
               rfl
              refine one_ (i := 7) (N := some 63) #[Y_,Y_,Y_,Y_,Y_,Y_,Y_,Y_,Z_] rfl rfl (one_of HT_.out (by kernel_rfl)) (by decide) (fun K hK => ?_)
              refine Kd.R_append_rows_step (Kd.int .u8) (w0 := w) w.heap.size (by rfl) (.tmp 61) (.tmp 62) 27 5 (.int .u8 0) 1 rfl Tryd.underlying27 info5 rfl (by decide) (by omega) v125 t124 t117 _ _ _ (fun k_ => some k_ ≠ (.slice Ao37 t114.length co37 : Value).ownBlock ∧ some k_ ≠ (.slice Ao42 t117.length co42 : Value).ownBlock ∧ some k_ ≠ (.slice Ao39 t121.length co39 : Value).ownBlock) (fun _ => False) rfl rfl ?aO ?aR (fun _ _ h => h) (fun _ h => h.elim) ?aF ?aB ?aS ?aL ?_
              (case aR => repeat (first | exact (Kd.R_reads' HO119.out).2.2 | (with_reducible refine Kd.C_alloc ?_ _) | (with_reducible refine Kd.C_drewN ?_ _) | (with_reducible refine Kd.C_drew ?_)))
              (case aB => exact (by repeat (first | (with_reducible first | exact HB.out | apply below_alloc | apply pw_below_drewN | apply below_drew1 | refine below_set ?_ GE109.out) | exact HB.out)))
              (case aF => exact (fun k_ hk => ⟨Kd.fresh' (Kd.R_lt (upR HO_5.out)) k_ hk, Kd.fresh' (Kd.R_lt (upR HO119.out)) k_ hk, Kd.fresh' (Kd.R_lt (upR HO123.out)) k_ hk⟩))
              (case aO => exact (upR (Kd.R_mono HO126.out (fun _ hk => ⟨hk.1.1.2, ⟨hk.1.2, hk.2⟩⟩))))
              (case aS => exact (below_size (by repeat (first | (with_reducible first | exact HB.out | apply below_alloc | apply pw_below_drewN | apply below_drew1 | refine below_set ?_ GE109.out) | exact HB.out))))
              (case aL => have := LMc28.out; omega)
              intro v128 w41 ho hb hg hat
              rw [← Ny127.out] at ho
              have n0_ := Aside0.mk (Kd.R_after (ok := (fun k_ => some k_ ≠ (.slice Ao42 t117.length co42 : Value).ownBlock ∧ some k_ ≠ (.slice Ao39 t121.length co39 : Value).ownBlock)) (upR (Kd.R_mono HO_5.out (fun _ hk => ⟨⟨hk.1.1.2, hk.1.2⟩, hk.2⟩))) hg hat)
              have n1_ := Aside0.mk (blk_grown (g := gb109) (o := .cells #[.string ((rd_T35 l0 x7_1).f0), .int .i64 ((rd_T35 l0 x7_1).f1), .int .i64 ((rd_T35 l0 x7_1).f2), .int .i64 ((rd_T35 l0 x7_1).f3.f0), .int .i64 ((rd_T35 l0 x7_1).f3.f1), .int .i64 ((rd_T35 l0 x7_1).f3.f2), .int .i64 ((rd_T35 l0 x7_1).f3.f3), .int .i64 ((rd_T35 l0 x7_1).f3.f4), .string ((rd_T35 l0 x7_1).f4), .string ((rd_T35 l0 x7_1).f5), .int .i64 ((rd_T35 l0 x7_1).f6)] 35 (0, 0)) (upK BK109.out) hg (Kd.R_ne HO126.out BK109.out (by decide)))
              have n2_ := Aside0.mk (Kd.R_after (ok := (fun k_ => some k_ ≠ (.slice Ao37 t114.length co37 : Value).ownBlock ∧ some k_ ≠ (.slice Ao39 t121.length co39 : Value).ownBlock)) (upR (Kd.R_mono HO119.out (fun _ hk => ⟨⟨hk.1.1.2, hk.1.2⟩, hk.2⟩))) hg hat)
              have n3_ := Aside0.mk (Kd.R_after (ok := (fun k_ => some k_ ≠ (.slice Ao37 t114.length co37 : Value).ownBlock ∧ some k_ ≠ (.slice Ao42 t117.length co42 : Value).ownBlock)) (upR (Kd.R_mono HO123.out (fun _ hk => ⟨⟨hk.1.1.2, hk.1.2⟩, hk.2⟩))) hg hat)
              have n4_ := Aside0.mk (hb)
              have n5_ := Aside0.mk (ho)
              clear HO_5
              clear BK109
              clear HO119
              clear HO123
              clear HB
              clear HO126
              have HO_5 := n0_
              have BK109 := n1_
              have HO119 := n2_
              have HO123 := n3_
              have HB := n4_
              have HO129 := n5_
              clear n0_ n1_ n2_ n3_ n4_ n5_
              clear ho hb hg hat
              refine hK.out _ _ ⟨(blk_cell BK109.out 0).trans rfl, (blk_cell BK109.out 1).trans rfl, (blk_cell BK109.out 2).trans rfl, (blk_cell BK109.out 3).trans rfl, (blk_cell BK109.out 4).trans rfl, (blk_cell BK109.out 5).trans rfl, (blk_cell BK109.out 6).trans rfl, (blk_cell BK109.out 7).trans rfl, (blk_cell BK109.out 8).trans rfl, (blk_cell BK109.out 9).trans rfl, (blk_cell BK109.out 10).trans rfl⟩ (fun hHeld => ?_)
              clear hK K
              refine norm_ (a' := ?_) ?_ ?_
              rotate_left
              ·show Act.put _ (some 63) _ = _
               simp only [Act.put, nS, i64_w, i32_w]
               rfl
              refine pure_ (i := 8) (N := some 5) (v := ?_) (a' := ?_) #[Y_,Y_,Y_,Y_,Y_,Y_,Y_,Y_,Y_] rfl rfl (any_of HT_.out (by kernel_rfl)) (fun _ _ _ h => h) (Or.inl ⟨by rfl, ?_⟩) ?_ ?_
              rotate_left
              ·intro w';go_simp;with_reducible rfl
              rotate_left
              ·simp only [Act.put, nS, i64_w, i32_w];rfl
              refine done_ (done_of HT_.out (by kernel_rfl)) ?_
              obtain ⟨hcz43_0, hcz43_1, hcz43_2, hcz43_3, hcz43_4, hcz43_5, hcz43_6, hcz43_7, hcz43_8, hcz43_9, hcz43_10⟩ := blkc11 BK109.out
              obtain ⟨hfz43_0, hfz43_1, hfz43_2, hfz43_3, hfz43_4, hfz43_5, hfz43_6, hfz43_7, hfz43_8, hfz43_9, hfz43_10⟩ := blkf11 BK109.out
              obtain ⟨Ao44, co44, eo44⟩ := Kd.R_slice HO129.out
              subst eo44
              try go_wp2_with (first | ((with_reducible refine gate_callee (f := 40) rfl ?_); refine goesL_ (some 70) rfl rfl Tryd.func40 (by kernel_rfl) rfl #[.slice Ao44 y127.length co44, .string ((rd_T35 l0 x7_1).f4)] rfl (by (try simp only [List.map_toArray, List.map_cons, List.map_nil]); first | done | rfl | (simp only [List.length_drop, List.length_take]; rfl)) ?_; (with_reducible refine (remoraref01_PutText.calls _ _ y127 ((rd_T35 l0 x7_1).f4) t130 _ ?side1 ?side2 A30.out).mono ?_); (case side1 => repeat (first | exact (Kd.R_reads' HO129.out).2.2 | (with_reducible refine Kd.C_alloc ?_ _) | (with_reducible refine Kd.C_drewN ?_ _) | (with_reducible refine Kd.C_drew ?_))); (case side2 => exact (Kd.R_reads' HO129.out).2.1); rintro e w45 ⟨v131, rfl, ho0, hb⟩; refine ⟨_, rfl, ?_⟩; have n0_ := Aside0.mk (Kd.R_elder' (upR HO_5.out) (Kd.R_base ho0) hb); have n1_ := Aside0.mk (Kd.R_elder' (upR HO119.out) (Kd.R_base ho0) hb); have n2_ := Aside0.mk (Kd.R_elder' (upR HO123.out) (Kd.R_base ho0) hb); have n3_ := Aside0.mk (Kd.R_elder' (upR HO129.out) (Kd.R_base ho0) hb); have n4_ := Aside0.mk (Kd.R_lower (Kd.R_new' (Kd.R_new' (Kd.R_new' (Kd.R_new' ho0 (Kd.R_lt (upR HO_5.out))) (Kd.R_lt (upR HO119.out))) (Kd.R_lt (upR HO123.out))) (Kd.R_lt (upR HO129.out))) (below_size (by repeat (first | (with_reducible first | exact HB.out | apply below_alloc | apply pw_below_drewN | apply below_drew1 | refine below_set ?_ GE109.out) | exact HB.out)))); have n5_ := Aside0.mk (blk_below (g := gb109) (o := .cells #[.string ((rd_T35 l0 x7_1).f0), .int .i64 ((rd_T35 l0 x7_1).f1), .int .i64 ((rd_T35 l0 x7_1).f2), .int .i64 ((rd_T35 l0 x7_1).f3.f0), .int .i64 ((rd_T35 l0 x7_1).f3.f1), .int .i64 ((rd_T35 l0 x7_1).f3.f2), .int .i64 ((rd_T35 l0 x7_1).f3.f3), .int .i64 ((rd_T35 l0 x7_1).f3.f4), .string ((rd_T35 l0 x7_1).f4), .string ((rd_T35 l0 x7_1).f5), .int .i64 ((rd_T35 l0 x7_1).f6)] 35 (0, 0)) (upK BK109.out) hb); have n6_ := Aside0.mk (below_step (by repeat (first | (with_reducible first | exact HB.out | apply below_alloc | apply pw_below_drewN | apply below_drew1 | refine below_set ?_ GE109.out) | exact HB.out)) hb); clear HO_5; clear HO119; clear HO123; clear HO129; clear BK109; clear HB; have HO_5 := n0_; have HO119 := n1_; have HO123 := n2_; have HO129 := n3_; have HO132 := n4_; have BK109 := n5_; have HB := n6_; clear n0_ n1_ n2_ n3_ n4_ n5_ n6_; (try clear hb); (try clear hb2); (try clear hk); (try clear hi); (try clear ho0); have hcz46_0 : w45.cell? ⟨gb109, 0, none⟩ = some (.string ((rd_T35 l0 x7_1).f0)) := (blk_cell BK109.out 0).trans rfl; have hcz46_1 : w45.cell? ⟨gb109, 1, none⟩ = some (.int .i64 ((rd_T35 l0 x7_1).f1)) := (blk_cell BK109.out 1).trans rfl; have hcz46_2 : w45.cell? ⟨gb109, 2, none⟩ = some (.int .i64 ((rd_T35 l0 x7_1).f2)) := (blk_cell BK109.out 2).trans rfl; have hcz46_3 : w45.cell? ⟨gb109, 3, none⟩ = some (.int .i64 ((rd_T35 l0 x7_1).f3.f0)) := (blk_cell BK109.out 3).trans rfl; have hcz46_4 : w45.cell? ⟨gb109, 4, none⟩ = some (.int .i64 ((rd_T35 l0 x7_1).f3.f1)) := (blk_cell BK109.out 4).trans rfl; have hcz46_5 : w45.cell? ⟨gb109, 5, none⟩ = some (.int .i64 ((rd_T35 l0 x7_1).f3.f2)) := (blk_cell BK109.out 5).trans rfl; have hcz46_6 : w45.cell? ⟨gb109, 6, none⟩ = some (.int .i64 ((rd_T35 l0 x7_1).f3.f3)) := (blk_cell BK109.out 6).trans rfl; have hcz46_7 : w45.cell? ⟨gb109, 7, none⟩ = some (.int .i64 ((rd_T35 l0 x7_1).f3.f4)) := (blk_cell BK109.out 7).trans rfl; have hcz46_8 : w45.cell? ⟨gb109, 8, none⟩ = some (.string ((rd_T35 l0 x7_1).f4)) := (blk_cell BK109.out 8).trans rfl; have hcz46_9 : w45.cell? ⟨gb109, 9, none⟩ = some (.string ((rd_T35 l0 x7_1).f5)) := (blk_cell BK109.out 9).trans rfl; have hcz46_10 : w45.cell? ⟨gb109, 10, none⟩ = some (.int .i64 ((rd_T35 l0 x7_1).f6)) := (blk_cell BK109.out 10).trans rfl; have hfz46_0 := blk_frozen BK109.out 0; have hfz46_1 := blk_frozen BK109.out 1; have hfz46_2 := blk_frozen BK109.out 2; have hfz46_3 := blk_frozen BK109.out 3; have hfz46_4 := blk_frozen BK109.out 4; have hfz46_5 := blk_frozen BK109.out 5; have hfz46_6 := blk_frozen BK109.out 6; have hfz46_7 := blk_frozen BK109.out 7; have hfz46_8 := blk_frozen BK109.out 8; have hfz46_9 := blk_frozen BK109.out 9; have hfz46_10 := blk_frozen BK109.out 10) | (at_builtin; refine print_append_str (w0 := w) w.heap.size rfl (.tmp 71) _ 27 9 5 rfl Tryd.underlying27 Tryd.underlying9 info5 v131 t130 ((rd_T35 l0 x7_1).f5) rfl rfl ?aO ?aB ?aS ?aL ?_; (case aB => exact (by repeat (first | (with_reducible first | exact HB.out | apply below_alloc | apply pw_below_drewN | apply below_drew1 | refine below_set ?_ GE109.out) | exact HB.out))); (case aO => exact (Kd.own_of_R (upR (Kd.R_mono HO132.out (fun _ hk => trivial))))); (case aS => exact (below_size (by repeat (first | (with_reducible first | exact HB.out | apply below_alloc | apply pw_below_drewN | apply below_drew1 | refine below_set ?_ GE109.out) | exact HB.out)))); (case aL => have := LMc31.out; omega); intro v134 w47 ho0 hb hg; have ho := Kd.R_of_own (h1 := fun _ => rfl) (ok := fun _ => True) ho0 (fun _ _ => trivial); clear ho0; have hat := True.intro; rw [← Ny133.out] at ho; change Kd.R (Kd.int .u8) 5 w47 w.heap.size (fun _ => True) v134 y133 at ho; have n0_ := Aside0.mk (blk_grown (g := gb109) (o := .cells #[.string ((rd_T35 l0 x7_1).f0), .int .i64 ((rd_T35 l0 x7_1).f1), .int .i64 ((rd_T35 l0 x7_1).f2), .int .i64 ((rd_T35 l0 x7_1).f3.f0), .int .i64 ((rd_T35 l0 x7_1).f3.f1), .int .i64 ((rd_T35 l0 x7_1).f3.f2), .int .i64 ((rd_T35 l0 x7_1).f3.f3), .int .i64 ((rd_T35 l0 x7_1).f3.f4), .string ((rd_T35 l0 x7_1).f4), .string ((rd_T35 l0 x7_1).f5), .int .i64 ((rd_T35 l0 x7_1).f6)] 35 (0, 0)) (upK BK109.out) hg (Kd.R_ne HO132.out BK109.out (by decide))); have n1_ := Aside0.mk (hb); have n2_ := Aside0.mk (ho); clear BK109; clear HB; clear HO132; have BK109 := n0_; have HB := n1_; have HO135 := n2_; clear n0_ n1_ n2_; clear ho hb hg hat; have hcz48_0 : w47.cell? ⟨gb109, 0, none⟩ = some (.string ((rd_T35 l0 x7_1).f0)) := (blk_cell BK109.out 0).trans rfl; have hcz48_1 : w47.cell? ⟨gb109, 1, none⟩ = some (.int .i64 ((rd_T35 l0 x7_1).f1)) := (blk_cell BK109.out 1).trans rfl; have hcz48_2 : w47.cell? ⟨gb109, 2, none⟩ = some (.int .i64 ((rd_T35 l0 x7_1).f2)) := (blk_cell BK109.out 2).trans rfl; have hcz48_3 : w47.cell? ⟨gb109, 3, none⟩ = some (.int .i64 ((rd_T35 l0 x7_1).f3.f0)) := (blk_cell BK109.out 3).trans rfl; have hcz48_4 : w47.cell? ⟨gb109, 4, none⟩ = some (.int .i64 ((rd_T35 l0 x7_1).f3.f1)) := (blk_cell BK109.out 4).trans rfl; have hcz48_5 : w47.cell? ⟨gb109, 5, none⟩ = some (.int .i64 ((rd_T35 l0 x7_1).f3.f2)) := (blk_cell BK109.out 5).trans rfl; have hcz48_6 : w47.cell? ⟨gb109, 6, none⟩ = some (.int .i64 ((rd_T35 l0 x7_1).f3.f3)) := (blk_cell BK109.out 6).trans rfl; have hcz48_7 : w47.cell? ⟨gb109, 7, none⟩ = some (.int .i64 ((rd_T35 l0 x7_1).f3.f4)) := (blk_cell BK109.out 7).trans rfl; have hcz48_8 : w47.cell? ⟨gb109, 8, none⟩ = some (.string ((rd_T35 l0 x7_1).f4)) := (blk_cell BK109.out 8).trans rfl; have hcz48_9 : w47.cell? ⟨gb109, 9, none⟩ = some (.string ((rd_T35 l0 x7_1).f5)) := (blk_cell BK109.out 9).trans rfl; have hcz48_10 : w47.cell? ⟨gb109, 10, none⟩ = some (.int .i64 ((rd_T35 l0 x7_1).f6)) := (blk_cell BK109.out 10).trans rfl; have hfz48_0 := blk_frozen BK109.out 0; have hfz48_1 := blk_frozen BK109.out 1; have hfz48_2 := blk_frozen BK109.out 2; have hfz48_3 := blk_frozen BK109.out 3; have hfz48_4 := blk_frozen BK109.out 4; have hfz48_5 := blk_frozen BK109.out 5; have hfz48_6 := blk_frozen BK109.out 6; have hfz48_7 := blk_frozen BK109.out 7; have hfz48_8 := blk_frozen BK109.out 8; have hfz48_9 := blk_frozen BK109.out 9; have hfz48_10 := blk_frozen BK109.out 10; obtain ⟨Ao49, co49, eo49⟩ := Kd.R_slice HO135.out; subst eo49) | ((with_reducible refine gate_callee (f := 38) rfl ?_); refine goesL_ (some 81) rfl rfl Tryd.func38 (by kernel_rfl) rfl #[.slice Ao49 y133.length co49, .int .i64 ((rd_T35 l0 x7_1).f6)] rfl (by (try simp only [List.map_toArray, List.map_cons, List.map_nil]); first | done | rfl | (simp only [List.length_drop, List.length_take]; rfl)) ?_; (with_reducible refine (remoraref01_Put.calls kj13 _ _ y133 ((rd_T35 l0 x7_1).f6) t136 _ ?side1 ?side2 A33.out).mono ?_); (case side1 => repeat (first | exact (Kd.R_reads' HO135.out).2.2 | (with_reducible refine Kd.C_alloc ?_ _) | (with_reducible refine Kd.C_drewN ?_ _) | (with_reducible refine Kd.C_drew ?_))); (case side2 => exact (Kd.R_reads' HO135.out).2.1); rintro e w50 ⟨v137, rfl, ho0, hb⟩; refine ⟨_, rfl, ?_⟩; have n0_ := Aside0.mk (Kd.R_elder' (upR HO135.out) (Kd.R_base ho0) hb); have n1_ := Aside0.mk (Kd.R_lower (Kd.R_new' ho0 (Kd.R_lt (upR HO135.out))) (below_size (by repeat (first | (with_reducible first | exact HB.out | apply below_alloc | apply pw_below_drewN | apply below_drew1 | refine below_set ?_ GE109.out) | exact HB.out)))); have n2_ := Aside0.mk (blk_below (g := gb109) (o := .cells #[.string ((rd_T35 l0 x7_1).f0), .int .i64 ((rd_T35 l0 x7_1).f1), .int .i64 ((rd_T35 l0 x7_1).f2), .int .i64 ((rd_T35 l0 x7_1).f3.f0), .int .i64 ((rd_T35 l0 x7_1).f3.f1), .int .i64 ((rd_T35 l0 x7_1).f3.f2), .int .i64 ((rd_T35 l0 x7_1).f3.f3), .int .i64 ((rd_T35 l0 x7_1).f3.f4), .string ((rd_T35 l0 x7_1).f4), .string ((rd_T35 l0 x7_1).f5), .int .i64 ((rd_T35 l0 x7_1).f6)] 35 (0, 0)) (upK BK109.out) hb); have n3_ := Aside0.mk (below_step (by repeat (first | (with_reducible first | exact HB.out | apply below_alloc | apply pw_below_drewN | apply below_drew1 | refine below_set ?_ GE109.out) | exact HB.out)) hb); clear HO135; clear BK109; clear HB; have HO135 := n0_; have HO138 := n1_; have BK109 := n2_; have HB := n3_; clear n0_ n1_ n2_ n3_; (try clear hb); (try clear hb2); (try clear hk); (try clear hi); (try clear ho0); have hcz51_0 : w50.cell? ⟨gb109, 0, none⟩ = some (.string ((rd_T35 l0 x7_1).f0)) := (blk_cell BK109.out 0).trans rfl; have hcz51_1 : w50.cell? ⟨gb109, 1, none⟩ = some (.int .i64 ((rd_T35 l0 x7_1).f1)) := (blk_cell BK109.out 1).trans rfl; have hcz51_2 : w50.cell? ⟨gb109, 2, none⟩ = some (.int .i64 ((rd_T35 l0 x7_1).f2)) := (blk_cell BK109.out 2).trans rfl; have hcz51_3 : w50.cell? ⟨gb109, 3, none⟩ = some (.int .i64 ((rd_T35 l0 x7_1).f3.f0)) := (blk_cell BK109.out 3).trans rfl; have hcz51_4 : w50.cell? ⟨gb109, 4, none⟩ = some (.int .i64 ((rd_T35 l0 x7_1).f3.f1)) := (blk_cell BK109.out 4).trans rfl; have hcz51_5 : w50.cell? ⟨gb109, 5, none⟩ = some (.int .i64 ((rd_T35 l0 x7_1).f3.f2)) := (blk_cell BK109.out 5).trans rfl; have hcz51_6 : w50.cell? ⟨gb109, 6, none⟩ = some (.int .i64 ((rd_T35 l0 x7_1).f3.f3)) := (blk_cell BK109.out 6).trans rfl; have hcz51_7 : w50.cell? ⟨gb109, 7, none⟩ = some (.int .i64 ((rd_T35 l0 x7_1).f3.f4)) := (blk_cell BK109.out 7).trans rfl; have hcz51_8 : w50.cell? ⟨gb109, 8, none⟩ = some (.string ((rd_T35 l0 x7_1).f4)) := (blk_cell BK109.out 8).trans rfl; have hcz51_9 : w50.cell? ⟨gb109, 9, none⟩ = some (.string ((rd_T35 l0 x7_1).f5)) := (blk_cell BK109.out 9).trans rfl; have hcz51_10 : w50.cell? ⟨gb109, 10, none⟩ = some (.int .i64 ((rd_T35 l0 x7_1).f6)) := (blk_cell BK109.out 10).trans rfl; have hfz51_0 := blk_frozen BK109.out 0; have hfz51_1 := blk_frozen BK109.out 1; have hfz51_2 := blk_frozen BK109.out 2; have hfz51_3 := blk_frozen BK109.out 3; have hfz51_4 := blk_frozen BK109.out 4; have hfz51_5 := blk_frozen BK109.out 5; have hfz51_6 := blk_frozen BK109.out 6; have hfz51_7 := blk_frozen BK109.out 7; have hfz51_8 := blk_frozen BK109.out 8; have hfz51_9 := blk_frozen BK109.out 9; have hfz51_10 := blk_frozen BK109.out 10))
              go_roundg kj13
              case measure => have := HK1.out; have := HJ13.out; omega
              case rel => exact ⟨(t136), (((rd_T35 l0 x7_1).f0)), (wrap64 (x7_1 + 1)), (by first | rfl | (simp; done) | (simp [*]; done)), (by first | rfl | (simp; done) | (simp [*]; done)), H', ⟨by have := HK1.out; have := HJ13.out; omega⟩, ⟨upR (Kd.R_mono HO138.out (fun _ hk => trivial))⟩, ⟨by repeat (first | (with_reducible first | exact HB.out | apply below_alloc | apply pw_below_drewN | apply below_drew1 | refine below_set ?_ GE109.out) | exact HB.out)⟩⟩
             rw [if_neg c32] at H
             have c32b0 : (((rd_T35 l0 x7_1).f1) == 1) = false := beq_eq_false_iff_ne.mpr c32
             have c32b1 : (((rd_T35 l0 x7_1).f1) != 1) = true := bne_iff_ne.mpr c32
             have H' := Aside0.mk H
             clear H
             obtain ⟨hcz52_0, hcz52_1, hcz52_2, hcz52_3, hcz52_4, hcz52_5, hcz52_6, hcz52_7, hcz52_8, hcz52_9, hcz52_10⟩ := blkc11 BK109.out
             obtain ⟨hfz52_0, hfz52_1, hfz52_2, hfz52_3, hfz52_4, hfz52_5, hfz52_6, hfz52_7, hfz52_8, hfz52_9, hfz52_10⟩ := blkf11 BK109.out
             try go_wp2_with (first | ((with_reducible refine gate_callee (f := 41) rfl ?_); refine goesL_ (some 53) rfl rfl Tryd.func41 (by kernel_rfl) rfl #[.agg #[.int .i64 ((rd_T35 l0 x7_1).f3.f0), .int .i64 ((rd_T35 l0 x7_1).f3.f1), .int .i64 ((rd_T35 l0 x7_1).f3.f2), .int .i64 ((rd_T35 l0 x7_1).f3.f3), .int .i64 ((rd_T35 l0 x7_1).f3.f4)]] rfl (by (try simp only [List.map_toArray, List.map_cons, List.map_nil]); first | done | rfl | (simp only [List.length_drop, List.length_take]; rfl)) ?_; (with_reducible refine (remoraref16_Bytes.calls kj13 ((rd_T35 l0 x7_1).f3.f0) ((rd_T35 l0 x7_1).f3.f1) ((rd_T35 l0 x7_1).f3.f2) ((rd_T35 l0 x7_1).f3.f3) ((rd_T35 l0 x7_1).f3.f4) t117 t120 _ A25.out).mono ?_); rintro e w53 ⟨v118, rfl, ho0, hb⟩; refine ⟨_, rfl, ?_⟩; have n0_ := Aside0.mk (Kd.R_elder' (upR HO_5.out) (Kd.R_base ho0) hb); have n1_ := Aside0.mk (Kd.R_lower (Kd.R_new' ho0 (Kd.R_lt (upR HO_5.out))) (below_size (by repeat (first | (with_reducible first | exact HB.out | apply below_alloc | apply pw_below_drewN | apply below_drew1 | refine below_set ?_ GE109.out) | exact HB.out)))); have n2_ := Aside0.mk (blk_below (g := gb109) (o := .cells #[.string ((rd_T35 l0 x7_1).f0), .int .i64 ((rd_T35 l0 x7_1).f1), .int .i64 ((rd_T35 l0 x7_1).f2), .int .i64 ((rd_T35 l0 x7_1).f3.f0), .int .i64 ((rd_T35 l0 x7_1).f3.f1), .int .i64 ((rd_T35 l0 x7_1).f3.f2), .int .i64 ((rd_T35 l0 x7_1).f3.f3), .int .i64 ((rd_T35 l0 x7_1).f3.f4), .string ((rd_T35 l0 x7_1).f4), .string ((rd_T35 l0 x7_1).f5), .int .i64 ((rd_T35 l0 x7_1).f6)] 35 (0, 0)) (upK BK109.out) hb); have n3_ := Aside0.mk (below_step (by repeat (first | (with_reducible first | exact HB.out | apply below_alloc | apply pw_below_drewN | apply below_drew1 | refine below_set ?_ GE109.out) | exact HB.out)) hb); clear HO_5; clear BK109; clear HB; have HO_5 := n0_; have HO119 := n1_; have BK109 := n2_; have HB := n3_; clear n0_ n1_ n2_ n3_; (try clear hb); (try clear hb2); (try clear hk); (try clear hi); (try clear ho0)))
             have n0_ := Aside0.mk (Kd.R_drew HO_5.out)
             have n1_ := Aside0.mk (Kd.R_drew HO119.out)
             have n2_ := Aside0.mk (blk_drew BK109.out)
             have n3_ := Aside0.mk (below_drew1 HB.out)
             clear HO_5
             clear HO119
             clear BK109
             clear HB
             have HO_5 := n0_
             have HO119 := n1_
             have BK109 := n2_
             have HB := n3_
             clear n0_ n1_ n2_ n3_
             obtain ⟨Ao55, co55, eo55⟩ := Kd.R_slice HO_5.out
             (first | subst eo55 | (injection eo55 with f1_ f2_ f3_; have f4_ := f1_.symm; have f5_ := f3_.symm; clear f1_ f2_ f3_; subst f4_; subst f5_))
             refine start_ (n := 9) (S := fun w' => w'.cell? ⟨gb109, 0, none⟩ = some (.string ((rd_T35 l0 x7_1).f0)) ∧ w'.cell? ⟨gb109, 1, none⟩ = some (.int .i64 ((rd_T35 l0 x7_1).f1)) ∧ w'.cell? ⟨gb109, 2, none⟩ = some (.int .i64 ((rd_T35 l0 x7_1).f2)) ∧ w'.cell? ⟨gb109, 3, none⟩ = some (.int .i64 ((rd_T35 l0 x7_1).f3.f0)) ∧ w'.cell? ⟨gb109, 4, none⟩ = some (.int .i64 ((rd_T35 l0 x7_1).f3.f1)) ∧ w'.cell? ⟨gb109, 5, none⟩ = some (.int .i64 ((rd_T35 l0 x7_1).f3.f2)) ∧ w'.cell? ⟨gb109, 6, none⟩ = some (.int .i64 ((rd_T35 l0 x7_1).f3.f3)) ∧ w'.cell? ⟨gb109, 7, none⟩ = some (.int .i64 ((rd_T35 l0 x7_1).f3.f4)) ∧ w'.cell? ⟨gb109, 8, none⟩ = some (.string ((rd_T35 l0 x7_1).f4)) ∧ w'.cell? ⟨gb109, 9, none⟩ = some (.string ((rd_T35 l0 x7_1).f5)) ∧ w'.cell? ⟨gb109, 10, none⟩ = some (.int .i64 ((rd_T35 l0 x7_1).f6))) (ds := []) #[Z_,Z_,Z_,Z_,Z_,Z_,Z_,Z_,Z_] (by kernel_rfl) rfl rfl ⟨(blk_cell BK109.out 0).trans rfl, (blk_cell BK109.out 1).trans rfl, (blk_cell BK109.out 2).trans rfl, (blk_cell BK109.out 3).trans rfl, (blk_cell BK109.out 4).trans rfl, (blk_cell BK109.out 5).trans rfl, (blk_cell BK109.out 6).trans rfl, (blk_cell BK109.out 7).trans rfl, (blk_cell BK109.out 8).trans rfl, (blk_cell BK109.out 9).trans rfl, (blk_cell BK109.out 10).trans rfl⟩ (fun hHeld => ?_); refine with_tabW remoraref20_Bytes.tab16 remoraref20_Bytes.bits16 (fun HT_ HW_ => ?_)
             generalize w53.drew = w54 at HO_5 HO119 BK109 HB hHeld ⊢
             refine pure_ (i := 0) (N := some 56) (v := ?_) (a' := ?_) #[Y_,Z_,Z_,Z_,Z_,Z_,Z_,Z_,Z_] rfl rfl (any_of HT_.out (by kernel_rfl)) (fun _ _ _ h => h) (Or.inl ⟨by rfl, ?_⟩) ?_ ?_
             rotate_left
             ·intro w';go_simp;with_reducible rfl
             rotate_left
             ·simp only [Act.put, nS, i64_w, i32_w];rfl
             refine pure_ (i := 1) (N := some 57) (v := ?_) (a' := ?_) #[Y_,Y_,Z_,Z_,Z_,Z_,Z_,Z_,Z_] rfl rfl (any_of HT_.out (by kernel_rfl)) (fun _ _ _ h => h) (Or.inl ⟨by rfl, ?_⟩) ?_ ?_
             rotate_left
             ·intro w';go_simp;with_reducible rfl
             rotate_left
             ·simp only [Act.put, nS, i64_w, i32_w];rfl
             refine pure_ (i := 3) (N := some 59) (v := ?_) (a' := ?_) #[Y_,Y_,Z_,Y_,Z_,Z_,Z_,Z_,Z_] rfl rfl (any_of HT_.out (by kernel_rfl)) (fun _ _ _ h => h) (Or.inl ⟨by rfl, ?_⟩) ?_ ?_
             rotate_left
             ·intro w';go_simp;with_reducible rfl
             rotate_left
             ·simp only [Act.put, nS, i64_w, i32_w];rfl
             refine pure_ (i := 6) (N := some 62) (v := ?_) (a' := ?_) #[Y_,Y_,Z_,Y_,Z_,Z_,Y_,Z_,Z_] rfl rfl (any_of HT_.out (by kernel_rfl)) (fun _ _ _ h => h) (Or.inl ⟨by rfl, ?_⟩) ?_ ?_
             rotate_left
             ·intro w';go_simp;with_reducible rfl
             rotate_left
             ·simp only [Act.put, nS, i64_w, i32_w];rfl
             refine take_ (i := 4) (N := some 60) (v := ?_) (a' := ?_) #[Y_,Y_,Z_,Y_,Y_,Z_,Y_,Z_,Z_] rfl rfl (take_ofW HT_.out HW_.out (by kernel_rfl)) (fun _ _ _ h => h) (Or.inl ⟨by rfl, ?_⟩) hHeld ?_ ?_
             rotate_left
             ·rintro w' ⟨s0, s1, s2, s3, s4, s5, s6, s7, s8, s9, s10⟩
              go_simp
              with_reducible rfl
             rotate_left
             ·simp only [Act.put, nS, i64_w, i32_w];rfl
             refine one_ (i := 2) (N := some 58) #[Y_,Y_,Y_,Y_,Y_,Z_,Y_,Z_,Z_] rfl rfl (one_of HT_.out (by kernel_rfl)) (by decide) (fun K hK => ?_)
             refine goes_ Tryd.func38 (by kernel_rfl) rfl #[.slice Ao55 t114.length co55, .int .i64 x10_13] (by rfl) rfl rfl (by (try simp only [List.map_toArray, List.map_cons, List.map_nil]); first | done | rfl | (simp only [List.length_drop, List.length_take]; rfl)) ?_
             with_reducible refine (remoraref01_Put.calls kj13 _ _ t114 x10_13 t121 _ ?side1 ?side2 A26.out).mono ?_
             (case side1 => repeat (first | exact (Kd.R_reads' HO_5.out).2.2 | (with_reducible refine Kd.C_alloc ?_ _) | (with_reducible refine Kd.C_drewN ?_ _) | (with_reducible refine Kd.C_drew ?_)))
             (case side2 => exact (Kd.R_reads' HO_5.out).2.1)
             rintro e w56 ⟨v122, rfl, ho0, hb⟩
             refine ⟨_, rfl, ?_⟩
             have n0_ := Aside0.mk (Kd.R_elder' (upR HO_5.out) (Kd.R_base ho0) hb)
             have n1_ := Aside0.mk (Kd.R_elder' (upR HO119.out) (Kd.R_base ho0) hb)
             have n2_ := Aside0.mk (Kd.R_lower (Kd.R_new' (Kd.R_new' ho0 (Kd.R_lt (upR HO_5.out))) (Kd.R_lt (upR HO119.out))) (below_size (by repeat (first | (with_reducible first | exact HB.out | apply below_alloc | apply pw_below_drewN | apply below_drew1 | refine below_set ?_ GE109.out) | exact HB.out))))
             have n3_ := Aside0.mk (blk_below (g := gb109) (o := .cells #[.string ((rd_T35 l0 x7_1).f0), .int .i64 ((rd_T35 l0 x7_1).f1), .int .i64 ((rd_T35 l0 x7_1).f2), .int .i64 ((rd_T35 l0 x7_1).f3.f0), .int .i64 ((rd_T35 l0 x7_1).f3.f1), .int .i64 ((rd_T35 l0 x7_1).f3.f2), .int .i64 ((rd_T35 l0 x7_1).f3.f3), .int .i64 ((rd_T35 l0 x7_1).f3.f4), .string ((rd_T35 l0 x7_1).f4), .string ((rd_T35 l0 x7_1).f5), .int .i64 ((rd_T35 l0 x7_1).f6)] 35 (0, 0)) (upK BK109.out) hb)
             have n4_ := Aside0.mk (below_step (by repeat (first | (with_reducible first | exact HB.out | apply below_alloc | apply pw_below_drewN | apply below_drew1 | refine below_set ?_ GE109.out) | exact HB.out)) hb)
             clear HO_5
             clear HO119
             clear BK109
             clear HB
             have HO_5 := n0_
             have HO119 := n1_
             have HO123 := n2_
             have BK109 := n3_
             have HB := n4_
             clear n0_ n1_ n2_ n3_ n4_
             (try clear hb)
             (try clear hb2)
             (try clear hk)
             (try clear hi)
             (try clear ho0)
             obtain ⟨Ao57, co57, eo57⟩ := Kd.R_slice HO123.out
             (first | subst eo57 | (injection eo57 with f1_ f2_ f3_; have f4_ := f1_.symm; have f5_ := f3_.symm; clear f1_ f2_ f3_; subst f4_; subst f5_))
             refine hK.out _ _ ⟨(blk_cell BK109.out 0).trans rfl, (blk_cell BK109.out 1).trans rfl, (blk_cell BK109.out 2).trans rfl, (blk_cell BK109.out 3).trans rfl, (blk_cell BK109.out 4).trans rfl, (blk_cell BK109.out 5).trans rfl, (blk_cell BK109.out 6).trans rfl, (blk_cell BK109.out 7).trans rfl, (blk_cell BK109.out 8).trans rfl, (blk_cell BK109.out 9).trans rfl, (blk_cell BK109.out 10).trans rfl⟩ (fun hHeld => ?_)
             clear hK K
             refine norm_ (a' := ?_) ?_ ?_
             rotate_left
             ·show Act.put _ (some 58) _ = _
              simp only [Act.put, nS, i64_w, i32_w]
              rfl
             refine one_ (i := 5) (N := some 61) #[Y_,Y_,Y_,Y_,Y_,Y_,Y_,Z_,Z_] rfl rfl (one_of HT_.out (by kernel_rfl)) (by decide) (fun K hK => ?_)
             refine goes_ Tryd.func38 (by kernel_rfl) rfl #[.slice Ao57 t121.length co57, .int .i64 ((rd_T35 l0 x7_1).f2)] (by rfl) rfl rfl (by (try simp only [List.map_toArray, List.map_cons, List.map_nil]); first | done | rfl | (simp only [List.length_drop, List.length_take]; rfl)) ?_
             with_reducible refine (remoraref01_Put.calls kj13 _ _ t121 ((rd_T35 l0 x7_1).f2) t124 _ ?side1 ?side2 A27.out).mono ?_
             (case side1 => repeat (first | exact (Kd.R_reads' HO123.out).2.2 | (with_reducible refine Kd.C_alloc ?_ _) | (with_reducible refine Kd.C_drewN ?_ _) | (with_reducible refine Kd.C_drew ?_)))
             (case side2 => exact (Kd.R_reads' HO123.out).2.1)
             rintro e w58 ⟨v125, rfl, ho0, hb⟩
             refine ⟨_, rfl, ?_⟩
             have n0_ := Aside0.mk (Kd.R_elder' (upR HO_5.out) (Kd.R_base ho0) hb)
             have n1_ := Aside0.mk (Kd.R_elder' (upR HO119.out) (Kd.R_base ho0) hb)
             have n2_ := Aside0.mk (Kd.R_elder' (upR HO123.out) (Kd.R_base ho0) hb)
             have n3_ := Aside0.mk (Kd.R_lower (Kd.R_new' (Kd.R_new' (Kd.R_new' ho0 (Kd.R_lt (upR HO_5.out))) (Kd.R_lt (upR HO119.out))) (Kd.R_lt (upR HO123.out))) (below_size (by repeat (first | (with_reducible first | exact HB.out | apply below_alloc | apply pw_below_drewN | apply below_drew1 | refine below_set ?_ GE109.out) | exact HB.out))))
             have n4_ := Aside0.mk (blk_below (g := gb109) (o := .cells #[.string ((rd_T35 l0 x7_1).f0), .int .i64 ((rd_T35 l0 x7_1).f1), .int .i64 ((rd_T35 l0 x7_1).f2), .int .i64 ((rd_T35 l0 x7_1).f3.f0), .int .i64 ((rd_T35 l0 x7_1).f3.f1), .int .i64 ((rd_T35 l0 x7_1).f3.f2), .int .i64 ((rd_T35 l0 x7_1).f3.f3), .int .i64 ((rd_T35 l0 x7_1).f3.f4), .string ((rd_T35 l0 x7_1).f4), .string ((rd_T35 l0 x7_1).f5), .int .i64 ((rd_T35 l0 x7_1).f6)] 35 (0, 0)) (upK BK109.out) hb)
             have n5_ := Aside0.mk (below_step (by repeat (first | (with_reducible first | exact HB.out | apply below_alloc | apply pw_below_drewN | apply below_drew1 | refine below_set ?_ GE109.out) | exact HB.out)) hb)
             clear HO_5
             clear HO119
             clear HO123
             clear BK109
             clear HB
             have HO_5 := n0_
             have HO119 := n1_
             have HO123 := n2_
             have HO126 := n3_
             have BK109 := n4_
             have HB := n5_
             clear n0_ n1_ n2_ n3_ n4_ n5_
             (try clear hb)
             (try clear hb2)
             (try clear hk)
             (try clear hi)
             (try clear ho0)
             obtain ⟨Ao60, co60, eo60⟩ := Kd.R_slice HO119.out
             (first | subst eo60 | (injection eo60 with f1_ f2_ f3_; have f4_ := f1_.symm; have f5_ := f3_.symm; clear f1_ f2_ f3_; subst f4_; subst f5_))
             refine hK.out _ _ ⟨(blk_cell BK109.out 0).trans rfl, (blk_cell BK109.out 1).trans rfl, (blk_cell BK109.out 2).trans rfl, (blk_cell BK109.out 3).trans rfl, (blk_cell BK109.out 4).trans rfl, (blk_cell BK109.out 5).trans rfl, (blk_cell BK109.out 6).trans rfl, (blk_cell BK109.out 7).trans rfl, (blk_cell BK109.out 8).trans rfl, (blk_cell BK109.out 9).trans rfl, (blk_cell BK109.out 10).trans rfl⟩ (fun hHeld => ?_)
             clear hK K
             refine norm_ (a' := ?_) ?_ ?_
             rotate_left
             ·show Act.put _ (some 61) _ = _
              simp only [Act.put, nS, i64_w, i32_w]
              rfl
             refine one_ (i := 7) (N := some 63) #[Y_,Y_,Y_,Y_,Y_,Y_,Y_,Y_,Z_] rfl rfl (one_of HT_.out (by kernel_rfl)) (by decide) (fun K hK => ?_)
             refine Kd.R_append_rows_step (Kd.int .u8) (w0 := w) w.heap.size (by rfl) (.tmp 61) (.tmp 62) 27 5 (.int .u8 0) 1 rfl Tryd.underlying27 info5 rfl (by decide) (by omega) v125 t124 t117 _ _ _ (fun k_ => some k_ ≠ (.slice Ao55 t114.length co55 : Value).ownBlock ∧ some k_ ≠ (.slice Ao60 t117.length co60 : Value).ownBlock ∧ some k_ ≠ (.slice Ao57 t121.length co57 : Value).ownBlock) (fun _ => False) rfl rfl ?aO ?aR (fun _ _ h => h) (fun _ h => h.elim) ?aF ?aB ?aS ?aL ?_
             (case aR => repeat (first | exact (Kd.R_reads' HO119.out).2.2 | (with_reducible refine Kd.C_alloc ?_ _) | (with_reducible refine Kd.C_drewN ?_ _) | (with_reducible refine Kd.C_drew ?_)))
             (case aB => exact (by repeat (first | (with_reducible first | exact HB.out | apply below_alloc | apply pw_below_drewN | apply below_drew1 | refine below_set ?_ GE109.out) | exact HB.out)))
             (case aF => exact (fun k_ hk => ⟨Kd.fresh' (Kd.R_lt (upR HO_5.out)) k_ hk, Kd.fresh' (Kd.R_lt (upR HO119.out)) k_ hk, Kd.fresh' (Kd.R_lt (upR HO123.out)) k_ hk⟩))
             (case aO => exact (upR (Kd.R_mono HO126.out (fun _ hk => ⟨hk.1.1.2, ⟨hk.1.2, hk.2⟩⟩))))
             (case aS => exact (below_size (by repeat (first | (with_reducible first | exact HB.out | apply below_alloc | apply pw_below_drewN | apply below_drew1 | refine below_set ?_ GE109.out) | exact HB.out))))
             (case aL => have := LMc28.out; omega)
             intro v128 w59 ho hb hg hat
             rw [← Ny127.out] at ho
             have n0_ := Aside0.mk (Kd.R_after (ok := (fun k_ => some k_ ≠ (.slice Ao60 t117.length co60 : Value).ownBlock ∧ some k_ ≠ (.slice Ao57 t121.length co57 : Value).ownBlock)) (upR (Kd.R_mono HO_5.out (fun _ hk => ⟨⟨hk.1.1.2, hk.1.2⟩, hk.2⟩))) hg hat)
             have n1_ := Aside0.mk (blk_grown (g := gb109) (o := .cells #[.string ((rd_T35 l0 x7_1).f0), .int .i64 ((rd_T35 l0 x7_1).f1), .int .i64 ((rd_T35 l0 x7_1).f2), .int .i64 ((rd_T35 l0 x7_1).f3.f0), .int .i64 ((rd_T35 l0 x7_1).f3.f1), .int .i64 ((rd_T35 l0 x7_1).f3.f2), .int .i64 ((rd_T35 l0 x7_1).f3.f3), .int .i64 ((rd_T35 l0 x7_1).f3.f4), .string ((rd_T35 l0 x7_1).f4), .string ((rd_T35 l0 x7_1).f5), .int .i64 ((rd_T35 l0 x7_1).f6)] 35 (0, 0)) (upK BK109.out) hg (Kd.R_ne HO126.out BK109.out (by decide)))
             have n2_ := Aside0.mk (Kd.R_after (ok := (fun k_ => some k_ ≠ (.slice Ao55 t114.length co55 : Value).ownBlock ∧ some k_ ≠ (.slice Ao57 t121.length co57 : Value).ownBlock)) (upR (Kd.R_mono HO119.out (fun _ hk => ⟨⟨hk.1.1.2, hk.1.2⟩, hk.2⟩))) hg hat)
             have n3_ := Aside0.mk (Kd.R_after (ok := (fun k_ => some k_ ≠ (.slice Ao55 t114.length co55 : Value).ownBlock ∧ some k_ ≠ (.slice Ao60 t117.length co60 : Value).ownBlock)) (upR (Kd.R_mono HO123.out (fun _ hk => ⟨⟨hk.1.1.2, hk.1.2⟩, hk.2⟩))) hg hat)
             have n4_ := Aside0.mk (hb)
             have n5_ := Aside0.mk (ho)
             clear HO_5
             clear BK109
             clear HO119
             clear HO123
             clear HB
             clear HO126
             have HO_5 := n0_
             have BK109 := n1_
             have HO119 := n2_
             have HO123 := n3_
             have HB := n4_
             have HO129 := n5_
             clear n0_ n1_ n2_ n3_ n4_ n5_
             clear ho hb hg hat
             refine hK.out _ _ ⟨(blk_cell BK109.out 0).trans rfl, (blk_cell BK109.out 1).trans rfl, (blk_cell BK109.out 2).trans rfl, (blk_cell BK109.out 3).trans rfl, (blk_cell BK109.out 4).trans rfl, (blk_cell BK109.out 5).trans rfl, (blk_cell BK109.out 6).trans rfl, (blk_cell BK109.out 7).trans rfl, (blk_cell BK109.out 8).trans rfl, (blk_cell BK109.out 9).trans rfl, (blk_cell BK109.out 10).trans rfl⟩ (fun hHeld => ?_)
             clear hK K
             refine norm_ (a' := ?_) ?_ ?_
             rotate_left
             ·show Act.put _ (some 63) _ = _
              simp only [Act.put, nS, i64_w, i32_w]
              rfl
             refine pure_ (i := 8) (N := some 5) (v := ?_) (a' := ?_) #[Y_,Y_,Y_,Y_,Y_,Y_,Y_,Y_,Y_] rfl rfl (any_of HT_.out (by kernel_rfl)) (fun _ _ _ h => h) (Or.inl ⟨by rfl, ?_⟩) ?_ ?_
             rotate_left
             ·intro w';go_simp;with_reducible rfl
             rotate_left
             ·simp only [Act.put, nS, i64_w, i32_w];rfl
             refine done_ (done_of HT_.out (by kernel_rfl)) ?_
             obtain ⟨hcz61_0, hcz61_1, hcz61_2, hcz61_3, hcz61_4, hcz61_5, hcz61_6, hcz61_7, hcz61_8, hcz61_9, hcz61_10⟩ := blkc11 BK109.out
             obtain ⟨hfz61_0, hfz61_1, hfz61_2, hfz61_3, hfz61_4, hfz61_5, hfz61_6, hfz61_7, hfz61_8, hfz61_9, hfz61_10⟩ := blkf11 BK109.out
             obtain ⟨Ao62, co62, eo62⟩ := Kd.R_slice HO129.out
             subst eo62
             try go_wp2_with (first | ((with_reducible refine gate_callee (f := 40) rfl ?_); refine goesL_ (some 70) rfl rfl Tryd.func40 (by kernel_rfl) rfl #[.slice Ao62 y127.length co62, .string ((rd_T35 l0 x7_1).f4)] rfl (by (try simp only [List.map_toArray, List.map_cons, List.map_nil]); first | done | rfl | (simp only [List.length_drop, List.length_take]; rfl)) ?_; (with_reducible refine (remoraref01_PutText.calls _ _ y127 ((rd_T35 l0 x7_1).f4) t130 _ ?side1 ?side2 A30.out).mono ?_); (case side1 => repeat (first | exact (Kd.R_reads' HO129.out).2.2 | (with_reducible refine Kd.C_alloc ?_ _) | (with_reducible refine Kd.C_drewN ?_ _) | (with_reducible refine Kd.C_drew ?_))); (case side2 => exact (Kd.R_reads' HO129.out).2.1); rintro e w63 ⟨v131, rfl, ho0, hb⟩; refine ⟨_, rfl, ?_⟩; have n0_ := Aside0.mk (Kd.R_elder' (upR HO_5.out) (Kd.R_base ho0) hb); have n1_ := Aside0.mk (Kd.R_elder' (upR HO119.out) (Kd.R_base ho0) hb); have n2_ := Aside0.mk (Kd.R_elder' (upR HO123.out) (Kd.R_base ho0) hb); have n3_ := Aside0.mk (Kd.R_elder' (upR HO129.out) (Kd.R_base ho0) hb); have n4_ := Aside0.mk (Kd.R_lower (Kd.R_new' (Kd.R_new' (Kd.R_new' (Kd.R_new' ho0 (Kd.R_lt (upR HO_5.out))) (Kd.R_lt (upR HO119.out))) (Kd.R_lt (upR HO123.out))) (Kd.R_lt (upR HO129.out))) (below_size (by repeat (first | (with_reducible first | exact HB.out | apply below_alloc | apply pw_below_drewN | apply below_drew1 | refine below_set ?_ GE109.out) | exact HB.out)))); have n5_ := Aside0.mk (blk_below (g := gb109) (o := .cells #[.string ((rd_T35 l0 x7_1).f0), .int .i64 ((rd_T35 l0 x7_1).f1), .int .i64 ((rd_T35 l0 x7_1).f2), .int .i64 ((rd_T35 l0 x7_1).f3.f0), .int .i64 ((rd_T35 l0 x7_1).f3.f1), .int .i64 ((rd_T35 l0 x7_1).f3.f2), .int .i64 ((rd_T35 l0 x7_1).f3.f3), .int .i64 ((rd_T35 l0 x7_1).f3.f4), .string ((rd_T35 l0 x7_1).f4), .string ((rd_T35 l0 x7_1).f5), .int .i64 ((rd_T35 l0 x7_1).f6)] 35 (0, 0)) (upK BK109.out) hb); have n6_ := Aside0.mk (below_step (by repeat (first | (with_reducible first | exact HB.out | apply below_alloc | apply pw_below_drewN | apply below_drew1 | refine below_set ?_ GE109.out) | exact HB.out)) hb); clear HO_5; clear HO119; clear HO123; clear HO129; clear BK109; clear HB; have HO_5 := n0_; have HO119 := n1_; have HO123 := n2_; have HO129 := n3_; have HO132 := n4_; have BK109 := n5_; have HB := n6_; clear n0_ n1_ n2_ n3_ n4_ n5_ n6_; (try clear hb); (try clear hb2); (try clear hk); (try clear hi); (try clear ho0); have hcz64_0 : w63.cell? ⟨gb109, 0, none⟩ = some (.string ((rd_T35 l0 x7_1).f0)) := (blk_cell BK109.out 0).trans rfl; have hcz64_1 : w63.cell? ⟨gb109, 1, none⟩ = some (.int .i64 ((rd_T35 l0 x7_1).f1)) := (blk_cell BK109.out 1).trans rfl; have hcz64_2 : w63.cell? ⟨gb109, 2, none⟩ = some (.int .i64 ((rd_T35 l0 x7_1).f2)) := (blk_cell BK109.out 2).trans rfl; have hcz64_3 : w63.cell? ⟨gb109, 3, none⟩ = some (.int .i64 ((rd_T35 l0 x7_1).f3.f0)) := (blk_cell BK109.out 3).trans rfl; have hcz64_4 : w63.cell? ⟨gb109, 4, none⟩ = some (.int .i64 ((rd_T35 l0 x7_1).f3.f1)) := (blk_cell BK109.out 4).trans rfl; have hcz64_5 : w63.cell? ⟨gb109, 5, none⟩ = some (.int .i64 ((rd_T35 l0 x7_1).f3.f2)) := (blk_cell BK109.out 5).trans rfl; have hcz64_6 : w63.cell? ⟨gb109, 6, none⟩ = some (.int .i64 ((rd_T35 l0 x7_1).f3.f3)) := (blk_cell BK109.out 6).trans rfl; have hcz64_7 : w63.cell? ⟨gb109, 7, none⟩ = some (.int .i64 ((rd_T35 l0 x7_1).f3.f4)) := (blk_cell BK109.out 7).trans rfl; have hcz64_8 : w63.cell? ⟨gb109, 8, none⟩ = some (.string ((rd_T35 l0 x7_1).f4)) := (blk_cell BK109.out 8).trans rfl; have hcz64_9 : w63.cell? ⟨gb109, 9, none⟩ = some (.string ((rd_T35 l0 x7_1).f5)) := (blk_cell BK109.out 9).trans rfl; have hcz64_10 : w63.cell? ⟨gb109, 10, none⟩ = some (.int .i64 ((rd_T35 l0 x7_1).f6)) := (blk_cell BK109.out 10).trans rfl; have hfz64_0 := blk_frozen BK109.out 0; have hfz64_1 := blk_frozen BK109.out 1; have hfz64_2 := blk_frozen BK109.out 2; have hfz64_3 := blk_frozen BK109.out 3; have hfz64_4 := blk_frozen BK109.out 4; have hfz64_5 := blk_frozen BK109.out 5; have hfz64_6 := blk_frozen BK109.out 6; have hfz64_7 := blk_frozen BK109.out 7; have hfz64_8 := blk_frozen BK109.out 8; have hfz64_9 := blk_frozen BK109.out 9; have hfz64_10 := blk_frozen BK109.out 10) | (at_builtin; refine print_append_str (w0 := w) w.heap.size rfl (.tmp 71) _ 27 9 5 rfl Tryd.underlying27 Tryd.underlying9 info5 v131 t130 ((rd_T35 l0 x7_1).f5) rfl rfl ?aO ?aB ?aS ?aL ?_; (case aB => exact (by repeat (first | (with_reducible first | exact HB.out | apply below_alloc | apply pw_below_drewN | apply below_drew1 | refine below_set ?_ GE109.out) | exact HB.out))); (case aO => exact (Kd.own_of_R (upR (Kd.R_mono HO132.out (fun _ hk => trivial))))); (case aS => exact (below_size (by repeat (first | (with_reducible first | exact HB.out | apply below_alloc | apply pw_below_drewN | apply below_drew1 | refine below_set ?_ GE109.out) | exact HB.out)))); (case aL => have := LMc31.out; omega); intro v134 w65 ho0 hb hg; have ho := Kd.R_of_own (h1 := fun _ => rfl) (ok := fun _ => True) ho0 (fun _ _ => trivial); clear ho0; have hat := True.intro; rw [← Ny133.out] at ho; change Kd.R (Kd.int .u8) 5 w65 w.heap.size (fun _ => True) v134 y133 at ho; have n0_ := Aside0.mk (blk_grown (g := gb109) (o := .cells #[.string ((rd_T35 l0 x7_1).f0), .int .i64 ((rd_T35 l0 x7_1).f1), .int .i64 ((rd_T35 l0 x7_1).f2), .int .i64 ((rd_T35 l0 x7_1).f3.f0), .int .i64 ((rd_T35 l0 x7_1).f3.f1), .int .i64 ((rd_T35 l0 x7_1).f3.f2), .int .i64 ((rd_T35 l0 x7_1).f3.f3), .int .i64 ((rd_T35 l0 x7_1).f3.f4), .string ((rd_T35 l0 x7_1).f4), .string ((rd_T35 l0 x7_1).f5), .int .i64 ((rd_T35 l0 x7_1).f6)] 35 (0, 0)) (upK BK109.out) hg (Kd.R_ne HO132.out BK109.out (by decide))); have n1_ := Aside0.mk (hb); have n2_ := Aside0.mk (ho); clear BK109; clear HB; clear HO132; have BK109 := n0_; have HB := n1_; have HO135 := n2_; clear n0_ n1_ n2_; clear ho hb hg hat; have hcz66_0 : w65.cell? ⟨gb109, 0, none⟩ = some (.string ((rd_T35 l0 x7_1).f0)) := (blk_cell BK109.out 0).trans rfl; have hcz66_1 : w65.cell? ⟨gb109, 1, none⟩ = some (.int .i64 ((rd_T35 l0 x7_1).f1)) := (blk_cell BK109.out 1).trans rfl; have hcz66_2 : w65.cell? ⟨gb109, 2, none⟩ = some (.int .i64 ((rd_T35 l0 x7_1).f2)) := (blk_cell BK109.out 2).trans rfl; have hcz66_3 : w65.cell? ⟨gb109, 3, none⟩ = some (.int .i64 ((rd_T35 l0 x7_1).f3.f0)) := (blk_cell BK109.out 3).trans rfl; have hcz66_4 : w65.cell? ⟨gb109, 4, none⟩ = some (.int .i64 ((rd_T35 l0 x7_1).f3.f1)) := (blk_cell BK109.out 4).trans rfl; have hcz66_5 : w65.cell? ⟨gb109, 5, none⟩ = some (.int .i64 ((rd_T35 l0 x7_1).f3.f2)) := (blk_cell BK109.out 5).trans rfl; have hcz66_6 : w65.cell? ⟨gb109, 6, none⟩ = some (.int .i64 ((rd_T35 l0 x7_1).f3.f3)) := (blk_cell BK109.out 6).trans rfl; have hcz66_7 : w65.cell? ⟨gb109, 7, none⟩ = some (.int .i64 ((rd_T35 l0 x7_1).f3.f4)) := (blk_cell BK109.out 7).trans rfl; have hcz66_8 : w65.cell? ⟨gb109, 8, none⟩ = some (.string ((rd_T35 l0 x7_1).f4)) := (blk_cell BK109.out 8).trans rfl; have hcz66_9 : w65.cell? ⟨gb109, 9, none⟩ = some (.string ((rd_T35 l0 x7_1).f5)) := (blk_cell BK109.out 9).trans rfl; have hcz66_10 : w65.cell? ⟨gb109, 10, none⟩ = some (.int .i64 ((rd_T35 l0 x7_1).f6)) := (blk_cell BK109.out 10).trans rfl; have hfz66_0 := blk_frozen BK109.out 0; have hfz66_1 := blk_frozen BK109.out 1; have hfz66_2 := blk_frozen BK109.out 2; have hfz66_3 := blk_frozen BK109.out 3; have hfz66_4 := blk_frozen BK109.out 4; have hfz66_5 := blk_frozen BK109.out 5; have hfz66_6 := blk_frozen BK109.out 6; have hfz66_7 := blk_frozen BK109.out 7; have hfz66_8 := blk_frozen BK109.out 8; have hfz66_9 := blk_frozen BK109.out 9; have hfz66_10 := blk_frozen BK109.out 10))
             go_roundg kj13
             case measure => have := HK1.out; have := HJ13.out; omega
             case rel => exact ⟨(y133), (((rd_T35 l0 x7_1).f0)), (wrap64 (x7_1 + 1)), (by first | rfl | (simp; done) | (simp [*]; done)), (by first | rfl | (simp; done) | (simp [*]; done)), H', ⟨by have := HK1.out; have := HJ13.out; omega⟩, ⟨upR HO135.out⟩, ⟨by repeat (first | (with_reducible first | exact HB.out | apply below_alloc | apply pw_below_drewN | apply below_drew1 | refine below_set ?_ GE109.out) | exact HB.out)⟩⟩
            rw [if_neg c31] at H
            exact absurd H (by simp)
           rw [if_neg c29] at H
           have c29b0 : (((rd_T35 l0 x7_1).f1) == 3) = false := beq_eq_false_iff_ne.mpr c29
           have c29b1 : (((rd_T35 l0 x7_1).f1) != 3) = true := bne_iff_ne.mpr c29
           by_cases c67 : y127.length + ((rd_T35 l0 x7_1).f5).size < 140737488355328
           ·rw [if_pos c67] at H
            have LMc67 := Aside0.mk c67
            clear c67
            obtain ⟨y139, hy139⟩ : ∃ y_ : List Int, y_ = (y127 ++ bytesOf ((rd_T35 l0 x7_1).f5)) := ⟨_, rfl⟩
            replace H : (if ((rd_T35 l0 x7_1).f1) = 1 then ((remoraref01_Put.f kj13 y139 ((rd_T35 l0 x7_1).f6)).bind fun t142 => (remoraref20_Bytes.l0 kj13 l0 t142 ((rd_T35 l0 x7_1).f0) (wrap64 (x7_1 + 1)))) else (remoraref20_Bytes.l0 kj13 l0 y139 ((rd_T35 l0 x7_1).f0) (wrap64 (x7_1 + 1)))) = some (r1, r2) := by first | (rw [hy139]; with_reducible exact H) | (have H2_ := (Option.bind_some _ _).symm.trans H; rw [hy139]; with_reducible exact H2_) | (have H2_ := (Option.bind_some _ _).symm.trans H; with_reducible exact H2_) | with_reducible exact H | (rw [hy139]; exact H) | exact H
            have Ny139 := Aside0.mk hy139
            clear hy139
            by_cases c68 : ((rd_T35 l0 x7_1).f1) = 1
            ·rw [if_pos c68] at H
             have c68b0 : (((rd_T35 l0 x7_1).f1) == 1) = true := beq_iff_eq.mpr c68
             have c68b1 : (((rd_T35 l0 x7_1).f1) != 1) = false := bne_eq_false_iff_eq.mpr c68
             clear c68
             replace H := Option.bind_eq_some_iff.mp H
             obtain ⟨t142, A690, H⟩ := H
             replace H : (remoraref20_Bytes.l0 kj13 l0 t142 ((rd_T35 l0 x7_1).f0) (wrap64 (x7_1 + 1))) = some (r1, r2) := H
             have A69 := Aside0.mk A690
             clear A690
             have H' := Aside0.mk H
             clear H
             obtain ⟨hcz70_0, hcz70_1, hcz70_2, hcz70_3, hcz70_4, hcz70_5, hcz70_6, hcz70_7, hcz70_8, hcz70_9, hcz70_10⟩ := blkc11 BK109.out
             obtain ⟨hfz70_0, hfz70_1, hfz70_2, hfz70_3, hfz70_4, hfz70_5, hfz70_6, hfz70_7, hfz70_8, hfz70_9, hfz70_10⟩ := blkf11 BK109.out
             try go_wp2_with (first | ((with_reducible refine gate_callee (f := 41) rfl ?_); refine goesL_ (some 53) rfl rfl Tryd.func41 (by kernel_rfl) rfl #[.agg #[.int .i64 ((rd_T35 l0 x7_1).f3.f0), .int .i64 ((rd_T35 l0 x7_1).f3.f1), .int .i64 ((rd_T35 l0 x7_1).f3.f2), .int .i64 ((rd_T35 l0 x7_1).f3.f3), .int .i64 ((rd_T35 l0 x7_1).f3.f4)]] rfl (by (try simp only [List.map_toArray, List.map_cons, List.map_nil]); first | done | rfl | (simp only [List.length_drop, List.length_take]; rfl)) ?_; (with_reducible refine (remoraref16_Bytes.calls kj13 ((rd_T35 l0 x7_1).f3.f0) ((rd_T35 l0 x7_1).f3.f1) ((rd_T35 l0 x7_1).f3.f2) ((rd_T35 l0 x7_1).f3.f3) ((rd_T35 l0 x7_1).f3.f4) t117 t120 _ A25.out).mono ?_); rintro e w71 ⟨v118, rfl, ho0, hb⟩; refine ⟨_, rfl, ?_⟩; have n0_ := Aside0.mk (Kd.R_elder' (upR HO_5.out) (Kd.R_base ho0) hb); have n1_ := Aside0.mk (Kd.R_lower (Kd.R_new' ho0 (Kd.R_lt (upR HO_5.out))) (below_size (by repeat (first | (with_reducible first | exact HB.out | apply below_alloc | apply pw_below_drewN | apply below_drew1 | refine below_set ?_ GE109.out) | exact HB.out)))); have n2_ := Aside0.mk (blk_below (g := gb109) (o := .cells #[.string ((rd_T35 l0 x7_1).f0), .int .i64 ((rd_T35 l0 x7_1).f1), .int .i64 ((rd_T35 l0 x7_1).f2), .int .i64 ((rd_T35 l0 x7_1).f3.f0), .int .i64 ((rd_T35 l0 x7_1).f3.f1), .int .i64 ((rd_T35 l0 x7_1).f3.f2), .int .i64 ((rd_T35 l0 x7_1).f3.f3), .int .i64 ((rd_T35 l0 x7_1).f3.f4), .string ((rd_T35 l0 x7_1).f4), .string ((rd_T35 l0 x7_1).f5), .int .i64 ((rd_T35 l0 x7_1).f6)] 35 (0, 0)) (upK BK109.out) hb); have n3_ := Aside0.mk (below_step (by repeat (first | (with_reducible first | exact HB.out | apply below_alloc | apply pw_below_drewN | apply below_drew1 | refine below_set ?_ GE109.out) | exact HB.out)) hb); clear HO_5; clear BK109; clear HB; have HO_5 := n0_; have HO119 := n1_; have BK109 := n2_; have HB := n3_; clear n0_ n1_ n2_ n3_; (try clear hb); (try clear hb2); (try clear hk); (try clear hi); (try clear ho0)))
             have n0_ := Aside0.mk (Kd.R_drew HO_5.out)
             have n1_ := Aside0.mk (Kd.R_drew HO119.out)
             have n2_ := Aside0.mk (blk_drew BK109.out)
             have n3_ := Aside0.mk (below_drew1 HB.out)
             clear HO_5
             clear HO119
             clear BK109
             clear HB
             have HO_5 := n0_
             have HO119 := n1_
             have BK109 := n2_
             have HB := n3_
             clear n0_ n1_ n2_ n3_
             obtain ⟨Ao73, co73, eo73⟩ := Kd.R_slice HO_5.out
             (first | subst eo73 | (injection eo73 with f1_ f2_ f3_; have f4_ := f1_.symm; have f5_ := f3_.symm; clear f1_ f2_ f3_; subst f4_; subst f5_))
             refine start_ (n := 9) (S := fun w' => w'.cell? ⟨gb109, 0, none⟩ = some (.string ((rd_T35 l0 x7_1).f0)) ∧ w'.cell? ⟨gb109, 1, none⟩ = some (.int .i64 ((rd_T35 l0 x7_1).f1)) ∧ w'.cell? ⟨gb109, 2, none⟩ = some (.int .i64 ((rd_T35 l0 x7_1).f2)) ∧ w'.cell? ⟨gb109, 3, none⟩ = some (.int .i64 ((rd_T35 l0 x7_1).f3.f0)) ∧ w'.cell? ⟨gb109, 4, none⟩ = some (.int .i64 ((rd_T35 l0 x7_1).f3.f1)) ∧ w'.cell? ⟨gb109, 5, none⟩ = some (.int .i64 ((rd_T35 l0 x7_1).f3.f2)) ∧ w'.cell? ⟨gb109, 6, none⟩ = some (.int .i64 ((rd_T35 l0 x7_1).f3.f3)) ∧ w'.cell? ⟨gb109, 7, none⟩ = some (.int .i64 ((rd_T35 l0 x7_1).f3.f4)) ∧ w'.cell? ⟨gb109, 8, none⟩ = some (.string ((rd_T35 l0 x7_1).f4)) ∧ w'.cell? ⟨gb109, 9, none⟩ = some (.string ((rd_T35 l0 x7_1).f5)) ∧ w'.cell? ⟨gb109, 10, none⟩ = some (.int .i64 ((rd_T35 l0 x7_1).f6))) (ds := []) #[Z_,Z_,Z_,Z_,Z_,Z_,Z_,Z_,Z_] (by kernel_rfl) rfl rfl ⟨(blk_cell BK109.out 0).trans rfl, (blk_cell BK109.out 1).trans rfl, (blk_cell BK109.out 2).trans rfl, (blk_cell BK109.out 3).trans rfl, (blk_cell BK109.out 4).trans rfl, (blk_cell BK109.out 5).trans rfl, (blk_cell BK109.out 6).trans rfl, (blk_cell BK109.out 7).trans rfl, (blk_cell BK109.out 8).trans rfl, (blk_cell BK109.out 9).trans rfl, (blk_cell BK109.out 10).trans rfl⟩ (fun hHeld => ?_); refine with_tabW remoraref20_Bytes.tab16 remoraref20_Bytes.bits16 (fun HT_ HW_ => ?_)
             generalize w71.drew = w72 at HO_5 HO119 BK109 HB hHeld ⊢
             refine pure_ (i := 0) (N := some 56) (v := ?_) (a' := ?_) #[Y_,Z_,Z_,Z_,Z_,Z_,Z_,Z_,Z_] rfl rfl (any_of HT_.out (by kernel_rfl)) (fun _ _ _ h => h) (Or.inl ⟨by rfl, ?_⟩) ?_ ?_
             rotate_left
             ·intro w';go_simp;with_reducible rfl
             rotate_left
             ·simp only [Act.put, nS, i64_w, i32_w];rfl
             refine pure_ (i := 1) (N := some 57) (v := ?_) (a' := ?_) #[Y_,Y_,Z_,Z_,Z_,Z_,Z_,Z_,Z_] rfl rfl (any_of HT_.out (by kernel_rfl)) (fun _ _ _ h => h) (Or.inl ⟨by rfl, ?_⟩) ?_ ?_
             rotate_left
             ·intro w';go_simp;with_reducible rfl
             rotate_left
             ·simp only [Act.put, nS, i64_w, i32_w];rfl
             refine pure_ (i := 3) (N := some 59) (v := ?_) (a' := ?_) #[Y_,Y_,Z_,Y_,Z_,Z_,Z_,Z_,Z_] rfl rfl (any_of HT_.out (by kernel_rfl)) (fun _ _ _ h => h) (Or.inl ⟨by rfl, ?_⟩) ?_ ?_
             rotate_left
             ·intro w';go_simp;with_reducible rfl
             rotate_left
             ·simp only [Act.put, nS, i64_w, i32_w];rfl
             refine pure_ (i := 6) (N := some 62) (v := ?_) (a' := ?_) #[Y_,Y_,Z_,Y_,Z_,Z_,Y_,Z_,Z_] rfl rfl (any_of HT_.out (by kernel_rfl)) (fun _ _ _ h => h) (Or.inl ⟨by rfl, ?_⟩) ?_ ?_
             rotate_left
             ·intro w';go_simp;with_reducible rfl
             rotate_left
             ·simp only [Act.put, nS, i64_w, i32_w];rfl
             refine take_ (i := 4) (N := some 60) (v := ?_) (a' := ?_) #[Y_,Y_,Z_,Y_,Y_,Z_,Y_,Z_,Z_] rfl rfl (take_ofW HT_.out HW_.out (by kernel_rfl)) (fun _ _ _ h => h) (Or.inl ⟨by rfl, ?_⟩) hHeld ?_ ?_
             rotate_left
             ·rintro w' ⟨s0, s1, s2, s3, s4, s5, s6, s7, s8, s9, s10⟩
              go_simp
              with_reducible rfl
             rotate_left
             ·simp only [Act.put, nS, i64_w, i32_w];rfl
             refine one_ (i := 2) (N := some 58) #[Y_,Y_,Y_,Y_,Y_,Z_,Y_,Z_,Z_] rfl rfl (one_of HT_.out (by kernel_rfl)) (by decide) (fun K hK => ?_)
             refine goes_ Tryd.func38 (by kernel_rfl) rfl #[.slice Ao73 t114.length co73, .int .i64 x10_13] (by rfl) rfl rfl (by (try simp only [List.map_toArray, List.map_cons, List.map_nil]); first | done | rfl | (simp only [List.length_drop, List.length_take]; rfl)) ?_
             with_reducible refine (remoraref01_Put.calls kj13 _ _ t114 x10_13 t121 _ ?side1 ?side2 A26.out).mono ?_
             (case side1 => repeat (first | exact (Kd.R_reads' HO_5.out).2.2 | (with_reducible refine Kd.C_alloc ?_ _) | (with_reducible refine Kd.C_drewN ?_ _) | (with_reducible refine Kd.C_drew ?_)))
             (case side2 => exact (Kd.R_reads' HO_5.out).2.1)
             rintro e w74 ⟨v122, rfl, ho0, hb⟩
             refine ⟨_, rfl, ?_⟩
             have n0_ := Aside0.mk (Kd.R_elder' (upR HO_5.out) (Kd.R_base ho0) hb)
             have n1_ := Aside0.mk (Kd.R_elder' (upR HO119.out) (Kd.R_base ho0) hb)
             have n2_ := Aside0.mk (Kd.R_lower (Kd.R_new' (Kd.R_new' ho0 (Kd.R_lt (upR HO_5.out))) (Kd.R_lt (upR HO119.out))) (below_size (by repeat (first | (with_reducible first | exact HB.out | apply below_alloc | apply pw_below_drewN | apply below_drew1 | refine below_set ?_ GE109.out) | exact HB.out))))
             have n3_ := Aside0.mk (blk_below (g := gb109) (o := .cells #[.string ((rd_T35 l0 x7_1).f0), .int .i64 ((rd_T35 l0 x7_1).f1), .int .i64 ((rd_T35 l0 x7_1).f2), .int .i64 ((rd_T35 l0 x7_1).f3.f0), .int .i64 ((rd_T35 l0 x7_1).f3.f1), .int .i64 ((rd_T35 l0 x7_1).f3.f2), .int .i64 ((rd_T35 l0 x7_1).f3.f3), .int .i64 ((rd_T35 l0 x7_1).f3.f4), .string ((rd_T35 l0 x7_1).f4), .string ((rd_T35 l0 x7_1).f5), .int .i64 ((rd_T35 l0 x7_1).f6)] 35 (0, 0)) (upK BK109.out) hb)
             have n4_ := Aside0.mk (below_step (by repeat (first | (with_reducible first | exact HB.out | apply below_alloc | apply pw_below_drewN | apply below_drew1 | refine below_set ?_ GE109.out) | exact HB.out)) hb)
             clear HO_5
             clear HO119
             clear BK109
             clear HB
             have HO_5 := n0_
             have HO119 := n1_
             have HO123 := n2_
             have BK109 := n3_
             have HB := n4_
             clear n0_ n1_ n2_ n3_ n4_
             (try clear hb)
             (try clear hb2)
             (try clear hk)
             (try clear hi)
             (try clear ho0)
             obtain ⟨Ao75, co75, eo75⟩ := Kd.R_slice HO123.out
             (first | subst eo75 | (injection eo75 with f1_ f2_ f3_; have f4_ := f1_.symm; have f5_ := f3_.symm; clear f1_ f2_ f3_; subst f4_; subst f5_))
             refine hK.out _ _ ⟨(blk_cell BK109.out 0).trans rfl, (blk_cell BK109.out 1).trans rfl, (blk_cell BK109.out 2).trans rfl, (blk_cell BK109.out 3).trans rfl, (blk_cell BK109.out 4).trans rfl, (blk_cell BK109.out 5).trans rfl, (blk_cell BK109.out 6).trans rfl, (blk_cell BK109.out 7).trans rfl, (blk_cell BK109.out 8).trans rfl, (blk_cell BK109.out 9).trans rfl, (blk_cell BK109.out 10).trans rfl⟩ (fun hHeld => ?_)
             clear hK K
             refine norm_ (a' := ?_) ?_ ?_
             rotate_left
             ·show Act.put _ (some 58) _ = _
              simp only [Act.put, nS, i64_w, i32_w]
              rfl
             refine one_ (i := 5) (N := some 61) #[Y_,Y_,Y_,Y_,Y_,Y_,Y_,Z_,Z_] rfl rfl (one_of HT_.out (by kernel_rfl)) (by decide) (fun K hK => ?_)
             refine goes_ Tryd.func38 (by kernel_rfl) rfl #[.slice Ao75 t121.length co75, .int .i64 ((rd_T35 l0 x7_1).f2)] (by rfl) rfl rfl (by (try simp only [List.map_toArray, List.map_cons, List.map_nil]); first | done | rfl | (simp only [List.length_drop, List.length_take]; rfl)) ?_
             with_reducible refine (remoraref01_Put.calls kj13 _ _ t121 ((rd_T35 l0 x7_1).f2) t124 _ ?side1 ?side2 A27.out).mono ?_
             (case side1 => repeat (first | exact (Kd.R_reads' HO123.out).2.2 | (with_reducible refine Kd.C_alloc ?_ _) | (with_reducible refine Kd.C_drewN ?_ _) | (with_reducible refine Kd.C_drew ?_)))
             (case side2 => exact (Kd.R_reads' HO123.out).2.1)
             rintro e w76 ⟨v125, rfl, ho0, hb⟩
             refine ⟨_, rfl, ?_⟩
             have n0_ := Aside0.mk (Kd.R_elder' (upR HO_5.out) (Kd.R_base ho0) hb)
             have n1_ := Aside0.mk (Kd.R_elder' (upR HO119.out) (Kd.R_base ho0) hb)
             have n2_ := Aside0.mk (Kd.R_elder' (upR HO123.out) (Kd.R_base ho0) hb)
             have n3_ := Aside0.mk (Kd.R_lower (Kd.R_new' (Kd.R_new' (Kd.R_new' ho0 (Kd.R_lt (upR HO_5.out))) (Kd.R_lt (upR HO119.out))) (Kd.R_lt (upR HO123.out))) (below_size (by repeat (first | (with_reducible first | exact HB.out | apply below_alloc | apply pw_below_drewN | apply below_drew1 | refine below_set ?_ GE109.out) | exact HB.out))))
             have n4_ := Aside0.mk (blk_below (g := gb109) (o := .cells #[.string ((rd_T35 l0 x7_1).f0), .int .i64 ((rd_T35 l0 x7_1).f1), .int .i64 ((rd_T35 l0 x7_1).f2), .int .i64 ((rd_T35 l0 x7_1).f3.f0), .int .i64 ((rd_T35 l0 x7_1).f3.f1), .int .i64 ((rd_T35 l0 x7_1).f3.f2), .int .i64 ((rd_T35 l0 x7_1).f3.f3), .int .i64 ((rd_T35 l0 x7_1).f3.f4), .string ((rd_T35 l0 x7_1).f4), .string ((rd_T35 l0 x7_1).f5), .int .i64 ((rd_T35 l0 x7_1).f6)] 35 (0, 0)) (upK BK109.out) hb)
             have n5_ := Aside0.mk (below_step (by repeat (first | (with_reducible first | exact HB.out | apply below_alloc | apply pw_below_drewN | apply below_drew1 | refine below_set ?_ GE109.out) | exact HB.out)) hb)
             clear HO_5
             clear HO119
             clear HO123
             clear BK109
             clear HB
             have HO_5 := n0_
             have HO119 := n1_
             have HO123 := n2_
             have HO126 := n3_
             have BK109 := n4_
             have HB := n5_
             clear n0_ n1_ n2_ n3_ n4_ n5_
             (try clear hb)
             (try clear hb2)
             (try clear hk)
             (try clear hi)
             (try clear ho0)
             obtain ⟨Ao78, co78, eo78⟩ := Kd.R_slice HO119.out
             (first | subst eo78 | (injection eo78 with f1_ f2_ f3_; have f4_ := f1_.symm; have f5_ := f3_.symm; clear f1_ f2_ f3_; subst f4_; subst f5_))
             refine hK.out _ _ ⟨(blk_cell BK109.out 0).trans rfl, (blk_cell BK109.out 1).trans rfl, (blk_cell BK109.out 2).trans rfl, (blk_cell BK109.out 3).trans rfl, (blk_cell BK109.out 4).trans rfl, (blk_cell BK109.out 5).trans rfl, (blk_cell BK109.out 6).trans rfl, (blk_cell BK109.out 7).trans rfl, (blk_cell BK109.out 8).trans rfl, (blk_cell BK109.out 9).trans rfl, (blk_cell BK109.out 10).trans rfl⟩ (fun hHeld => ?_)
             clear hK K
             refine norm_ (a' := ?_) ?_ ?_
             rotate_left
             ·show Act.put _ (some 61) _ = _
              simp only [Act.put, nS, i64_w, i32_w]
              rfl
             refine one_ (i := 7) (N := some 63) #[Y_,Y_,Y_,Y_,Y_,Y_,Y_,Y_,Z_] rfl rfl (one_of HT_.out (by kernel_rfl)) (by decide) (fun K hK => ?_)
             refine Kd.R_append_rows_step (Kd.int .u8) (w0 := w) w.heap.size (by rfl) (.tmp 61) (.tmp 62) 27 5 (.int .u8 0) 1 rfl Tryd.underlying27 info5 rfl (by decide) (by omega) v125 t124 t117 _ _ _ (fun k_ => some k_ ≠ (.slice Ao73 t114.length co73 : Value).ownBlock ∧ some k_ ≠ (.slice Ao78 t117.length co78 : Value).ownBlock ∧ some k_ ≠ (.slice Ao75 t121.length co75 : Value).ownBlock) (fun _ => False) rfl rfl ?aO ?aR (fun _ _ h => h) (fun _ h => h.elim) ?aF ?aB ?aS ?aL ?_
             (case aR => repeat (first | exact (Kd.R_reads' HO119.out).2.2 | (with_reducible refine Kd.C_alloc ?_ _) | (with_reducible refine Kd.C_drewN ?_ _) | (with_reducible refine Kd.C_drew ?_)))
             (case aB => exact (by repeat (first | (with_reducible first | exact HB.out | apply below_alloc | apply pw_below_drewN | apply below_drew1 | refine below_set ?_ GE109.out) | exact HB.out)))
             (case aF => exact (fun k_ hk => ⟨Kd.fresh' (Kd.R_lt (upR HO_5.out)) k_ hk, Kd.fresh' (Kd.R_lt (upR HO119.out)) k_ hk, Kd.fresh' (Kd.R_lt (upR HO123.out)) k_ hk⟩))
             (case aO => exact (upR (Kd.R_mono HO126.out (fun _ hk => ⟨hk.1.1.2, ⟨hk.1.2, hk.2⟩⟩))))
             (case aS => exact (below_size (by repeat (first | (with_reducible first | exact HB.out | apply below_alloc | apply pw_below_drewN | apply below_drew1 | refine below_set ?_ GE109.out) | exact HB.out))))
             (case aL => have := LMc28.out; omega)
             intro v128 w77 ho hb hg hat
             rw [← Ny127.out] at ho
             have n0_ := Aside0.mk (Kd.R_after (ok := (fun k_ => some k_ ≠ (.slice Ao78 t117.length co78 : Value).ownBlock ∧ some k_ ≠ (.slice Ao75 t121.length co75 : Value).ownBlock)) (upR (Kd.R_mono HO_5.out (fun _ hk => ⟨⟨hk.1.1.2, hk.1.2⟩, hk.2⟩))) hg hat)
             have n1_ := Aside0.mk (blk_grown (g := gb109) (o := .cells #[.string ((rd_T35 l0 x7_1).f0), .int .i64 ((rd_T35 l0 x7_1).f1), .int .i64 ((rd_T35 l0 x7_1).f2), .int .i64 ((rd_T35 l0 x7_1).f3.f0), .int .i64 ((rd_T35 l0 x7_1).f3.f1), .int .i64 ((rd_T35 l0 x7_1).f3.f2), .int .i64 ((rd_T35 l0 x7_1).f3.f3), .int .i64 ((rd_T35 l0 x7_1).f3.f4), .string ((rd_T35 l0 x7_1).f4), .string ((rd_T35 l0 x7_1).f5), .int .i64 ((rd_T35 l0 x7_1).f6)] 35 (0, 0)) (upK BK109.out) hg (Kd.R_ne HO126.out BK109.out (by decide)))
             have n2_ := Aside0.mk (Kd.R_after (ok := (fun k_ => some k_ ≠ (.slice Ao73 t114.length co73 : Value).ownBlock ∧ some k_ ≠ (.slice Ao75 t121.length co75 : Value).ownBlock)) (upR (Kd.R_mono HO119.out (fun _ hk => ⟨⟨hk.1.1.2, hk.1.2⟩, hk.2⟩))) hg hat)
             have n3_ := Aside0.mk (Kd.R_after (ok := (fun k_ => some k_ ≠ (.slice Ao73 t114.length co73 : Value).ownBlock ∧ some k_ ≠ (.slice Ao78 t117.length co78 : Value).ownBlock)) (upR (Kd.R_mono HO123.out (fun _ hk => ⟨⟨hk.1.1.2, hk.1.2⟩, hk.2⟩))) hg hat)
             have n4_ := Aside0.mk (hb)
             have n5_ := Aside0.mk (ho)
             clear HO_5
             clear BK109
             clear HO119
             clear HO123
             clear HB
             clear HO126
             have HO_5 := n0_
             have BK109 := n1_
             have HO119 := n2_
             have HO123 := n3_
             have HB := n4_
             have HO129 := n5_
             clear n0_ n1_ n2_ n3_ n4_ n5_
             clear ho hb hg hat
             refine hK.out _ _ ⟨(blk_cell BK109.out 0).trans rfl, (blk_cell BK109.out 1).trans rfl, (blk_cell BK109.out 2).trans rfl, (blk_cell BK109.out 3).trans rfl, (blk_cell BK109.out 4).trans rfl, (blk_cell BK109.out 5).trans rfl, (blk_cell BK109.out 6).trans rfl, (blk_cell BK109.out 7).trans rfl, (blk_cell BK109.out 8).trans rfl, (blk_cell BK109.out 9).trans rfl, (blk_cell BK109.out 10).trans rfl⟩ (fun hHeld => ?_)
             clear hK K
             refine norm_ (a' := ?_) ?_ ?_
             rotate_left
             ·show Act.put _ (some 63) _ = _
              simp only [Act.put, nS, i64_w, i32_w]
              rfl
             refine pure_ (i := 8) (N := some 5) (v := ?_) (a' := ?_) #[Y_,Y_,Y_,Y_,Y_,Y_,Y_,Y_,Y_] rfl rfl (any_of HT_.out (by kernel_rfl)) (fun _ _ _ h => h) (Or.inl ⟨by rfl, ?_⟩) ?_ ?_
             rotate_left
             ·intro w';go_simp;with_reducible rfl
             rotate_left
             ·simp only [Act.put, nS, i64_w, i32_w];rfl
             refine done_ (done_of HT_.out (by kernel_rfl)) ?_
             obtain ⟨hcz79_0, hcz79_1, hcz79_2, hcz79_3, hcz79_4, hcz79_5, hcz79_6, hcz79_7, hcz79_8, hcz79_9, hcz79_10⟩ := blkc11 BK109.out
             obtain ⟨hfz79_0, hfz79_1, hfz79_2, hfz79_3, hfz79_4, hfz79_5, hfz79_6, hfz79_7, hfz79_8, hfz79_9, hfz79_10⟩ := blkf11 BK109.out
             try go_wp2_with (first | (at_builtin; refine print_append_str (w0 := w) w.heap.size rfl (.tmp 71) _ 27 9 5 rfl Tryd.underlying27 Tryd.underlying9 info5 v128 y127 ((rd_T35 l0 x7_1).f5) rfl rfl ?aO ?aB ?aS ?aL ?_; (case aB => exact (by repeat (first | (with_reducible first | exact HB.out | apply below_alloc | apply pw_below_drewN | apply below_drew1 | refine below_set ?_ GE109.out) | exact HB.out))); (case aO => exact (Kd.own_of_R (upR (Kd.R_mono HO129.out (fun _ hk => trivial))))); (case aS => exact (below_size (by repeat (first | (with_reducible first | exact HB.out | apply below_alloc | apply pw_below_drewN | apply below_drew1 | refine below_set ?_ GE109.out) | exact HB.out)))); (case aL => have := LMc67.out; omega); intro v140 w80 ho0 hb hg; have ho := Kd.R_of_own (h1 := fun _ => rfl) (ok := fun _ => True) ho0 (fun _ _ => trivial); clear ho0; have hat := True.intro; rw [← Ny139.out] at ho; change Kd.R (Kd.int .u8) 5 w80 w.heap.size (fun _ => True) v140 y139 at ho; have n0_ := Aside0.mk (blk_grown (g := gb109) (o := .cells #[.string ((rd_T35 l0 x7_1).f0), .int .i64 ((rd_T35 l0 x7_1).f1), .int .i64 ((rd_T35 l0 x7_1).f2), .int .i64 ((rd_T35 l0 x7_1).f3.f0), .int .i64 ((rd_T35 l0 x7_1).f3.f1), .int .i64 ((rd_T35 l0 x7_1).f3.f2), .int .i64 ((rd_T35 l0 x7_1).f3.f3), .int .i64 ((rd_T35 l0 x7_1).f3.f4), .string ((rd_T35 l0 x7_1).f4), .string ((rd_T35 l0 x7_1).f5), .int .i64 ((rd_T35 l0 x7_1).f6)] 35 (0, 0)) (upK BK109.out) hg (Kd.R_ne HO129.out BK109.out (by decide))); have n1_ := Aside0.mk (hb); have n2_ := Aside0.mk (ho); clear BK109; clear HB; clear HO129; have BK109 := n0_; have HB := n1_; have HO141 := n2_; clear n0_ n1_ n2_; clear ho hb hg hat; have hcz81_0 : w80.cell? ⟨gb109, 0, none⟩ = some (.string ((rd_T35 l0 x7_1).f0)) := (blk_cell BK109.out 0).trans rfl; have hcz81_1 : w80.cell? ⟨gb109, 1, none⟩ = some (.int .i64 ((rd_T35 l0 x7_1).f1)) := (blk_cell BK109.out 1).trans rfl; have hcz81_2 : w80.cell? ⟨gb109, 2, none⟩ = some (.int .i64 ((rd_T35 l0 x7_1).f2)) := (blk_cell BK109.out 2).trans rfl; have hcz81_3 : w80.cell? ⟨gb109, 3, none⟩ = some (.int .i64 ((rd_T35 l0 x7_1).f3.f0)) := (blk_cell BK109.out 3).trans rfl; have hcz81_4 : w80.cell? ⟨gb109, 4, none⟩ = some (.int .i64 ((rd_T35 l0 x7_1).f3.f1)) := (blk_cell BK109.out 4).trans rfl; have hcz81_5 : w80.cell? ⟨gb109, 5, none⟩ = some (.int .i64 ((rd_T35 l0 x7_1).f3.f2)) := (blk_cell BK109.out 5).trans rfl; have hcz81_6 : w80.cell? ⟨gb109, 6, none⟩ = some (.int .i64 ((rd_T35 l0 x7_1).f3.f3)) := (blk_cell BK109.out 6).trans rfl; have hcz81_7 : w80.cell? ⟨gb109, 7, none⟩ = some (.int .i64 ((rd_T35 l0 x7_1).f3.f4)) := (blk_cell BK109.out 7).trans rfl; have hcz81_8 : w80.cell? ⟨gb109, 8, none⟩ = some (.string ((rd_T35 l0 x7_1).f4)) := (blk_cell BK109.out 8).trans rfl; have hcz81_9 : w80.cell? ⟨gb109, 9, none⟩ = some (.string ((rd_T35 l0 x7_1).f5)) := (blk_cell BK109.out 9).trans rfl; have hcz81_10 : w80.cell? ⟨gb109, 10, none⟩ = some (.int .i64 ((rd_T35 l0 x7_1).f6)) := (blk_cell BK109.out 10).trans rfl; have hfz81_0 := blk_frozen BK109.out 0; have hfz81_1 := blk_frozen BK109.out 1; have hfz81_2 := blk_frozen BK109.out 2; have hfz81_3 := blk_frozen BK109.out 3; have hfz81_4 := blk_frozen BK109.out 4; have hfz81_5 := blk_frozen BK109.out 5; have hfz81_6 := blk_frozen BK109.out 6; have hfz81_7 := blk_frozen BK109.out 7; have hfz81_8 := blk_frozen BK109.out 8; have hfz81_9 := blk_frozen BK109.out 9; have hfz81_10 := blk_frozen BK109.out 10; obtain ⟨Ao82, co82, eo82⟩ := Kd.R_slice HO141.out; subst eo82) | ((with_reducible refine gate_callee (f := 38) rfl ?_); refine goesL_ (some 81) rfl rfl Tryd.func38 (by kernel_rfl) rfl #[.slice Ao82 y139.length co82, .int .i64 ((rd_T35 l0 x7_1).f6)] rfl (by (try simp only [List.map_toArray, List.map_cons, List.map_nil]); first | done | rfl | (simp only [List.length_drop, List.length_take]; rfl)) ?_; (with_reducible refine (remoraref01_Put.calls kj13 _ _ y139 ((rd_T35 l0 x7_1).f6) t142 _ ?side1 ?side2 A69.out).mono ?_); (case side1 => repeat (first | exact (Kd.R_reads' HO141.out).2.2 | (with_reducible refine Kd.C_alloc ?_ _) | (with_reducible refine Kd.C_drewN ?_ _) | (with_reducible refine Kd.C_drew ?_))); (case side2 => exact (Kd.R_reads' HO141.out).2.1); rintro e w83 ⟨v143, rfl, ho0, hb⟩; refine ⟨_, rfl, ?_⟩; have n0_ := Aside0.mk (Kd.R_elder' (upR HO141.out) (Kd.R_base ho0) hb); have n1_ := Aside0.mk (Kd.R_lower (Kd.R_new' ho0 (Kd.R_lt (upR HO141.out))) (below_size (by repeat (first | (with_reducible first | exact HB.out | apply below_alloc | apply pw_below_drewN | apply below_drew1 | refine below_set ?_ GE109.out) | exact HB.out)))); have n2_ := Aside0.mk (blk_below (g := gb109) (o := .cells #[.string ((rd_T35 l0 x7_1).f0), .int .i64 ((rd_T35 l0 x7_1).f1), .int .i64 ((rd_T35 l0 x7_1).f2), .int .i64 ((rd_T35 l0 x7_1).f3.f0), .int .i64 ((rd_T35 l0 x7_1).f3.f1), .int .i64 ((rd_T35 l0 x7_1).f3.f2), .int .i64 ((rd_T35 l0 x7_1).f3.f3), .int .i64 ((rd_T35 l0 x7_1).f3.f4), .string ((rd_T35 l0 x7_1).f4), .string ((rd_T35 l0 x7_1).f5), .int .i64 ((rd_T35 l0 x7_1).f6)] 35 (0, 0)) (upK BK109.out) hb); have n3_ := Aside0.mk (below_step (by repeat (first | (with_reducible first | exact HB.out | apply below_alloc | apply pw_below_drewN | apply below_drew1 | refine below_set ?_ GE109.out) | exact HB.out)) hb); clear HO141; clear BK109; clear HB; have HO141 := n0_; have HO144 := n1_; have BK109 := n2_; have HB := n3_; clear n0_ n1_ n2_ n3_; (try clear hb); (try clear hb2); (try clear hk); (try clear hi); (try clear ho0); have hcz84_0 : w83.cell? ⟨gb109, 0, none⟩ = some (.string ((rd_T35 l0 x7_1).f0)) := (blk_cell BK109.out 0).trans rfl; have hcz84_1 : w83.cell? ⟨gb109, 1, none⟩ = some (.int .i64 ((rd_T35 l0 x7_1).f1)) := (blk_cell BK109.out 1).trans rfl; have hcz84_2 : w83.cell? ⟨gb109, 2, none⟩ = some (.int .i64 ((rd_T35 l0 x7_1).f2)) := (blk_cell BK109.out 2).trans rfl; have hcz84_3 : w83.cell? ⟨gb109, 3, none⟩ = some (.int .i64 ((rd_T35 l0 x7_1).f3.f0)) := (blk_cell BK109.out 3).trans rfl; have hcz84_4 : w83.cell? ⟨gb109, 4, none⟩ = some (.int .i64 ((rd_T35 l0 x7_1).f3.f1)) := (blk_cell BK109.out 4).trans rfl; have hcz84_5 : w83.cell? ⟨gb109, 5, none⟩ = some (.int .i64 ((rd_T35 l0 x7_1).f3.f2)) := (blk_cell BK109.out 5).trans rfl; have hcz84_6 : w83.cell? ⟨gb109, 6, none⟩ = some (.int .i64 ((rd_T35 l0 x7_1).f3.f3)) := (blk_cell BK109.out 6).trans rfl; have hcz84_7 : w83.cell? ⟨gb109, 7, none⟩ = some (.int .i64 ((rd_T35 l0 x7_1).f3.f4)) := (blk_cell BK109.out 7).trans rfl; have hcz84_8 : w83.cell? ⟨gb109, 8, none⟩ = some (.string ((rd_T35 l0 x7_1).f4)) := (blk_cell BK109.out 8).trans rfl; have hcz84_9 : w83.cell? ⟨gb109, 9, none⟩ = some (.string ((rd_T35 l0 x7_1).f5)) := (blk_cell BK109.out 9).trans rfl; have hcz84_10 : w83.cell? ⟨gb109, 10, none⟩ = some (.int .i64 ((rd_T35 l0 x7_1).f6)) := (blk_cell BK109.out 10).trans rfl; have hfz84_0 := blk_frozen BK109.out 0; have hfz84_1 := blk_frozen BK109.out 1; have hfz84_2 := blk_frozen BK109.out 2; have hfz84_3 := blk_frozen BK109.out 3; have hfz84_4 := blk_frozen BK109.out 4; have hfz84_5 := blk_frozen BK109.out 5; have hfz84_6 := blk_frozen BK109.out 6; have hfz84_7 := blk_frozen BK109.out 7; have hfz84_8 := blk_frozen BK109.out 8; have hfz84_9 := blk_frozen BK109.out 9; have hfz84_10 := blk_frozen BK109.out 10))
             go_roundg kj13
             case measure => have := HK1.out; have := HJ13.out; omega
             case rel => exact ⟨(t142), (((rd_T35 l0 x7_1).f0)), (wrap64 (x7_1 + 1)), (by first | rfl | (simp; done) | (simp [*]; done)), (by first | rfl | (simp; done) | (simp [*]; done)), H', ⟨by have := HK1.out; have := HJ13.out; omega⟩, ⟨upR (Kd.R_mono HO144.out (fun _ hk => trivial))⟩, ⟨by repeat (first | (with_reducible first | exact HB.out | apply below_alloc | apply pw_below_drewN | apply below_drew1 | refine below_set ?_ GE109.out) | exact HB.out)⟩⟩
            rw [if_neg c68] at H
            have c68b0 : (((rd_T35 l0 x7_1).f1) == 1) = false := beq_eq_false_iff_ne.mpr c68
            have c68b1 : (((rd_T35 l0 x7_1).f1) != 1) = true := bne_iff_ne.mpr c68
            have H' := Aside0.mk H
            clear H
            obtain ⟨hcz85_0, hcz85_1, hcz85_2, hcz85_3, hcz85_4, hcz85_5, hcz85_6, hcz85_7, hcz85_8, hcz85_9, hcz85_10⟩ := blkc11 BK109.out
            obtain ⟨hfz85_0, hfz85_1, hfz85_2, hfz85_3, hfz85_4, hfz85_5, hfz85_6, hfz85_7, hfz85_8, hfz85_9, hfz85_10⟩ := blkf11 BK109.out
            try go_wp2_with (first | ((with_reducible refine gate_callee (f := 41) rfl ?_); refine goesL_ (some 53) rfl rfl Tryd.func41 (by kernel_rfl) rfl #[.agg #[.int .i64 ((rd_T35 l0 x7_1).f3.f0), .int .i64 ((rd_T35 l0 x7_1).f3.f1), .int .i64 ((rd_T35 l0 x7_1).f3.f2), .int .i64 ((rd_T35 l0 x7_1).f3.f3), .int .i64 ((rd_T35 l0 x7_1).f3.f4)]] rfl (by (try simp only [List.map_toArray, List.map_cons, List.map_nil]); first | done | rfl | (simp only [List.length_drop, List.length_take]; rfl)) ?_; (with_reducible refine (remoraref16_Bytes.calls kj13 ((rd_T35 l0 x7_1).f3.f0) ((rd_T35 l0 x7_1).f3.f1) ((rd_T35 l0 x7_1).f3.f2) ((rd_T35 l0 x7_1).f3.f3) ((rd_T35 l0 x7_1).f3.f4) t117 t120 _ A25.out).mono ?_); rintro e w86 ⟨v118, rfl, ho0, hb⟩; refine ⟨_, rfl, ?_⟩; have n0_ := Aside0.mk (Kd.R_elder' (upR HO_5.out) (Kd.R_base ho0) hb); have n1_ := Aside0.mk (Kd.R_lower (Kd.R_new' ho0 (Kd.R_lt (upR HO_5.out))) (below_size (by repeat (first | (with_reducible first | exact HB.out | apply below_alloc | apply pw_below_drewN | apply below_drew1 | refine below_set ?_ GE109.out) | exact HB.out)))); have n2_ := Aside0.mk (blk_below (g := gb109) (o := .cells #[.string ((rd_T35 l0 x7_1).f0), .int .i64 ((rd_T35 l0 x7_1).f1), .int .i64 ((rd_T35 l0 x7_1).f2), .int .i64 ((rd_T35 l0 x7_1).f3.f0), .int .i64 ((rd_T35 l0 x7_1).f3.f1), .int .i64 ((rd_T35 l0 x7_1).f3.f2), .int .i64 ((rd_T35 l0 x7_1).f3.f3), .int .i64 ((rd_T35 l0 x7_1).f3.f4), .string ((rd_T35 l0 x7_1).f4), .string ((rd_T35 l0 x7_1).f5), .int .i64 ((rd_T35 l0 x7_1).f6)] 35 (0, 0)) (upK BK109.out) hb); have n3_ := Aside0.mk (below_step (by repeat (first | (with_reducible first | exact HB.out | apply below_alloc | apply pw_below_drewN | apply below_drew1 | refine below_set ?_ GE109.out) | exact HB.out)) hb); clear HO_5; clear BK109; clear HB; have HO_5 := n0_; have HO119 := n1_; have BK109 := n2_; have HB := n3_; clear n0_ n1_ n2_ n3_; (try clear hb); (try clear hb2); (try clear hk); (try clear hi); (try clear ho0)))
            have n0_ := Aside0.mk (Kd.R_drew HO_5.out)
            have n1_ := Aside0.mk (Kd.R_drew HO119.out)
            have n2_ := Aside0.mk (blk_drew BK109.out)
            have n3_ := Aside0.mk (below_drew1 HB.out)
            clear HO_5
            clear HO119
            clear BK109
            clear HB
            have HO_5 := n0_
            have HO119 := n1_
            have BK109 := n2_
            have HB := n3_
            clear n0_ n1_ n2_ n3_
            obtain ⟨Ao88, co88, eo88⟩ := Kd.R_slice HO_5.out
            (first | subst eo88 | (injection eo88 with f1_ f2_ f3_; have f4_ := f1_.symm; have f5_ := f3_.symm; clear f1_ f2_ f3_; subst f4_; subst f5_))
            refine start_ (n := 9) (S := fun w' => w'.cell? ⟨gb109, 0, none⟩ = some (.string ((rd_T35 l0 x7_1).f0)) ∧ w'.cell? ⟨gb109, 1, none⟩ = some (.int .i64 ((rd_T35 l0 x7_1).f1)) ∧ w'.cell? ⟨gb109, 2, none⟩ = some (.int .i64 ((rd_T35 l0 x7_1).f2)) ∧ w'.cell? ⟨gb109, 3, none⟩ = some (.int .i64 ((rd_T35 l0 x7_1).f3.f0)) ∧ w'.cell? ⟨gb109, 4, none⟩ = some (.int .i64 ((rd_T35 l0 x7_1).f3.f1)) ∧ w'.cell? ⟨gb109, 5, none⟩ = some (.int .i64 ((rd_T35 l0 x7_1).f3.f2)) ∧ w'.cell? ⟨gb109, 6, none⟩ = some (.int .i64 ((rd_T35 l0 x7_1).f3.f3)) ∧ w'.cell? ⟨gb109, 7, none⟩ = some (.int .i64 ((rd_T35 l0 x7_1).f3.f4)) ∧ w'.cell? ⟨gb109, 8, none⟩ = some (.string ((rd_T35 l0 x7_1).f4)) ∧ w'.cell? ⟨gb109, 9, none⟩ = some (.string ((rd_T35 l0 x7_1).f5)) ∧ w'.cell? ⟨gb109, 10, none⟩ = some (.int .i64 ((rd_T35 l0 x7_1).f6))) (ds := []) #[Z_,Z_,Z_,Z_,Z_,Z_,Z_,Z_,Z_] (by kernel_rfl) rfl rfl ⟨(blk_cell BK109.out 0).trans rfl, (blk_cell BK109.out 1).trans rfl, (blk_cell BK109.out 2).trans rfl, (blk_cell BK109.out 3).trans rfl, (blk_cell BK109.out 4).trans rfl, (blk_cell BK109.out 5).trans rfl, (blk_cell BK109.out 6).trans rfl, (blk_cell BK109.out 7).trans rfl, (blk_cell BK109.out 8).trans rfl, (blk_cell BK109.out 9).trans rfl, (blk_cell BK109.out 10).trans rfl⟩ (fun hHeld => ?_); refine with_tabW remoraref20_Bytes.tab16 remoraref20_Bytes.bits16 (fun HT_ HW_ => ?_)
            generalize w86.drew = w87 at HO_5 HO119 BK109 HB hHeld ⊢
            refine pure_ (i := 0) (N := some 56) (v := ?_) (a' := ?_) #[Y_,Z_,Z_,Z_,Z_,Z_,Z_,Z_,Z_] rfl rfl (any_of HT_.out (by kernel_rfl)) (fun _ _ _ h => h) (Or.inl ⟨by rfl, ?_⟩) ?_ ?_
            rotate_left
            ·intro w';go_simp;with_reducible rfl
            rotate_left
            ·simp only [Act.put, nS, i64_w, i32_w];rfl
            refine pure_ (i := 1) (N := some 57) (v := ?_) (a' := ?_) #[Y_,Y_,Z_,Z_,Z_,Z_,Z_,Z_,Z_] rfl rfl (any_of HT_.out (by kernel_rfl)) (fun _ _ _ h => h) (Or.inl ⟨by rfl, ?_⟩) ?_ ?_
            rotate_left
            ·intro w';go_simp;with_reducible rfl
            rotate_left
            ·simp only [Act.put, nS, i64_w, i32_w];rfl
            refine pure_ (i := 3) (N := some 59) (v := ?_) (a' := ?_) #[Y_,Y_,Z_,Y_,Z_,Z_,Z_,Z_,Z_] rfl rfl (any_of HT_.out (by kernel_rfl)) (fun _ _ _ h => h) (Or.inl ⟨by rfl, ?_⟩) ?_ ?_
            rotate_left
            ·intro w';go_simp;with_reducible rfl
            rotate_left
            ·simp only [Act.put, nS, i64_w, i32_w];rfl
            refine pure_ (i := 6) (N := some 62) (v := ?_) (a' := ?_) #[Y_,Y_,Z_,Y_,Z_,Z_,Y_,Z_,Z_] rfl rfl (any_of HT_.out (by kernel_rfl)) (fun _ _ _ h => h) (Or.inl ⟨by rfl, ?_⟩) ?_ ?_
            rotate_left
            ·intro w';go_simp;with_reducible rfl
            rotate_left
            ·simp only [Act.put, nS, i64_w, i32_w];rfl
            refine take_ (i := 4) (N := some 60) (v := ?_) (a' := ?_) #[Y_,Y_,Z_,Y_,Y_,Z_,Y_,Z_,Z_] rfl rfl (take_ofW HT_.out HW_.out (by kernel_rfl)) (fun _ _ _ h => h) (Or.inl ⟨by rfl, ?_⟩) hHeld ?_ ?_
            rotate_left
            ·rintro w' ⟨s0, s1, s2, s3, s4, s5, s6, s7, s8, s9, s10⟩
             go_simp
             with_reducible rfl
            rotate_left
            ·simp only [Act.put, nS, i64_w, i32_w];rfl
            refine one_ (i := 2) (N := some 58) #[Y_,Y_,Y_,Y_,Y_,Z_,Y_,Z_,Z_] rfl rfl (one_of HT_.out (by kernel_rfl)) (by decide) (fun K hK => ?_)
            refine goes_ Tryd.func38 (by kernel_rfl) rfl #[.slice Ao88 t114.length co88, .int .i64 x10_13] (by rfl) rfl rfl (by (try simp only [List.map_toArray, List.map_cons, List.map_nil]); first | done | rfl | (simp only [List.length_drop, List.length_take]; rfl)) ?_
            with_reducible refine (remoraref01_Put.calls kj13 _ _ t114 x10_13 t121 _ ?side1 ?side2 A26.out).mono ?_
            (case side1 => repeat (first | exact (Kd.R_reads' HO_5.out).2.2 | (with_reducible refine Kd.C_alloc ?_ _) | (with_reducible refine Kd.C_drewN ?_ _) | (with_reducible refine Kd.C_drew ?_)))
            (case side2 => exact (Kd.R_reads' HO_5.out).2.1)
            rintro e w89 ⟨v122, rfl, ho0, hb⟩
            refine ⟨_, rfl, ?_⟩
            have n0_ := Aside0.mk (Kd.R_elder' (upR HO_5.out) (Kd.R_base ho0) hb)
            have n1_ := Aside0.mk (Kd.R_elder' (upR HO119.out) (Kd.R_base ho0) hb)
            have n2_ := Aside0.mk (Kd.R_lower (Kd.R_new' (Kd.R_new' ho0 (Kd.R_lt (upR HO_5.out))) (Kd.R_lt (upR HO119.out))) (below_size (by repeat (first | (with_reducible first | exact HB.out | apply below_alloc | apply pw_below_drewN | apply below_drew1 | refine below_set ?_ GE109.out) | exact HB.out))))
            have n3_ := Aside0.mk (blk_below (g := gb109) (o := .cells #[.string ((rd_T35 l0 x7_1).f0), .int .i64 ((rd_T35 l0 x7_1).f1), .int .i64 ((rd_T35 l0 x7_1).f2), .int .i64 ((rd_T35 l0 x7_1).f3.f0), .int .i64 ((rd_T35 l0 x7_1).f3.f1), .int .i64 ((rd_T35 l0 x7_1).f3.f2), .int .i64 ((rd_T35 l0 x7_1).f3.f3), .int .i64 ((rd_T35 l0 x7_1).f3.f4), .string ((rd_T35 l0 x7_1).f4), .string ((rd_T35 l0 x7_1).f5), .int .i64 ((rd_T35 l0 x7_1).f6)] 35 (0, 0)) (upK BK109.out) hb)
            have n4_ := Aside0.mk (below_step (by repeat (first | (with_reducible first | exact HB.out | apply below_alloc | apply pw_below_drewN | apply below_drew1 | refine below_set ?_ GE109.out) | exact HB.out)) hb)
            clear HO_5
            clear HO119
            clear BK109
            clear HB
            have HO_5 := n0_
            have HO119 := n1_
            have HO123 := n2_
            have BK109 := n3_
            have HB := n4_
            clear n0_ n1_ n2_ n3_ n4_
            (try clear hb)
            (try clear hb2)
            (try clear hk)
            (try clear hi)
            (try clear ho0)
            obtain ⟨Ao90, co90, eo90⟩ := Kd.R_slice HO123.out
            (first | subst eo90 | (injection eo90 with f1_ f2_ f3_; have f4_ := f1_.symm; have f5_ := f3_.symm; clear f1_ f2_ f3_; subst f4_; subst f5_))
            refine hK.out _ _ ⟨(blk_cell BK109.out 0).trans rfl, (blk_cell BK109.out 1).trans rfl, (blk_cell BK109.out 2).trans rfl, (blk_cell BK109.out 3).trans rfl, (blk_cell BK109.out 4).trans rfl, (blk_cell BK109.out 5).trans rfl, (blk_cell BK109.out 6).trans rfl, (blk_cell BK109.out 7).trans rfl, (blk_cell BK109.out 8).trans rfl, (blk_cell BK109.out 9).trans rfl, (blk_cell BK109.out 10).trans rfl⟩ (fun hHeld => ?_)
            clear hK K
            refine norm_ (a' := ?_) ?_ ?_
            rotate_left
            ·show Act.put _ (some 58) _ = _
             simp only [Act.put, nS, i64_w, i32_w]
             rfl
            refine one_ (i := 5) (N := some 61) #[Y_,Y_,Y_,Y_,Y_,Y_,Y_,Z_,Z_] rfl rfl (one_of HT_.out (by kernel_rfl)) (by decide) (fun K hK => ?_)
            refine goes_ Tryd.func38 (by kernel_rfl) rfl #[.slice Ao90 t121.length co90, .int .i64 ((rd_T35 l0 x7_1).f2)] (by rfl) rfl rfl (by (try simp only [List.map_toArray, List.map_cons, List.map_nil]); first | done | rfl | (simp only [List.length_drop, List.length_take]; rfl)) ?_
            with_reducible refine (remoraref01_Put.calls kj13 _ _ t121 ((rd_T35 l0 x7_1).f2) t124 _ ?side1 ?side2 A27.out).mono ?_
            (case side1 => repeat (first | exact (Kd.R_reads' HO123.out).2.2 | (with_reducible refine Kd.C_alloc ?_ _) | (with_reducible refine Kd.C_drewN ?_ _) | (with_reducible refine Kd.C_drew ?_)))
            (case side2 => exact (Kd.R_reads' HO123.out).2.1)
            rintro e w91 ⟨v125, rfl, ho0, hb⟩
            refine ⟨_, rfl, ?_⟩
            have n0_ := Aside0.mk (Kd.R_elder' (upR HO_5.out) (Kd.R_base ho0) hb)
            have n1_ := Aside0.mk (Kd.R_elder' (upR HO119.out) (Kd.R_base ho0) hb)
            have n2_ := Aside0.mk (Kd.R_elder' (upR HO123.out) (Kd.R_base ho0) hb)
            have n3_ := Aside0.mk (Kd.R_lower (Kd.R_new' (Kd.R_new' (Kd.R_new' ho0 (Kd.R_lt (upR HO_5.out))) (Kd.R_lt (upR HO119.out))) (Kd.R_lt (upR HO123.out))) (below_size (by repeat (first | (with_reducible first | exact HB.out | apply below_alloc | apply pw_below_drewN | apply below_drew1 | refine below_set ?_ GE109.out) | exact HB.out))))
            have n4_ := Aside0.mk (blk_below (g := gb109) (o := .cells #[.string ((rd_T35 l0 x7_1).f0), .int .i64 ((rd_T35 l0 x7_1).f1), .int .i64 ((rd_T35 l0 x7_1).f2), .int .i64 ((rd_T35 l0 x7_1).f3.f0), .int .i64 ((rd_T35 l0 x7_1).f3.f1), .int .i64 ((rd_T35 l0 x7_1).f3.f2), .int .i64 ((rd_T35 l0 x7_1).f3.f3), .int .i64 ((rd_T35 l0 x7_1).f3.f4), .string ((rd_T35 l0 x7_1).f4), .string ((rd_T35 l0 x7_1).f5), .int .i64 ((rd_T35 l0 x7_1).f6)] 35 (0, 0)) (upK BK109.out) hb)
            have n5_ := Aside0.mk (below_step (by repeat (first | (with_reducible first | exact HB.out | apply below_alloc | apply pw_below_drewN | apply below_drew1 | refine below_set ?_ GE109.out) | exact HB.out)) hb)
            clear HO_5
            clear HO119
            clear HO123
            clear BK109
            clear HB
            have HO_5 := n0_
            have HO119 := n1_
            have HO123 := n2_
            have HO126 := n3_
            have BK109 := n4_
            have HB := n5_
            clear n0_ n1_ n2_ n3_ n4_ n5_
            (try clear hb)
            (try clear hb2)
            (try clear hk)
            (try clear hi)
            (try clear ho0)
            obtain ⟨Ao93, co93, eo93⟩ := Kd.R_slice HO119.out
            (first | subst eo93 | (injection eo93 with f1_ f2_ f3_; have f4_ := f1_.symm; have f5_ := f3_.symm; clear f1_ f2_ f3_; subst f4_; subst f5_))
            refine hK.out _ _ ⟨(blk_cell BK109.out 0).trans rfl, (blk_cell BK109.out 1).trans rfl, (blk_cell BK109.out 2).trans rfl, (blk_cell BK109.out 3).trans rfl, (blk_cell BK109.out 4).trans rfl, (blk_cell BK109.out 5).trans rfl, (blk_cell BK109.out 6).trans rfl, (blk_cell BK109.out 7).trans rfl, (blk_cell BK109.out 8).trans rfl, (blk_cell BK109.out 9).trans rfl, (blk_cell BK109.out 10).trans rfl⟩ (fun hHeld => ?_)
            clear hK K
            refine norm_ (a' := ?_) ?_ ?_
            rotate_left
            ·show Act.put _ (some 61) _ = _
             simp only [Act.put, nS, i64_w, i32_w]
             rfl
            refine one_ (i := 7) (N := some 63) #[Y_,Y_,Y_,Y_,Y_,Y_,Y_,Y_,Z_] rfl rfl (one_of HT_.out (by kernel_rfl)) (by decide) (fun K hK => ?_)
            refine Kd.R_append_rows_step (Kd.int .u8) (w0 := w) w.heap.size (by rfl) (.tmp 61) (.tmp 62) 27 5 (.int .u8 0) 1 rfl Tryd.underlying27 info5 rfl (by decide) (by omega) v125 t124 t117 _ _ _ (fun k_ => some k_ ≠ (.slice Ao88 t114.length co88 : Value).ownBlock ∧ some k_ ≠ (.slice Ao93 t117.length co93 : Value).ownBlock ∧ some k_ ≠ (.slice Ao90 t121.length co90 : Value).ownBlock) (fun _ => False) rfl rfl ?aO ?aR (fun _ _ h => h) (fun _ h => h.elim) ?aF ?aB ?aS ?aL ?_
            (case aR => repeat (first | exact (Kd.R_reads' HO119.out).2.2 | (with_reducible refine Kd.C_alloc ?_ _) | (with_reducible refine Kd.C_drewN ?_ _) | (with_reducible refine Kd.C_drew ?_)))
            (case aB => exact (by repeat (first | (with_reducible first | exact HB.out | apply below_alloc | apply pw_below_drewN | apply below_drew1 | refine below_set ?_ GE109.out) | exact HB.out)))
            (case aF => exact (fun k_ hk => ⟨Kd.fresh' (Kd.R_lt (upR HO_5.out)) k_ hk, Kd.fresh' (Kd.R_lt (upR HO119.out)) k_ hk, Kd.fresh' (Kd.R_lt (upR HO123.out)) k_ hk⟩))
            (case aO => exact (upR (Kd.R_mono HO126.out (fun _ hk => ⟨hk.1.1.2, ⟨hk.1.2, hk.2⟩⟩))))
            (case aS => exact (below_size (by repeat (first | (with_reducible first | exact HB.out | apply below_alloc | apply pw_below_drewN | apply below_drew1 | refine below_set ?_ GE109.out) | exact HB.out))))
            (case aL => have := LMc28.out; omega)
            intro v128 w92 ho hb hg hat
            rw [← Ny127.out] at ho
            have n0_ := Aside0.mk (Kd.R_after (ok := (fun k_ => some k_ ≠ (.slice Ao93 t117.length co93 : Value).ownBlock ∧ some k_ ≠ (.slice Ao90 t121.length co90 : Value).ownBlock)) (upR (Kd.R_mono HO_5.out (fun _ hk => ⟨⟨hk.1.1.2, hk.1.2⟩, hk.2⟩))) hg hat)
            have n1_ := Aside0.mk (blk_grown (g := gb109) (o := .cells #[.string ((rd_T35 l0 x7_1).f0), .int .i64 ((rd_T35 l0 x7_1).f1), .int .i64 ((rd_T35 l0 x7_1).f2), .int .i64 ((rd_T35 l0 x7_1).f3.f0), .int .i64 ((rd_T35 l0 x7_1).f3.f1), .int .i64 ((rd_T35 l0 x7_1).f3.f2), .int .i64 ((rd_T35 l0 x7_1).f3.f3), .int .i64 ((rd_T35 l0 x7_1).f3.f4), .string ((rd_T35 l0 x7_1).f4), .string ((rd_T35 l0 x7_1).f5), .int .i64 ((rd_T35 l0 x7_1).f6)] 35 (0, 0)) (upK BK109.out) hg (Kd.R_ne HO126.out BK109.out (by decide)))
            have n2_ := Aside0.mk (Kd.R_after (ok := (fun k_ => some k_ ≠ (.slice Ao88 t114.length co88 : Value).ownBlock ∧ some k_ ≠ (.slice Ao90 t121.length co90 : Value).ownBlock)) (upR (Kd.R_mono HO119.out (fun _ hk => ⟨⟨hk.1.1.2, hk.1.2⟩, hk.2⟩))) hg hat)
            have n3_ := Aside0.mk (Kd.R_after (ok := (fun k_ => some k_ ≠ (.slice Ao88 t114.length co88 : Value).ownBlock ∧ some k_ ≠ (.slice Ao93 t117.length co93 : Value).ownBlock)) (upR (Kd.R_mono HO123.out (fun _ hk => ⟨⟨hk.1.1.2, hk.1.2⟩, hk.2⟩))) hg hat)
            have n4_ := Aside0.mk (hb)
            have n5_ := Aside0.mk (ho)
            clear HO_5
            clear BK109
            clear HO119
            clear HO123
            clear HB
            clear HO126
            have HO_5 := n0_
            have BK109 := n1_
            have HO119 := n2_
            have HO123 := n3_
            have HB := n4_
            have HO129 := n5_
            clear n0_ n1_ n2_ n3_ n4_ n5_
            clear ho hb hg hat
            refine hK.out _ _ ⟨(blk_cell BK109.out 0).trans rfl, (blk_cell BK109.out 1).trans rfl, (blk_cell BK109.out 2).trans rfl, (blk_cell BK109.out 3).trans rfl, (blk_cell BK109.out 4).trans rfl, (blk_cell BK109.out 5).trans rfl, (blk_cell BK109.out 6).trans rfl, (blk_cell BK109.out 7).trans rfl, (blk_cell BK109.out 8).trans rfl, (blk_cell BK109.out 9).trans rfl, (blk_cell BK109.out 10).trans rfl⟩ (fun hHeld => ?_)
            clear hK K
            refine norm_ (a' := ?_) ?_ ?_
            rotate_left
            ·show Act.put _ (some 63) _ = _
             simp only [Act.put, nS, i64_w, i32_w]
             rfl
            refine pure_ (i := 8) (N := some 5) (v := ?_) (a' := ?_) #[Y_,Y_,Y_,Y_,Y_,Y_,Y_,Y_,Y_] rfl rfl (any_of HT_.out (by kernel_rfl)) (fun _ _ _ h => h) (Or.inl ⟨by rfl, ?_⟩) ?_ ?_
            rotate_left
            ·intro w';go_simp;with_reducible rfl
            rotate_left
            ·simp only [Act.put, nS, i64_w, i32_w];rfl
            refine done_ (done_of HT_.out (by kernel_rfl)) ?_
            obtain ⟨hcz94_0, hcz94_1, hcz94_2, hcz94_3, hcz94_4, hcz94_5, hcz94_6, hcz94_7, hcz94_8, hcz94_9, hcz94_10⟩ := blkc11 BK109.out
            obtain ⟨hfz94_0, hfz94_1, hfz94_2, hfz94_3, hfz94_4, hfz94_5, hfz94_6, hfz94_7, hfz94_8, hfz94_9, hfz94_10⟩ := blkf11 BK109.out
            try go_wp2_with (first | (at_builtin; refine print_append_str (w0 := w) w.heap.size rfl (.tmp 71) _ 27 9 5 rfl Tryd.underlying27 Tryd.underlying9 info5 v128 y127 ((rd_T35 l0 x7_1).f5) rfl rfl ?aO ?aB ?aS ?aL ?_; (case aB => exact (by repeat (first | (with_reducible first | exact HB.out | apply below_alloc | apply pw_below_drewN | apply below_drew1 | refine below_set ?_ GE109.out) | exact HB.out))); (case aO => exact (Kd.own_of_R (upR (Kd.R_mono HO129.out (fun _ hk => trivial))))); (case aS => exact (below_size (by repeat (first | (with_reducible first | exact HB.out | apply below_alloc | apply pw_below_drewN | apply below_drew1 | refine below_set ?_ GE109.out) | exact HB.out)))); (case aL => have := LMc67.out; omega); intro v140 w95 ho0 hb hg; have ho := Kd.R_of_own (h1 := fun _ => rfl) (ok := fun _ => True) ho0 (fun _ _ => trivial); clear ho0; have hat := True.intro; rw [← Ny139.out] at ho; change Kd.R (Kd.int .u8) 5 w95 w.heap.size (fun _ => True) v140 y139 at ho; have n0_ := Aside0.mk (blk_grown (g := gb109) (o := .cells #[.string ((rd_T35 l0 x7_1).f0), .int .i64 ((rd_T35 l0 x7_1).f1), .int .i64 ((rd_T35 l0 x7_1).f2), .int .i64 ((rd_T35 l0 x7_1).f3.f0), .int .i64 ((rd_T35 l0 x7_1).f3.f1), .int .i64 ((rd_T35 l0 x7_1).f3.f2), .int .i64 ((rd_T35 l0 x7_1).f3.f3), .int .i64 ((rd_T35 l0 x7_1).f3.f4), .string ((rd_T35 l0 x7_1).f4), .string ((rd_T35 l0 x7_1).f5), .int .i64 ((rd_T35 l0 x7_1).f6)] 35 (0, 0)) (upK BK109.out) hg (Kd.R_ne HO129.out BK109.out (by decide))); have n1_ := Aside0.mk (hb); have n2_ := Aside0.mk (ho); clear BK109; clear HB; clear HO129; have BK109 := n0_; have HB := n1_; have HO141 := n2_; clear n0_ n1_ n2_; clear ho hb hg hat; have hcz96_0 : w95.cell? ⟨gb109, 0, none⟩ = some (.string ((rd_T35 l0 x7_1).f0)) := (blk_cell BK109.out 0).trans rfl; have hcz96_1 : w95.cell? ⟨gb109, 1, none⟩ = some (.int .i64 ((rd_T35 l0 x7_1).f1)) := (blk_cell BK109.out 1).trans rfl; have hcz96_2 : w95.cell? ⟨gb109, 2, none⟩ = some (.int .i64 ((rd_T35 l0 x7_1).f2)) := (blk_cell BK109.out 2).trans rfl; have hcz96_3 : w95.cell? ⟨gb109, 3, none⟩ = some (.int .i64 ((rd_T35 l0 x7_1).f3.f0)) := (blk_cell BK109.out 3).trans rfl; have hcz96_4 : w95.cell? ⟨gb109, 4, none⟩ = some (.int .i64 ((rd_T35 l0 x7_1).f3.f1)) := (blk_cell BK109.out 4).trans rfl; have hcz96_5 : w95.cell? ⟨gb109, 5, none⟩ = some (.int .i64 ((rd_T35 l0 x7_1).f3.f2)) := (blk_cell BK109.out 5).trans rfl; have hcz96_6 : w95.cell? ⟨gb109, 6, none⟩ = some (.int .i64 ((rd_T35 l0 x7_1).f3.f3)) := (blk_cell BK109.out 6).trans rfl; have hcz96_7 : w95.cell? ⟨gb109, 7, none⟩ = some (.int .i64 ((rd_T35 l0 x7_1).f3.f4)) := (blk_cell BK109.out 7).trans rfl; have hcz96_8 : w95.cell? ⟨gb109, 8, none⟩ = some (.string ((rd_T35 l0 x7_1).f4)) := (blk_cell BK109.out 8).trans rfl; have hcz96_9 : w95.cell? ⟨gb109, 9, none⟩ = some (.string ((rd_T35 l0 x7_1).f5)) := (blk_cell BK109.out 9).trans rfl; have hcz96_10 : w95.cell? ⟨gb109, 10, none⟩ = some (.int .i64 ((rd_T35 l0 x7_1).f6)) := (blk_cell BK109.out 10).trans rfl; have hfz96_0 := blk_frozen BK109.out 0; have hfz96_1 := blk_frozen BK109.out 1; have hfz96_2 := blk_frozen BK109.out 2; have hfz96_3 := blk_frozen BK109.out 3; have hfz96_4 := blk_frozen BK109.out 4; have hfz96_5 := blk_frozen BK109.out 5; have hfz96_6 := blk_frozen BK109.out 6; have hfz96_7 := blk_frozen BK109.out 7; have hfz96_8 := blk_frozen BK109.out 8; have hfz96_9 := blk_frozen BK109.out 9; have hfz96_10 := blk_frozen BK109.out 10))
            go_roundg kj13
            case measure => have := HK1.out; have := HJ13.out; omega
            case rel => exact ⟨(y139), (((rd_T35 l0 x7_1).f0)), (wrap64 (x7_1 + 1)), (by first | rfl | (simp; done) | (simp [*]; done)), (by first | rfl | (simp; done) | (simp [*]; done)), H', ⟨by have := HK1.out; have := HJ13.out; omega⟩, ⟨upR HO141.out⟩, ⟨by repeat (first | (with_reducible first | exact HB.out | apply below_alloc | apply pw_below_drewN | apply below_drew1 | refine below_set ?_ GE109.out) | exact HB.out)⟩⟩
           rw [if_neg c67] at H
           exact absurd H (by simp)
          rw [if_neg c28] at H
          exact absurd H (by simp)
       rw [if_neg c12] at H
       exact absurd H (by simp)
      rw [if_neg c11] at H
      exact absurd H (by simp)
     rw [if_neg c8] at H
     exact absurd H (by simp)
    rw [if_neg c7] at H
    have c7b0 : decide (x7_1 < (l0.length : Int)) = false := decide_eq_false c7
    clear c7
    replace H := Option.bind_eq_some_iff.mp H
    obtain ⟨t105, A970, H⟩ := H
    replace H : (some (t105, 0)) = some (r1, r2) := H
    have A97 := Aside0.mk A970
    clear A970
    simp only [Option.some.injEq, Prod.mk.injEq] at H
    obtain ⟨rfl, rfl⟩ := H
    obtain ⟨Ao98, co98, eo98⟩ := Kd.R_slice HO_5.out
    subst eo98
    go_wp2_with (first | ((with_reducible refine gate_callee (f := 19) rfl ?_); refine goesL_ (some 85) rfl rfl Tryd.func19 (by kernel_rfl) rfl #[.slice Ao98 x5_1.length co98] rfl (by (try simp only [List.map_toArray, List.map_cons, List.map_nil]); first | done | rfl | (simp only [List.length_drop, List.length_take]; rfl)) ?_; (with_reducible refine (remoraref02_Seal.calls k1 (fun k_ => some k_ = (.slice Ao98 x5_1.length co98 : Value).ownBlock) _ _ x5_1 t105 _ ?side1 A97.out).mono ?_); (case side1 => exact Kd.R_V (Kd.R_tight rfl (HO_5.out))); rintro e w99 ⟨v106, rfl, ho0, hb⟩; refine ⟨_, rfl, ?_⟩; have n0_ := Aside0.mk (Kd.R_elder' (upR HO_5.out) (Kd.R_base ho0) hb); have n1_ := Aside0.mk (Kd.R_lower (Kd.R_new' (Kd.R_mono (ok' := fun k_ => True) ho0 (fun _ hk_ => trivial)) (Kd.R_lt (upR HO_5.out))) (below_size (upB HB.out))); have n2_ := Aside0.mk (below_step (upB HB.out) hb); clear HO_5; clear HB; have HO_5 := n0_; have HO107 := n1_; have HB := n2_; clear n0_ n1_ n2_; (try clear hb); (try clear hb2); (try clear hk); (try clear hi); (try clear ho0)))
    go_ret2
    exact ⟨_, by first | rfl | (simp [errW_none, errW_some] <;> rfl) | (simp [*, errW_none, errW_some] <;> rfl), by (with_reducible repeat (first | apply Kd.R_alloc | apply Kd.R_drewN | apply Kd.R_drew)); exact Kd.R_mono HO107.out (fun _ hk => trivial), upB HB.out⟩
 rw [if_neg c3] at H
 have c3b0 : (t101 == 0) = false := beq_eq_false_iff_ne.mpr c3
 have c3b1 : (t101 != 0) = true := bne_iff_ne.mpr c3
 simp only [Option.some.injEq, Prod.mk.injEq] at H
 obtain ⟨rfl, rfl⟩ := H
 go_enter Tryd.func15, Tryd.ntmps15
 go_wp2_with (first | ((with_reducible refine gate_callee (f := 13) rfl ?_); refine goesL_ (some 14) rfl rfl Tryd.func13 (by kernel_rfl) rfl #[.slice A0 l0.length c0] rfl (by (try simp only [List.map_toArray, List.map_cons, List.map_nil]); first | done | rfl | (simp only [List.length_drop, List.length_take]; rfl)) ?_; (with_reducible refine (remoraref20_Check.calls k _ _ l0 t101 _ ?side1 ?side2 A2.out).mono ?_); (case side1 => repeat (first | exact HR0.out | (with_reducible refine Kd.C_alloc ?_ _) | (with_reducible refine Kd.C_drewN ?_ _) | (with_reducible refine Kd.C_drew ?_))); (case side2 => exact HC0.out); rintro e w100 ⟨rfl, hb⟩; refine ⟨_, rfl, ?_⟩; have n0_ := Aside0.mk (below_step (upB HB.out) hb); clear HB; have HB := n0_; clear n0_; (try clear hb); (try clear hb2); (try clear hk); (try clear hi)))
 go_ret2
 exact ⟨_, by first | rfl | (simp [errW_none, errW_some] <;> rfl) | (simp [*, errW_none, errW_some] <;> rfl), by first | exact Kd.R_nil _ _ _ _ _ | exact Kd.N_nil _ _ _ _ _ | exact Kd.V_nil _ _ _ _ _ | exact Kd.Q_nil _ _ _ _ _ | exact Kd.S_nil _ _ _ _ _, upB HB.out⟩
set_option linter.unusedVariables false
set_option linter.unusedSimpArgs false
def remoralaw20_FlistBytes.f (k : Nat) (l0 : List (S35)) : Option (Bool) := (remoraref20_Small.f k l0).bind fun t101 => (if t101 = true then ((flist_Bytes.f k l0).bind fun bt102 => ((remoraref20_Bytes.f k l0).bind fun bt106 => (if (strOfNums bt102.1).toList = (strOfNums bt106.1).toList then (if bt102.2 = bt106.2 then ((remoralaw20_awake.f k).bind fun t110 => (some t110)) else (some false)) else (some false)))) else ((remoralaw20_awake.f k).bind fun t111 => (some t111)))
set_option maxHeartbeats 8000000 in
set_option maxRecDepth 100000 in
theorem remoralaw20_FlistBytes.calls (k : Nat) (A0 : Option Addr) (c0 : Nat) (l0 : List (S35)) (r : Bool) (w : World) (hr0 : Kd.C k35 w A0 l0.length l0) (hc0 : l0.length ≤ c0) (h : remoralaw20_FlistBytes.f k l0 = some r) (hT_ : TabW w) :
  Calls Tryd.prog 4 #[.slice A0 l0.length c0] w fun e w' => e = .returned (.bool r) ∧ Below w.heap.size w w' := by
 have HR0 := Aside0.mk hr0
 have HC0 := Aside0.mk hc0
 clear hr0 hc0
 have HT := Aside0.mk hT_
 clear hT_
 have HB := Aside0.mk (Below.refl w.heap.size w)
 have H : ((remoraref20_Small.f k l0).bind fun t101 => (if t101 = true then ((flist_Bytes.f k l0).bind fun bt102 => ((remoraref20_Bytes.f k l0).bind fun bt106 => (if (strOfNums bt102.1).toList = (strOfNums bt106.1).toList then (if bt102.2 = bt106.2 then ((remoralaw20_awake.f k).bind fun t110 => (some t110)) else (some false)) else (some false)))) else ((remoralaw20_awake.f k).bind fun t111 => (some t111)))) = some r := h
 clear h
 replace H := Option.bind_eq_some_iff.mp H
 obtain ⟨t101, A20, H⟩ := H
 replace H : (if t101 = true then ((flist_Bytes.f k l0).bind fun bt102 => ((remoraref20_Bytes.f k l0).bind fun bt106 => (if (strOfNums bt102.1).toList = (strOfNums bt106.1).toList then (if bt102.2 = bt106.2 then ((remoralaw20_awake.f k).bind fun t110 => (some t110)) else (some false)) else (some false)))) else ((remoralaw20_awake.f k).bind fun t111 => (some t111))) = some r := H
 have A2 := Aside0.mk A20
 clear A20
 by_cases c3 : t101 = true
 ·subst c3
  have H1 : ((flist_Bytes.f k l0).bind fun bt102 => ((remoraref20_Bytes.f k l0).bind fun bt106 => (if (strOfNums bt102.1).toList = (strOfNums bt106.1).toList then (if bt102.2 = bt106.2 then ((remoralaw20_awake.f k).bind fun t110 => (some t110)) else (some false)) else (some false)))) = some r := by rw [if_pos rfl] at H; exact H
  clear H
  have H := H1
  clear H1
  replace H := Option.bind_eq_some_iff.mp H
  obtain ⟨⟨t102, t103⟩, A40, H⟩ := H
  replace H : ((remoraref20_Bytes.f k l0).bind fun bt106 => (if (strOfNums t102).toList = (strOfNums bt106.1).toList then (if t103 = bt106.2 then ((remoralaw20_awake.f k).bind fun t110 => (some t110)) else (some false)) else (some false))) = some r := H
  have A4 := Aside0.mk A40
  clear A40
  replace H := Option.bind_eq_some_iff.mp H
  obtain ⟨⟨t106, t107⟩, A50, H⟩ := H
  replace H : (if (strOfNums t102).toList = (strOfNums t106).toList then (if t103 = t107 then ((remoralaw20_awake.f k).bind fun t110 => (some t110)) else (some false)) else (some false)) = some r := H
  have A5 := Aside0.mk A50
  clear A50
  by_cases c6 : (strOfNums t102).toList = (strOfNums t106).toList
  ·rw [if_pos c6] at H
   have c6b0 : ((strOfNums t102).toList == (strOfNums t106).toList) = true := beq_iff_eq.mpr c6
   have c6b1 : ((strOfNums t102).toList != (strOfNums t106).toList) = false := bne_eq_false_iff_eq.mpr c6
   clear c6
   by_cases c7 : t103 = t107
   ·rw [if_pos c7] at H
    have c7b0 : (t103 == t107) = true := beq_iff_eq.mpr c7
    have c7b1 : (t103 != t107) = false := bne_eq_false_iff_eq.mpr c7
    clear c7
    replace H := Option.bind_eq_some_iff.mp H
    obtain ⟨t110, A80, H⟩ := H
    replace H : (some t110) = some r := H
    have A8 := Aside0.mk A80
    clear A80
    obtain rfl := Option.some.inj H
    go_enter Tryd.func4, Tryd.ntmps4
    go_wp2_with (first | ((with_reducible refine gate_callee (f := 10) rfl ?_); refine goesL_ (some 8) rfl rfl Tryd.func10 (by kernel_rfl) rfl #[.slice A0 l0.length c0] rfl (by (try simp only [List.map_toArray, List.map_cons, List.map_nil]); first | done | rfl | (simp only [List.length_drop, List.length_take]; rfl)) ?_; (with_reducible refine (remoraref20_Small.calls k _ _ l0 true _ ?side1 ?side2 A2.out).mono ?_); (case side1 => repeat (first | exact HR0.out | (with_reducible refine Kd.C_alloc ?_ _) | (with_reducible refine Kd.C_drewN ?_ _) | (with_reducible refine Kd.C_drew ?_))); (case side2 => exact HC0.out); rintro e w' ⟨rfl, ⟨nd, rfl⟩⟩; refine ⟨_, rfl, ?_⟩) | ((with_reducible refine gate_callee (f := 14) rfl ?_); refine goesL_ (some 13) rfl rfl Tryd.func14 (by kernel_rfl) rfl #[.slice A0 l0.length c0] rfl (by (try simp only [List.map_toArray, List.map_cons, List.map_nil]); first | done | rfl | (simp only [List.length_drop, List.length_take]; rfl)) ?_; (with_reducible refine (flist_Bytes.calls k _ _ l0 t102 t103 _ ?side1 ?side2 A4.out ?sideT).mono ?_); (case sideT => exact HT.out.step (upB HB.out)); (case side1 => repeat (first | exact HR0.out | (with_reducible refine Kd.C_alloc ?_ _) | (with_reducible refine Kd.C_drewN ?_ _) | (with_reducible refine Kd.C_drew ?_))); (case side2 => exact HC0.out); rintro e w9 ⟨v104, rfl, ho0, hb⟩; refine ⟨_, rfl, ?_⟩; have n0_ := Aside0.mk (Kd.R_lower ho0 (below_size (upB HB.out))); have n1_ := Aside0.mk (below_step (upB HB.out) hb); clear HB; have HO105 := n0_; have HB := n1_; clear n0_ n1_; (try clear hb); (try clear hb2); (try clear hk); (try clear hi); (try clear ho0)) | ((with_reducible refine gate_callee (f := 15) rfl ?_); refine goesL_ (some 18) rfl rfl Tryd.func15 (by kernel_rfl) rfl #[.slice A0 l0.length c0] rfl (by (try simp only [List.map_toArray, List.map_cons, List.map_nil]); first | done | rfl | (simp only [List.length_drop, List.length_take]; rfl)) ?_; (with_reducible refine (remoraref20_Bytes.calls k _ _ l0 t106 t107 _ ?side1 ?side2 A5.out).mono ?_); (case side1 => repeat (first | exact (Kd.C_below HR0.out HB.out) | (with_reducible refine Kd.C_alloc ?_ _) | (with_reducible refine Kd.C_drewN ?_ _) | (with_reducible refine Kd.C_drew ?_))); (case side2 => exact HC0.out); rintro e w10 ⟨v108, rfl, ho0, hb⟩; refine ⟨_, rfl, ?_⟩; have n0_ := Aside0.mk (Kd.R_elder' (upR HO105.out) (Kd.R_base ho0) hb); have n1_ := Aside0.mk (Kd.R_lower (Kd.R_new' ho0 (Kd.R_lt (upR HO105.out))) (below_size (upB HB.out))); have n2_ := Aside0.mk (below_step (upB HB.out) hb); clear HO105; clear HB; have HO105 := n0_; have HO109 := n1_; have HB := n2_; clear n0_ n1_ n2_; (try clear hb); (try clear hb2); (try clear hk); (try clear hi); (try clear ho0); have hcv11 := own_string (P := Tryd.prog) Tryd.underlying27 Tryd.underlying5 Tryd.underlying9 (Kd.own_of_R HO105.out); have hcv12 := own_string (P := Tryd.prog) Tryd.underlying27 Tryd.underlying5 Tryd.underlying9 (Kd.own_of_R HO109.out)) | (go_at_call 11; (with_reducible refine (remoralaw20_awake.calls k  t110 _ A8.out ?sideT).mono ?_); (case sideT => exact HT.out.step (upB HB.out)); rintro e w13 ⟨rfl, hb⟩; have n0_ := Aside0.mk (Kd.R_below (upR HO105.out) hb); have n1_ := Aside0.mk (Kd.R_below (upR HO109.out) hb); have n2_ := Aside0.mk (below_step (upB HB.out) hb); clear HO105; clear HO109; clear HB; have HO105 := n0_; have HO109 := n1_; have HB := n2_; clear n0_ n1_ n2_; (try clear hb); (try clear hb2); (try clear hk); (try clear hi)))
    go_ret
    exact ⟨by first | rfl | (simp [errW_none, errW_some] <;> rfl) | (simp [*, errW_none, errW_some] <;> rfl), upB HB.out⟩
   rw [if_neg c7] at H
   have c7b0 : (t103 == t107) = false := beq_eq_false_iff_ne.mpr c7
   have c7b1 : (t103 != t107) = true := bne_iff_ne.mpr c7
   obtain rfl := Option.some.inj H
   go_enter Tryd.func4, Tryd.ntmps4
   go_wp2_with (first | ((with_reducible refine gate_callee (f := 10) rfl ?_); refine goesL_ (some 8) rfl rfl Tryd.func10 (by kernel_rfl) rfl #[.slice A0 l0.length c0] rfl (by (try simp only [List.map_toArray, List.map_cons, List.map_nil]); first | done | rfl | (simp only [List.length_drop, List.length_take]; rfl)) ?_; (with_reducible refine (remoraref20_Small.calls k _ _ l0 true _ ?side1 ?side2 A2.out).mono ?_); (case side1 => repeat (first | exact HR0.out | (with_reducible refine Kd.C_alloc ?_ _) | (with_reducible refine Kd.C_drewN ?_ _) | (with_reducible refine Kd.C_drew ?_))); (case side2 => exact HC0.out); rintro e w' ⟨rfl, ⟨nd, rfl⟩⟩; refine ⟨_, rfl, ?_⟩) | ((with_reducible refine gate_callee (f := 14) rfl ?_); refine goesL_ (some 13) rfl rfl Tryd.func14 (by kernel_rfl) rfl #[.slice A0 l0.length c0] rfl (by (try simp only [List.map_toArray, List.map_cons, List.map_nil]); first | done | rfl | (simp only [List.length_drop, List.length_take]; rfl)) ?_; (with_reducible refine (flist_Bytes.calls k _ _ l0 t102 t103 _ ?side1 ?side2 A4.out ?sideT).mono ?_); (case sideT => exact HT.out.step (upB HB.out)); (case side1 => repeat (first | exact HR0.out | (with_reducible refine Kd.C_alloc ?_ _) | (with_reducible refine Kd.C_drewN ?_ _) | (with_reducible refine Kd.C_drew ?_))); (case side2 => exact HC0.out); rintro e w14 ⟨v104, rfl, ho0, hb⟩; refine ⟨_, rfl, ?_⟩; have n0_ := Aside0.mk (Kd.R_lower ho0 (below_size (upB HB.out))); have n1_ := Aside0.mk (below_step (upB HB.out) hb); clear HB; have HO105 := n0_; have HB := n1_; clear n0_ n1_; (try clear hb); (try clear hb2); (try clear hk); (try clear hi); (try clear ho0)) | ((with_reducible refine gate_callee (f := 15) rfl ?_); refine goesL_ (some 18) rfl rfl Tryd.func15 (by kernel_rfl) rfl #[.slice A0 l0.length c0] rfl (by (try simp only [List.map_toArray, List.map_cons, List.map_nil]); first | done | rfl | (simp only [List.length_drop, List.length_take]; rfl)) ?_; (with_reducible refine (remoraref20_Bytes.calls k _ _ l0 t106 t107 _ ?side1 ?side2 A5.out).mono ?_); (case side1 => repeat (first | exact (Kd.C_below HR0.out HB.out) | (with_reducible refine Kd.C_alloc ?_ _) | (with_reducible refine Kd.C_drewN ?_ _) | (with_reducible refine Kd.C_drew ?_))); (case side2 => exact HC0.out); rintro e w15 ⟨v108, rfl, ho0, hb⟩; refine ⟨_, rfl, ?_⟩; have n0_ := Aside0.mk (Kd.R_elder' (upR HO105.out) (Kd.R_base ho0) hb); have n1_ := Aside0.mk (Kd.R_lower (Kd.R_new' ho0 (Kd.R_lt (upR HO105.out))) (below_size (upB HB.out))); have n2_ := Aside0.mk (below_step (upB HB.out) hb); clear HO105; clear HB; have HO105 := n0_; have HO109 := n1_; have HB := n2_; clear n0_ n1_ n2_; (try clear hb); (try clear hb2); (try clear hk); (try clear hi); (try clear ho0); have hcv16 := own_string (P := Tryd.prog) Tryd.underlying27 Tryd.underlying5 Tryd.underlying9 (Kd.own_of_R HO105.out); have hcv17 := own_string (P := Tryd.prog) Tryd.underlying27 Tryd.underlying5 Tryd.underlying9 (Kd.own_of_R HO109.out)))
   go_ret
   exact ⟨by first | rfl | (simp [errW_none, errW_some] <;> rfl) | (simp [*, errW_none, errW_some] <;> rfl), upB HB.out⟩
  rw [if_neg c6] at H
  have c6b0 : ((strOfNums t102).toList == (strOfNums t106).toList) = false := beq_eq_false_iff_ne.mpr c6
  have c6b1 : ((strOfNums t102).toList != (strOfNums t106).toList) = true := bne_iff_ne.mpr c6
  obtain rfl := Option.some.inj H
  go_enter Tryd.func4, Tryd.ntmps4
  go_wp2_with (first | ((with_reducible refine gate_callee (f := 10) rfl ?_); refine goesL_ (some 8) rfl rfl Tryd.func10 (by kernel_rfl) rfl #[.slice A0 l0.length c0] rfl (by (try simp only [List.map_toArray, List.map_cons, List.map_nil]); first | done | rfl | (simp only [List.length_drop, List.length_take]; rfl)) ?_; (with_reducible refine (remoraref20_Small.calls k _ _ l0 true _ ?side1 ?side2 A2.out).mono ?_); (case side1 => repeat (first | exact HR0.out | (with_reducible refine Kd.C_alloc ?_ _) | (with_reducible refine Kd.C_drewN ?_ _) | (with_reducible refine Kd.C_drew ?_))); (case side2 => exact HC0.out); rintro e w' ⟨rfl, ⟨nd, rfl⟩⟩; refine ⟨_, rfl, ?_⟩) | ((with_reducible refine gate_callee (f := 14) rfl ?_); refine goesL_ (some 13) rfl rfl Tryd.func14 (by kernel_rfl) rfl #[.slice A0 l0.length c0] rfl (by (try simp only [List.map_toArray, List.map_cons, List.map_nil]); first | done | rfl | (simp only [List.length_drop, List.length_take]; rfl)) ?_; (with_reducible refine (flist_Bytes.calls k _ _ l0 t102 t103 _ ?side1 ?side2 A4.out ?sideT).mono ?_); (case sideT => exact HT.out.step (upB HB.out)); (case side1 => repeat (first | exact HR0.out | (with_reducible refine Kd.C_alloc ?_ _) | (with_reducible refine Kd.C_drewN ?_ _) | (with_reducible refine Kd.C_drew ?_))); (case side2 => exact HC0.out); rintro e w18 ⟨v104, rfl, ho0, hb⟩; refine ⟨_, rfl, ?_⟩; have n0_ := Aside0.mk (Kd.R_lower ho0 (below_size (upB HB.out))); have n1_ := Aside0.mk (below_step (upB HB.out) hb); clear HB; have HO105 := n0_; have HB := n1_; clear n0_ n1_; (try clear hb); (try clear hb2); (try clear hk); (try clear hi); (try clear ho0)) | ((with_reducible refine gate_callee (f := 15) rfl ?_); refine goesL_ (some 18) rfl rfl Tryd.func15 (by kernel_rfl) rfl #[.slice A0 l0.length c0] rfl (by (try simp only [List.map_toArray, List.map_cons, List.map_nil]); first | done | rfl | (simp only [List.length_drop, List.length_take]; rfl)) ?_; (with_reducible refine (remoraref20_Bytes.calls k _ _ l0 t106 t107 _ ?side1 ?side2 A5.out).mono ?_); (case side1 => repeat (first | exact (Kd.C_below HR0.out HB.out) | (with_reducible refine Kd.C_alloc ?_ _) | (with_reducible refine Kd.C_drewN ?_ _) | (with_reducible refine Kd.C_drew ?_))); (case side2 => exact HC0.out); rintro e w19 ⟨v108, rfl, ho0, hb⟩; refine ⟨_, rfl, ?_⟩; have n0_ := Aside0.mk (Kd.R_elder' (upR HO105.out) (Kd.R_base ho0) hb); have n1_ := Aside0.mk (Kd.R_lower (Kd.R_new' ho0 (Kd.R_lt (upR HO105.out))) (below_size (upB HB.out))); have n2_ := Aside0.mk (below_step (upB HB.out) hb); clear HO105; clear HB; have HO105 := n0_; have HO109 := n1_; have HB := n2_; clear n0_ n1_ n2_; (try clear hb); (try clear hb2); (try clear hk); (try clear hi); (try clear ho0); have hcv20 := own_string (P := Tryd.prog) Tryd.underlying27 Tryd.underlying5 Tryd.underlying9 (Kd.own_of_R HO105.out); have hcv21 := own_string (P := Tryd.prog) Tryd.underlying27 Tryd.underlying5 Tryd.underlying9 (Kd.own_of_R HO109.out)))
  go_ret
  exact ⟨by first | rfl | (simp [errW_none, errW_some] <;> rfl) | (simp [*, errW_none, errW_some] <;> rfl), upB HB.out⟩
 replace c3 := Bool.eq_false_iff.mpr c3
 subst c3
 have H1 : ((remoralaw20_awake.f k).bind fun t111 => (some t111)) = some r := by rw [if_neg (show ¬ (false = true) by decide)] at H; exact H
 clear H
 have H := H1
 clear H1
 replace H := Option.bind_eq_some_iff.mp H
 obtain ⟨t111, A220, H⟩ := H
 replace H : (some t111) = some r := H
 have A22 := Aside0.mk A220
 clear A220
 obtain rfl := Option.some.inj H
 go_enter Tryd.func4, Tryd.ntmps4
 go_wp2_with (first | ((with_reducible refine gate_callee (f := 10) rfl ?_); refine goesL_ (some 8) rfl rfl Tryd.func10 (by kernel_rfl) rfl #[.slice A0 l0.length c0] rfl (by (try simp only [List.map_toArray, List.map_cons, List.map_nil]); first | done | rfl | (simp only [List.length_drop, List.length_take]; rfl)) ?_; (with_reducible refine (remoraref20_Small.calls k _ _ l0 false _ ?side1 ?side2 A2.out).mono ?_); (case side1 => repeat (first | exact HR0.out | (with_reducible refine Kd.C_alloc ?_ _) | (with_reducible refine Kd.C_drewN ?_ _) | (with_reducible refine Kd.C_drew ?_))); (case side2 => exact HC0.out); rintro e w' ⟨rfl, ⟨nd, rfl⟩⟩; refine ⟨_, rfl, ?_⟩) | ((with_reducible refine gate_callee (f := 11) rfl ?_); refine goesL_ (some 10) rfl rfl Tryd.func11 (by kernel_rfl) rfl #[] rfl (by (try simp only [List.map_toArray, List.map_cons, List.map_nil]); first | done | rfl | (simp only [List.length_drop, List.length_take]; rfl)) ?_; (with_reducible refine (remoralaw20_awake.calls k  t111 _ A22.out ?sideT).mono ?_); (case sideT => exact HT.out.step (upB HB.out)); rintro e w23 ⟨rfl, hb⟩; refine ⟨_, rfl, ?_⟩; have n0_ := Aside0.mk (below_step (upB HB.out) hb); clear HB; have HB := n0_; clear n0_; (try clear hb); (try clear hb2); (try clear hk); (try clear hi)))
 go_ret
 exact ⟨by first | rfl | (simp [errW_none, errW_some] <;> rfl) | (simp [*, errW_none, errW_some] <;> rfl), upB HB.out⟩
end Go.Proofs.YtcdmgdegohcmhaaDoor.PA
namespace Go.Proofs.YtcdmgdegohcmhaaDoor.PA
open Go.RowKit Go.Proofs.YtcdmgdegohcmhaaDoorW.PrintWords Go.Proofs.YtcdmgdegohcmhaaDoorW.PrintLast Go.Proofs.YtcdmgdegohcmhaaDoorW.PrintMore
attribute [local go_sem] max2_int min2_int max_two min_two max_three min_three max_four min_four
set_option linter.unusedVariables false
set_option linter.unusedSimpArgs false
def shN (n : Nat) : Nat := n / 2 ^^^ (if n % 2 = 1 then 3988292384 else 0)
theorem shN_lin (a b : Nat) : shN (a ^^^ b) = shN a ^^^ shN b := by
 unfold shN
 rw [Nat.xor_div_two]
 have h := @Nat.xor_mod_two_eq_one a b
 by_cases ha : a % 2 = 1 <;> by_cases hb : b % 2 = 1
 ·rw [if_neg (by rw [h]; simp [ha, hb]), if_pos ha, if_pos hb, Nat.xor_zero]
  have : ∀ x y p : Nat, x ^^^ p ^^^ (y ^^^ p) = x ^^^ y := fun x y p => by
   rw [Nat.xor_comm y p, Nat.xor_assoc, ← Nat.xor_assoc p p y, Nat.xor_self, Nat.zero_xor]
  rw [this]
 ·rw [if_pos (by rw [h]; simp [ha, hb]), if_pos ha, if_neg hb, Nat.xor_zero, Nat.xor_assoc, Nat.xor_assoc, Nat.xor_comm 3988292384]
 ·rw [if_pos (by rw [h]; simp [ha, hb]), if_neg ha, if_pos hb, Nat.xor_zero, Nat.xor_assoc]
 rw [if_neg (by rw [h]; simp [ha, hb]), if_neg ha, if_neg hb, Nat.xor_zero, Nat.xor_zero, Nat.xor_zero]
theorem shN_even (h : Nat) : shN (2 * h) = h := by
 unfold shN
 rw [if_neg (by omega), Nat.xor_zero]
 omega
def sh4 (n : Nat) : Nat := shN (shN (shN (shN n)))
theorem sh4_lin (a b : Nat) : sh4 (a ^^^ b) = sh4 a ^^^ sh4 b := by
 unfold sh4
 rw [shN_lin, shN_lin, shN_lin, shN_lin]
theorem sh4_16 (q : Nat) : sh4 (16 * q) = q := by
 unfold sh4
 rw [show 16 * q = 2 * (2 * (2 * (2 * q))) by omega, shN_even, shN_even, shN_even, shN_even]
def tabM : List Nat := [0, 498536548, 997073096, 651767980, 1994146192, 1802195444, 1303535960, 1342533948, 3988292384, 4027552580, 3604390888, 3412177804, 2607071920, 2262029012, 2685067896, 3183342108]
theorem sh4_tab : ∀ r, r < 16 → sh4 r = tabM.getD r 0 := by decide
theorem xor_split (n : Nat) : n = (16 * (n / 16)) ^^^ (n % 16) := by
 have h1 : (16 * (n / 16)) ^^^ (n % 16) = (16 * (n / 16)) ||| (n % 16) := by
  apply Nat.eq_of_testBit_eq
  intro i
  rw [Nat.testBit_xor, Nat.testBit_or]
  by_cases hi : i < 4
  ·have : (16 * (n / 16)).testBit i = false := by
    rw [show 16 * (n / 16) = 2 ^ 4 * (n / 16) by rfl, Nat.testBit_two_pow_mul]
    simp
    omega
   rw [this]
   simp
  have : (n % 16).testBit i = false := by
   apply Nat.testBit_lt_two_pow
   have : 2 ^ 4 ≤ 2 ^ i := Nat.pow_le_pow_right (by decide) (by omega)
   omega
  rw [this]
  simp
 rw [h1]
 have h2 := Nat.two_pow_add_eq_or_of_lt (i := 4) (b := n % 16) (by omega) (n / 16)
 rw [show (2 : Nat) ^ 4 = 16 by rfl] at h2
 rw [← h2]
 omega
theorem sh4_eq (n : Nat) : sh4 n = n / 16 ^^^ tabM.getD (n % 16) 0 := by
 conv => lhs; rw [xor_split n]
 rw [sh4_lin, sh4_16, sh4_tab _ (by omega)]
theorem shN_lt (n : Nat) (h : n < 4294967296) : shN n < 4294967296 := by
 unfold shN
 have : (4294967296 : Nat) = 2 ^ 32 := rfl
 rw [this]
 apply Nat.xor_lt_two_pow
 ·omega
 split <;> decide
theorem shiftr_l (n : Nat) (h : n < 4294967296) : ∀ (m i k : Nat), 8 - i = m → i ≤ 8 → m + 1 ≤ k → remoraref02_Shift.l0 k (n : Int) 8 (i : Int) = some ((Nat.repeat shN m n : Nat) : Int) := by
 intro m
 induction m generalizing n with
 | zero =>
  intro i k hm hi hk
  obtain ⟨k, rfl⟩ : ∃ j, k = j + 1 := ⟨k - 1, by omega⟩
  rw [remoraref02_Shift.l0, if_neg (by omega)]
  rfl
 | succ m ih =>
  intro i k hm hi hk
  obtain ⟨k, rfl⟩ : ∃ j, k = j + 1 := ⟨k - 1, by omega⟩
  have e1 : wrap64 ((i : Int) + 1) = ((i + 1 : Nat) : Int) := by
   rw [wr64 _ (by omega) (by omega)]
   rfl
  have e2 : Int.tdiv (n : Int) 2 % 4294967296 = ((n / 2 : Nat) : Int) := by
   rw [Int.tdiv_eq_ediv_of_nonneg (by omega)]
   omega
  have e3 : Int.tmod (n : Int) 2 = ((n % 2 : Nat) : Int) := by
   rw [Int.tmod_eq_emod_of_nonneg (by omega)]
   omega
  have hrep : ∀ (m n : Nat), Nat.repeat shN m (shN n) = Nat.repeat shN (m + 1) n := by
   intro m
   induction m with
   | zero => intro n; rfl
   | succ m ih =>
    intro n
    show shN (Nat.repeat shN m (shN n)) = shN (Nat.repeat shN (m + 1) n)
    rw [ih]
  have hs : remoraref02_Shift.l0 k ((shN n : Nat) : Int) 8 ((i + 1 : Nat) : Int) = some ((Nat.repeat shN (m + 1) n : Nat) : Int) := by
   rw [ih (shN n) (shN_lt n h) (i + 1) k (by omega) (by omega) (by omega), hrep]
  rw [remoraref02_Shift.l0, if_pos (by omega), e1, e2, e3]
  by_cases ho : n % 2 = 1
  ·rw [if_pos (by omega), show Go.bits .xor .u32 ((n / 2 : Nat) : Int) 3988292384 = ((shN n : Nat) : Int) from ?_, hs]
   rw [show (3988292384 : Int) = ((3988292384 : Nat) : Int) from rfl]
   refine (u32_xor_nat (n / 2) 3988292384 (by omega) (by decide)).trans ?_
   unfold shN
   rw [if_pos ho]
  rw [if_neg (by omega), show ((n / 2 : Nat) : Int) = ((shN n : Nat) : Int) from ?_, hs]
  unfold shN
  rw [if_neg ho, Nat.xor_zero]
theorem shift8_f (n k : Nat) (h : n < 4294967296) (hk : 9 ≤ k) : remoraref02_Shift.f k (n : Int) 8 = some ((sh4 (sh4 n) : Nat) : Int) := shiftr_l n h 8 0 k (by omega) (by omega) (by omega)
theorem tab_MN : ∀ r, r < 16 → tabN.getD r 0 = ((tabM.getD r 0 : Nat) : Int) ∧ tabM.getD r 0 < 4294967296 := by decide
theorem sh4_lt (n : Nat) (h : n < 4294967296) : sh4 n < 4294967296 := shN_lt _ (shN_lt _ (shN_lt _ (shN_lt _ h)))
theorem crcT_nat (n : Nat) (h : n < 4294967296) : crcT (n : Int) = ((sh4 n : Nat) : Int) := by
 have hm := bits_mask .u32 32 (by decide) (fun n h0 h1 => by rw [IntKind.wrap_u32]; omega) 4 (by decide) (n : Int) (by omega) (by omega)
 rw [show ((2 : Int) ^ 4 - 1) = 15 from rfl, show ((2 : Int) ^ 4) = 16 from rfl] at hm
 unfold crcT
 have ht := tab_MN (n % 16) (by omega)
 rw [hm, show ((n : Int) % 16).toNat = n % 16 by omega, ht.1, show (n : Int) / 16 = ((n / 16 : Nat) : Int) by omega, sh4_eq]
 exact u32_xor_nat _ _ (by omega) ht.2
def okL (l : List Int) : Prop := ∀ c ∈ l, 0 ≤ c ∧ c < 256
theorem okL_app {a b : List Int} (ha : okL a) (hb : okL b) : okL (a ++ b) := fun c hc => by
 rcases List.mem_append.1 hc with h | h
 ·exact ha c h
 exact hb c h
theorem okL_nil : okL [] := fun c hc => absurd hc (by simp)
theorem crcS_nat (x c : Nat) (hx : x < 4294967296) (hc : c < 256) : crcS (x : Int) (c : Int) = ((sh4 (sh4 (x ^^^ c)) : Nat) : Int) := by
 have hxc : x ^^^ c < 4294967296 := Nat.xor_lt_two_pow (n := 32) hx (by omega)
 unfold crcS
 rw [show bits .xor .u32 (x : Int) (c : Int) = ((x ^^^ c : Nat) : Int) from u32_xor_nat x c hx (by omega), crcT_nat _ hxc, crcT_nat _ (sh4_lt _ hxc)]
theorem rof_l1 (l : List Int) (hl : l.length < 1000000000) (hu : okL l) : ∀ (m i x k : Nat), l.length - i = m → i ≤ l.length → x < 4294967296 → m + 12 ≤ k → ∃ y : Nat, y < 4294967296 ∧ (l.drop i).foldl crcS (x : Int) = (y : Int) ∧ remoraref02_Of.l1 k [l] (x : Int) 0 (i : Int) = some ((4294967295 - (y : Int)) % 4294967296) := by
 intro m
 induction m with
 | zero =>
  intro i x k hm hi hx hk
  obtain ⟨k, rfl⟩ : ∃ j, k = j + 2 := ⟨k - 2, by omega⟩
  refine ⟨x, hx, by rw [List.drop_eq_nil_of_le (by omega)]; rfl, ?_⟩
  have hrl : rd_L7 [l] (0 : Int) = l := rfl
  rw [remoraref02_Of.l1, if_pos (by decide), if_pos (by simp), hrl, if_neg (by omega), show wrap64 (0 + 1) = 1 from wr64 _ (by omega) (by omega), remoraref02_Of.l0, if_neg (by simp)]
 | succ m ih =>
  intro i x k hm hi hx hk
  obtain ⟨k, rfl⟩ : ∃ j, k = j + 1 := ⟨k - 1, by omega⟩
  have hlt : i < l.length := by omega
  have hrl : rd_L7 [l] (0 : Int) = l := rfl
  have hci := hu l[i] (List.getElem_mem hlt)
  obtain ⟨c, hc⟩ : ∃ c : Nat, l[i] = (c : Int) := ⟨l[i].toNat, by omega⟩
  have hc2 : c < 256 := by omega
  have hxc : x ^^^ c < 4294967296 := Nat.xor_lt_two_pow (n := 32) hx (by omega)
  have e1 : wrap64 ((i : Int) + 1) = ((i + 1 : Nat) : Int) := by
   rw [wr64 _ (by omega) (by omega)]
   rfl
  have hs : remoraref02_Shift.f k (Go.bits .xor .u32 (x : Int) ((c : Int) % 4294967296)) 8 = some ((sh4 (sh4 (x ^^^ c)) : Nat) : Int) := by
   rw [show (c : Int) % 4294967296 = (c : Int) by omega, show Go.bits .xor .u32 (x : Int) (c : Int) = ((x ^^^ c : Nat) : Int) from u32_xor_nat x c hx (by omega)]
   exact shift8_f _ k hxc (by omega)
  obtain ⟨y, hy, hf, hr⟩ := ih (i + 1) (sh4 (sh4 (x ^^^ c))) k (by omega) (by omega) (sh4_lt _ (sh4_lt _ hxc)) (by omega)
  refine ⟨y, hy, ?_, ?_⟩
  ·rw [List.drop_eq_getElem_cons hlt, List.foldl_cons, hc, crcS_nat x c hx hc2]
   exact hf
  rw [remoraref02_Of.l1, if_pos (by decide), if_pos (by simp), hrl, if_pos (by omega), if_pos (by omega), rd_int l i hlt, hc, hs, Option.bind_some, e1]
  exact hr
theorem rof_f (l : List Int) (hl : l.length < 1000000000) (hu : okL l) (k : Nat) (hk : l.length + 20 ≤ k) : ∃ y : Nat, y < 4294967296 ∧ crcF l = (y : Int) ∧ remoraref02_Of.f k [l] = some (4294967295 - (y : Int)) := by
 obtain ⟨k, rfl⟩ : ∃ j, k = j + 1 := ⟨k - 1, by omega⟩
 obtain ⟨y, hy, hf, hr⟩ := rof_l1 l hl hu l.length 0 4294967295 k (by omega) (by omega) (by decide) (by omega)
 refine ⟨y, hy, hf, ?_⟩
 rw [remoraref02_Of.f, remoraref02_Of.l0, if_pos (by simp)]
 refine hr.trans ?_
 congr 1
 omega
theorem xor_max (y : Nat) (h : y < 4294967296) : 4294967295 ^^^ y = 4294967295 - y := by
 rw [show (4294967295 : Nat) - y = 2 ^ 32 - (y + 1) by omega]
 apply Nat.eq_of_testBit_eq
 intro i
 rw [Nat.testBit_two_pow_sub_succ (by omega), Nat.testBit_xor, show (4294967295 : Nat) = 2 ^ 32 - 1 from rfl, Nat.testBit_two_pow_sub_one]
 by_cases hi : i < 32
 ·simp [hi]
 have : y.testBit i = false := by
  apply Nat.testBit_lt_two_pow
  have : 2 ^ 32 ≤ 2 ^ i := Nat.pow_le_pow_right (by decide) (by omega)
  omega
 simp [hi, this]
theorem rseal_f (l : List Int) (hl : l.length < 1000000000) (hu : okL l) (k : Nat) (hk : l.length + 20 ≤ k) : remoraref02_Seal.f k l = some (l ++ sealL l) := by
 obtain ⟨y, hy, hf, ho⟩ := rof_f l hl hu k hk
 obtain ⟨k, rfl⟩ : ∃ j, k = j + 5 := ⟨k - 5, by omega⟩
 have hL : crcL l = ((4294967295 - y : Nat) : Int) := by
  unfold crcL
  rw [hf, show IntKind.u32.max = ((4294967295 : Nat) : Int) from rfl]
  rw [show bits .xor .u32 ((4294967295 : Nat) : Int) (y : Int) = ((4294967295 ^^^ y : Nat) : Int) from u32_xor_nat _ _ (by decide) hy, xor_max y hy]
 rw [remoraref02_Seal.f, ho, Option.bind_some, Option.bind_some, if_pos (by simp; omega), remoraref02_Seal.l0, if_pos (by decide), if_pos (by simp; omega)]
 have w1 : wrap64 (0 + 1) = 1 := wr64 _ (by omega) (by omega)
 have w2 : wrap64 (1 + 1) = 2 := wr64 _ (by omega) (by omega)
 have w3 : wrap64 (2 + 1) = 3 := wr64 _ (by omega) (by omega)
 have w4 : wrap64 (3 + 1) = 4 := wr64 _ (by omega) (by omega)
 rw [w1, remoraref02_Seal.l0, if_pos (by decide), if_pos (by simp; omega)]
 rw [w2, remoraref02_Seal.l0, if_pos (by decide), if_pos (by simp; omega)]
 rw [w3, remoraref02_Seal.l0, if_pos (by decide), if_pos (by simp; omega)]
 rw [w4, remoraref02_Seal.l0, if_neg (by decide)]
 obtain ⟨z, hz⟩ : ∃ z : Nat, z = 4294967295 - y := ⟨_, rfl⟩
 have hz2 : z < 4294967296 := by omega
 rw [show (4294967295 : Int) - (y : Int) = (z : Int) by omega]
 rw [← hz] at hL
 have d1 : ∀ t : Nat, t < 4294967296 → Int.tdiv (t : Int) 256 % 4294967296 = ((t / 256 : Nat) : Int) := fun t ht => by
  rw [Int.tdiv_eq_ediv_of_nonneg (by omega)]
  omega
 have m1 : ∀ t : Nat, Int.tmod (t : Int) 256 % 256 = ((t % 256 : Nat) : Int) := fun t => by
  rw [Int.tmod_eq_emod_of_nonneg (by omega)]
  omega
 rw [d1 z hz2, d1 (z / 256) (by omega), d1 (z / 256 / 256) (by omega), m1, m1, m1, m1]
 unfold sealL
 rw [hL]
 have q1 : (z : Int) % 256 = ((z % 256 : Nat) : Int) := by omega
 have q2 : (z : Int) / 256 % 256 = ((z / 256 % 256 : Nat) : Int) := by omega
 have q3 : (z : Int) / 65536 % 256 = ((z / 256 / 256 % 256 : Nat) : Int) := by omega
 have q4 : (z : Int) / 16777216 % 256 = ((z / 256 / 256 / 256 % 256 : Nat) : Int) := by omega
 rw [q1, q2, q3, q4]
 simp
end Go.Proofs.YtcdmgdegohcmhaaDoor.PA
namespace Go.Proofs.YtcdmgdegohcmhaaDoor.PA
open Go.RowKit Go.Proofs.YtcdmgdegohcmhaaDoorW.PrintWords Go.Proofs.YtcdmgdegohcmhaaDoorW.PrintLast Go.Proofs.YtcdmgdegohcmhaaDoorW.PrintMore
attribute [local go_sem] max2_int min2_int max_two min_two max_three min_three max_four min_four
set_option linter.unusedVariables false
set_option linter.unusedSimpArgs false
theorem wrap_succ (i : Nat) (h : i < 9223372036854775807) : wrap64 ((i : Int) + 1) = ((i + 1 : Nat) : Int) := by
 rw [wr64 _ (by omega) (by omega)]
 rfl
def putS (n : Int) : List Int := if mn (mx n (-2305843009213693952)) 2305843009213693951 < 0 then putL ((-2) * mn (mx n (-2305843009213693952)) 2305843009213693951 - 1) else putL (2 * mn (mx n (-2305843009213693952)) 2305843009213693951)
theorem put_ok (l : List Int) (n : Int) (h : l.length < 1000000000) : num_Put.f l n = some (l ++ putL n) := if_pos h
theorem rput_ok (l : List Int) (n : Int) (h : l.length < 1000000000) (k : Nat) (hk : 9 ≤ k) : remoraref01_Put.f k l n = some (l ++ putL n) := rput_f l n (by omega) k hk
theorem putint_f (l : List Int) (n : Int) (h : l.length < 1000000000) : num_PutInt.f l n = some (l ++ putS n) := by
 unfold num_PutInt.f putS
 split
 ·rw [put_ok _ _ h]
  rfl
 rw [put_ok _ _ h]
 rfl
theorem putL_rgroups (n : Int) (h0 : 0 ≤ n) (h1 : n ≤ 4611686018427387903) (k : Nat) (hk : 9 ≤ k) : remoraref01_groups.f k n = some (putL n) := by
 have hg := rgroups_l 8 k n [] h0 (by have e9 : (128 : Int) ^ (8 + 1) = 9223372036854775808 := rfl; omega) (by decide) (by simp) (by omega)
 rw [remoraref01_groups.f, hg]
 unfold putL clampN mn mx
 rw [if_neg (by omega), if_neg (by omega)]
 rfl
theorem rbehind_ok (a b : List Int) (h : a.length + b.length < 100000000000) : remoraref01_behind.f a b = some (a ++ b) := by
 rw [remoraref01_behind.f, if_pos (by simp; omega), Option.bind_some, if_pos (by simp; omega)]
 rfl
theorem rputint_f (l : List Int) (n : Int) (h : l.length < 1000000000) (k : Nat) (hk : 9 ≤ k) : remoraref01_PutInt.f k l n = some (l ++ putS n) := by
 have hh : remoraref01_held.f n (-2305843009213693952) 2305843009213693951 = some (mn (mx n (-2305843009213693952)) 2305843009213693951) := by
  unfold remoraref01_held.f mn mx
  (repeat' split) <;> first | rfl | (congr 1; omega) | omega
 unfold putS
 obtain ⟨y, hy⟩ : ∃ y, y = mn (mx n (-2305843009213693952)) 2305843009213693951 := ⟨_, rfl⟩
 have hr : -2305843009213693952 ≤ y ∧ y ≤ 2305843009213693951 := by
  rw [hy]
  unfold mn mx
  (repeat' split) <;> omega
 rw [remoraref01_PutInt.f, hh, Option.bind_some, ← hy]
 by_cases hn : y < 0
 ·rw [if_pos hn, if_pos hn, wr64 (y + 1) (by omega) (by omega), wr64 (-(y + 1)) (by omega) (by omega), wr64 (2 * -(y + 1)) (by omega) (by omega), wr64 (2 * -(y + 1) + 1) (by omega) (by omega), show 2 * -(y + 1) + 1 = (-2) * y - 1 by omega, putL_rgroups _ (by omega) (by omega) k hk, Option.bind_some, rbehind_ok _ _ (by have := putL_len ((-2) * y - 1); omega), Option.bind_some]
 rw [if_neg hn, if_neg hn, wr64 (2 * y) (by omega) (by omega), putL_rgroups _ (by omega) (by omega) k hk, Option.bind_some, rbehind_ok _ _ (by have := putL_len (2 * y); omega), Option.bind_some]
theorem putS_len (n : Int) : (putS n).length ≤ 9 := by
 unfold putS
 split <;> exact putL_len _
def metaL (a b c d e : Int) : List Int := if metaOk a b c d e = true then putL a ++ putS b ++ putL c ++ putL d ++ putL e else []
theorem metaL_len (a b c d e : Int) : (metaL a b c d e).length ≤ 45 := by
 have h1 := putL_len a
 have h2 := putS_len b
 have h3 := putL_len c
 have h4 := putL_len d
 have h5 := putL_len e
 unfold metaL
 split
 ·simp only [List.length_append]
  omega
 simp
theorem metab_f (a b c d e : Int) : meta_Bytes.f a b c d e = some (metaL a b c d e, if metaOk a b c d e = true then 0 else 2) := by
 have h1 := putL_len a
 have h2 := putS_len b
 have h3 := putL_len c
 have h4 := putL_len d
 rw [meta_Bytes.f, meta_Check.f, Option.bind_some]
 unfold metaL
 by_cases h : metaOk a b c d e = true
 ·rw [if_pos h, if_pos rfl, if_pos h, put_ok _ _ (by simp), Option.bind_some, putint_f _ _ (by simp; omega), Option.bind_some, put_ok _ _ (by simp; omega), Option.bind_some, put_ok _ _ (by simp; omega), Option.bind_some, put_ok _ _ (by simp; omega), Option.bind_some]
  rfl
 rw [if_neg h, if_neg (by decide), if_neg h]
theorem rmetab_f (a b c d e : Int) (k : Nat) (hk : 9 ≤ k) : remoraref16_Bytes.f k a b c d e = some (metaL a b c d e, if metaOk a b c d e = true then 0 else 2) := by
 have h1 := putL_len a
 have h2 := putS_len b
 have h3 := putL_len c
 have h4 := putL_len d
 rw [remoraref16_Bytes.f, meta16_f, Option.bind_some]
 unfold metaL
 by_cases h : metaOk a b c d e = true
 ·rw [if_pos h, if_pos rfl, if_pos h, rput_ok _ _ (by simp) k hk, Option.bind_some, rputint_f _ _ (by simp; omega) k hk, Option.bind_some, rput_ok _ _ (by simp; omega) k hk, Option.bind_some, rput_ok _ _ (by simp; omega) k hk, Option.bind_some, rput_ok _ _ (by simp; omega) k hk, Option.bind_some]
  rfl
 rw [if_neg h, if_neg (by decide), if_neg h]
theorem puttext_ok (l : List Int) (s : ByteArray) (h : l.length + 9 + s.size < 1000000000) : num_PutText.f l s = some (l ++ putL (s.size : Int) ++ bytesOf s) := by
 have h1 := putL_len (s.size : Int)
 rw [num_PutText.f, put_ok _ _ (by omega), Option.bind_some, if_pos (by simp; omega)]
theorem rputtext_ok (l : List Int) (s : ByteArray) (h : l.length + 9 + s.size < 1000000000) : remoraref01_PutText.f l s = some (l ++ putL (s.size : Int) ++ bytesOf s) := if_pos ⟨by omega, by omega⟩
def kindE (x : S35) : Int := if x.f5.toList = ([] : List UInt8) then x.f1 else wrap64 (x.f1 + 4)
def tailE (last : ByteArray) (x : S35) : ByteArray := x.f0.extract (likeN x.f0 last) x.f0.size
def entL (last : ByteArray) (x : S35) : List Int :=
 putL (likeN x.f0 last : Int) ++ putL ((tailE last x).size : Int) ++ bytesOf (tailE last x) ++ putL (kindE x) ++ putL x.f2 ++ metaL x.f3.f0 x.f3.f1 x.f3.f2 x.f3.f3 x.f3.f4 ++ (if x.f1 = 3 then putL (x.f4.size : Int) ++ bytesOf x.f4 else []) ++ bytesOf x.f5 ++ (if x.f1 = 1 then putL x.f6 else [])
def encG : ByteArray → List S35 → List Int
 | _, [] => []
 | last, x :: l => entL last x ++ encG x.f0 l
def encL (L : List S35) : List Int := putL (L.length : Int) ++ encG ⟨#[]⟩ L
def sealB (l : List Int) : List Int := l ++ sealL l
def bnd35 (x : S35) : Prop := x.f0.size ≤ 100000 ∧ x.f4.size ≤ 100000 ∧ x.f5.size ≤ 100000
theorem tailE_size (last : ByteArray) (x : S35) : (tailE last x).size ≤ x.f0.size := by
 unfold tailE
 rw [ByteArray.size_extract]
 omega
theorem entL_len (last : ByteArray) (x : S35) (h : bnd35 x) : (entL last x).length ≤ 300200 := by
 obtain ⟨h1, h2, h3⟩ := h
 have a1 := putL_len (likeN x.f0 last : Int)
 have a2 := putL_len ((tailE last x).size : Int)
 have a3 := putL_len (kindE x)
 have a4 := putL_len x.f2
 have a5 := metaL_len x.f3.f0 x.f3.f1 x.f3.f2 x.f3.f3 x.f3.f4
 have a6 := putL_len (x.f4.size : Int)
 have a7 := putL_len x.f6
 have a8 := tailE_size last x
 have b1 : (if x.f1 = 3 then putL (x.f4.size : Int) ++ bytesOf x.f4 else []).length ≤ 100009 := by
  split
  ·rw [List.length_append, bytesOf_length]
   omega
  simp
 have b2 : (if x.f1 = 1 then putL x.f6 else []).length ≤ 9 := by
  split
  ·exact a7
  simp
 unfold entL
 simp only [List.length_append, bytesOf_length] at *
 omega
theorem putL_ok (n : Int) : okL (putL n) := by
 have : ∀ (k : Nat) (x : Int), 0 ≤ x → x < 128 ^ (k + 1) → okL (putN k x) := by
  intro k
  induction k with
  | zero =>
   intro x h0 h1 c hc
   rw [putN_last 0 x (by simp at h1; omega)] at hc
   simp at hc h1
   omega
  | succ k ih =>
   intro x h0 h1 c hc
   by_cases h : x > 127
   ·rw [putN_more k x h] at hc
    rcases List.mem_cons.1 hc with e | hc
    ·omega
    refine ih (x / 128) (by omega) ?_ c hc
    rw [Int.pow_succ] at h1
    omega
   rw [putN_last _ x h] at hc
   simp at hc
   omega
 have hc := clampN_range n
 exact this 8 (clampN n) hc.1 (by have e9 : (128 : Int) ^ (8 + 1) = 9223372036854775808 := rfl; omega)
theorem putS_ok (n : Int) : okL (putS n) := by
 unfold putS
 split <;> exact putL_ok _
theorem bytesOf_ok (s : ByteArray) : okL (bytesOf s) := fun c hc => by
 simp [bytesOf] at hc
 obtain ⟨b, _, rfl⟩ := hc
 have := b.toNat_lt
 omega
theorem if_ok {p : Prop} [Decidable p] {a b : List Int} (ha : okL a) (hb : okL b) : okL (if p then a else b) := by
 split
 ·exact ha
 exact hb
theorem metaL_ok (a b c d e : Int) : okL (metaL a b c d e) := if_ok (okL_app (okL_app (okL_app (okL_app (putL_ok _) (putS_ok _)) (putL_ok _)) (putL_ok _)) (putL_ok _)) okL_nil
theorem entL_ok (last : ByteArray) (x : S35) : okL (entL last x) :=
 okL_app (okL_app (okL_app (okL_app (okL_app (okL_app (okL_app (okL_app (putL_ok _) (putL_ok _)) (bytesOf_ok _)) (putL_ok _)) (putL_ok _)) (metaL_ok _ _ _ _ _)) (if_ok (okL_app (putL_ok _) (bytesOf_ok _)) okL_nil)) (bytesOf_ok _)) (if_ok (putL_ok _) okL_nil)
theorem seal_ok (l : List Int) (h : l.length < 1000000000) (hu : okL l) : crc_Seal.f l = some (sealB l) := if_pos ⟨h, hu⟩
set_option maxHeartbeats 2000000 in
theorem fb_step (L : List S35) (i : Nat) (hi : i < L.length) (hL : L.length ≤ 1000) (b : List Int) (last : ByteArray) (hb : b.length + 300200 < 1000000000) (hx : bnd35 L[i]) (hlast : last.size ≤ 100000) (k : Nat) :
  flist_Bytes.l0 (k + 2) b last L (L.length : Int) (i : Int) = flist_Bytes.l0 k (b ++ entL last L[i]) L[i].f0 L (L.length : Int) ((i + 1 : Nat) : Int) := by
 obtain ⟨x, ex⟩ : ∃ x, L[i] = x := ⟨_, rfl⟩
 rw [ex] at hx
 obtain ⟨h1, h2, h3⟩ := hx
 have a1 := putL_len (likeN x.f0 last : Int)
 have a2 := putL_len ((tailE last x).size : Int)
 have a3 := putL_len (kindE x)
 have a4 := putL_len x.f2
 have a5 := metaL_len x.f3.f0 x.f3.f1 x.f3.f2 x.f3.f3 x.f3.f4
 have a6 := putL_len (x.f4.size : Int)
 have a8 := tailE_size last x
 have hn := likeN_le x.f0 last
 have hj : flist_Bytes.l0 (k + 2) b last L (L.length : Int) (i : Int) = flist_Bytes.j1 (k + 1) b x.f0 (likeN x.f0 last : Int) (kindE x) L (L.length : Int) (i : Int) x.f0 x.f1 x.f2 x.f3.f0 x.f3.f1 x.f3.f2 x.f3.f3 x.f3.f4 x.f4 x.f5 x.f6 := by
  rw [flist_Bytes.l0, if_pos (by omega), if_pos (by omega), if_pos (by omega), rd35_get L i hi, ex, flist_like.f, if_pos ⟨by omega, by omega⟩, Option.bind_some]
  unfold kindE
  by_cases h5 : x.f5.toList = ([] : List UInt8)
  ·rw [if_pos h5, if_pos h5]
  rw [if_neg h5, if_neg h5]
 have hte : x.f0.extract ((likeN x.f0 last : Nat) : Int).toNat x.f0.size = tailE last x := by
  rw [Int.toNat_natCast]
  rfl
 rw [hj, ex, flist_Bytes.j1, put_ok _ _ (by omega), Option.bind_some, if_pos (by omega), if_pos (by omega), hte]
 rw [puttext_ok _ _ (by simp only [List.length_append]; omega), Option.bind_some]
 rw [put_ok _ _ (by simp only [List.length_append, bytesOf_length]; omega), Option.bind_some]
 rw [put_ok _ _ (by simp only [List.length_append, bytesOf_length]; omega), Option.bind_some]
 rw [metab_f, Option.bind_some, if_pos (by simp only [List.length_append, bytesOf_length]; omega), Option.bind_some, wrap_succ i (by omega)]
 unfold entL
 by_cases c3 : x.f1 = 3
 ·have c1 : ¬ x.f1 = 1 := by omega
  rw [if_pos c3, if_pos c3, if_neg c1, puttext_ok _ _ (by simp only [List.length_append, bytesOf_length]; omega), Option.bind_some, if_pos (by simp only [List.length_append, bytesOf_length]; omega), Option.bind_some, if_neg c1]
  simp only [List.append_assoc, List.append_nil]
 rw [if_neg c3, if_neg c3, if_pos (by simp only [List.length_append, bytesOf_length]; omega), Option.bind_some]
 by_cases c1 : x.f1 = 1
 ·rw [if_pos c1, if_pos c1, put_ok _ _ (by simp only [List.length_append, bytesOf_length]; omega), Option.bind_some]
  simp only [List.append_assoc, List.nil_append]
 rw [if_neg c1, if_neg c1]
 simp only [List.append_assoc, List.append_nil, List.nil_append]
theorem fb_all (L : List S35) (hL : L.length ≤ 1000) (hx : ∀ x ∈ L, bnd35 x) : ∀ (m i : Nat) (b : List Int) (last : ByteArray) (k : Nat), L.length - i = m → i ≤ L.length → b.length + m * 300200 < 999000000 → last.size ≤ 100000 → okL b → 2 * m + 1 ≤ k →
  flist_Bytes.l0 k b last L (L.length : Int) (i : Int) = some (sealB (b ++ encG last (L.drop i)), 0) := by
 intro m
 induction m with
 | zero =>
  intro i b last k hm hi hb hl ho hk
  obtain ⟨k, rfl⟩ : ∃ j, k = j + 1 := ⟨k - 1, by omega⟩
  rw [flist_Bytes.l0, if_neg (by omega), seal_ok b (by omega) ho, Option.bind_some, List.drop_eq_nil_of_le (by omega), encG, List.append_nil]
 | succ m ih =>
  intro i b last k hm hi hb hl ho hk
  obtain ⟨k, rfl⟩ : ∃ j, k = j + 2 := ⟨k - 2, by omega⟩
  have hlt : i < L.length := by omega
  have hxi := hx L[i] (List.getElem_mem hlt)
  have he := entL_len last L[i] hxi
  obtain ⟨z, hz⟩ : ∃ z : Nat, z = (entL last L[i]).length := ⟨_, rfl⟩
  rw [← hz] at he
  have HZ := Aside0.mk hz
  clear hz
  have hb3 : b.length + 300200 < 1000000000 := by omega
  have hb4 : b.length + z + m * 300200 < 999000000 := by omega
  rw [fb_step L i hlt hL b last hb3 hxi hl k, ih (i + 1) _ _ k (by omega) (by omega) (by rw [List.length_append, ← HZ.out]; exact hb4) hxi.1 (okL_app ho (entL_ok _ _)) (by omega), List.drop_eq_getElem_cons hlt, encG, List.append_assoc]
theorem bytes20_f (L : List S35) (hl : light20 L) (hx : ∀ x ∈ L, bnd35 x) (k : Nat) (hk : 3000 ≤ k) : flist_Bytes.f k L = some (if checkL20 L = 0 then (sealB (encL L), 0) else ([], checkL20 L)) := by
 have hln := hl.1
 obtain ⟨z, hz⟩ : ∃ z : Nat, z = (putL (L.length : Int)).length := ⟨_, rfl⟩
 have h2 : z ≤ 9 := hz ▸ putL_len (L.length : Int)
 have HZ := Aside0.mk hz
 clear hz
 have hb4 : z + L.length * 300200 < 999000000 := by omega
 rw [flist_Bytes.f, flist_Check.f, if_pos hl, Option.bind_some]
 by_cases hc : checkL20 L = 0
 ·rw [if_pos hc, if_pos hc, put_ok _ _ (by simp), Option.bind_some]
  have := fb_all L hl.1 hx L.length 0 (putL (L.length : Int)) ⟨#[]⟩ k (by omega) (by omega) (by rw [← HZ.out]; exact hb4) (Nat.zero_le _) (putL_ok _) (by omega)
  rw [List.drop_zero] at this
  exact this
 rw [if_neg hc, if_neg hc]
theorem ralike_l (a b : ByteArray) (ha : a.size < 4398046511104) : ∀ (m i k : Nat), a.size - i = m → i ≤ a.size → m + 1 ≤ k → remoraref20_alike.l0 k a b (i : Int) = some ((i + likeFrom a b i : Nat) : Int) := by
 intro m
 induction m with
 | zero =>
  intro i k hm hi hk
  obtain ⟨k, rfl⟩ : ∃ j, k = j + 1 := ⟨k - 1, by omega⟩
  rw [remoraref20_alike.l0, if_neg (by omega), like_end a b i (Or.inl (by omega))]
  rfl
 | succ m ih =>
  intro i k hm hi hk
  obtain ⟨k, rfl⟩ : ∃ j, k = j + 1 := ⟨k - 1, by omega⟩
  rw [remoraref20_alike.l0, if_pos (by omega)]
  by_cases hb : i < b.size
  ·rw [if_pos (by omega), if_pos (by omega), like_step a b i (by omega) hb, wrap_succ i (by omega)]
   by_cases he : bt a (i : Int) = bt b (i : Int)
   ·rw [if_pos he, if_pos he, ih (i + 1) k (by omega) (by omega) (by omega)]
    congr 2
    omega
   rw [if_neg he, if_neg he]
   rfl
  rw [if_neg (by omega), like_end a b i (Or.inr (by omega))]
  rfl
theorem ralike_f (a b : ByteArray) (ha : a.size < 4398046511104) (k : Nat) (hk : a.size + 1 ≤ k) : remoraref20_alike.f k a b = some (likeN b a : Int) := by
 have h := ralike_l a b ha a.size 0 k (by omega) (by omega) hk
 rw [remoraref20_alike.f]
 refine h.trans ?_
 rw [likeN_comm b a]
 unfold likeFrom likeN
 rw [List.drop_zero, List.drop_zero, Nat.zero_add]
set_option maxHeartbeats 2000000 in
theorem rfb_step (L : List S35) (i : Nat) (hi : i < L.length) (hL : L.length ≤ 1000) (b : List Int) (last : ByteArray) (hb : b.length + 300200 < 1000000000) (hx : bnd35 L[i]) (hlast : last.size ≤ 100000) (k : Nat) (hk : 100010 ≤ k) :
  remoraref20_Bytes.l0 (k + 2) L b last (i : Int) = remoraref20_Bytes.l0 k L (b ++ entL last L[i]) L[i].f0 ((i + 1 : Nat) : Int) := by
 obtain ⟨x, ex⟩ : ∃ x, L[i] = x := ⟨_, rfl⟩
 rw [ex] at hx
 obtain ⟨h1, h2, h3⟩ := hx
 have a1 := putL_len (likeN x.f0 last : Int)
 have a2 := putL_len ((tailE last x).size : Int)
 have a3 := putL_len (kindE x)
 have a4 := putL_len x.f2
 have a5 := metaL_len x.f3.f0 x.f3.f1 x.f3.f2 x.f3.f3 x.f3.f4
 have a6 := putL_len (x.f4.size : Int)
 have a8 := tailE_size last x
 have hn := likeN_le x.f0 last
 have hte : x.f0.extract ((likeN x.f0 last : Nat) : Int).toNat x.f0.size = tailE last x := by
  rw [Int.toNat_natCast]
  rfl
 have hj : remoraref20_Bytes.l0 (k + 2) L b last (i : Int) = remoraref20_Bytes.j1 (k + 1) L (b ++ putL (likeN x.f0 last : Int) ++ putL ((tailE last x).size : Int) ++ bytesOf (tailE last x)) (i : Int) (kindE x) x.f0 x.f1 x.f2 x.f3.f0 x.f3.f1 x.f3.f2 x.f3.f3 x.f3.f4 x.f4 x.f5 x.f6 := by
  rw [remoraref20_Bytes.l0, if_pos (by omega), if_pos (by omega), rd35_get L i hi, ex, ralike_f _ _ (by omega) (k + 1) (by omega), Option.bind_some, rput_ok _ _ (by omega) (k + 1) (by omega), Option.bind_some, if_pos (by omega), if_pos (by omega), hte, rputtext_ok _ _ (by simp only [List.length_append]; omega), Option.bind_some]
  unfold kindE
  by_cases h5 : x.f5.toList = ([] : List UInt8)
  ·rw [if_pos h5, if_pos h5]
  rw [if_neg h5, if_neg h5]
 rw [hj, ex, remoraref20_Bytes.j1, rmetab_f _ _ _ _ _ k (by omega), Option.bind_some]
 rw [rput_ok _ _ (by simp only [List.length_append, bytesOf_length]; omega) k (by omega), Option.bind_some]
 rw [rput_ok _ _ (by simp only [List.length_append, bytesOf_length]; omega) k (by omega), Option.bind_some]
 rw [if_pos (by simp only [List.length_append, bytesOf_length]; omega), Option.bind_some, wrap_succ i (by omega)]
 unfold entL
 by_cases c3 : x.f1 = 3
 ·have c1 : ¬ x.f1 = 1 := by omega
  rw [if_pos c3, if_pos c3, if_neg c1, rputtext_ok _ _ (by simp only [List.length_append, bytesOf_length]; omega), Option.bind_some, if_pos (by simp only [List.length_append, bytesOf_length]; omega), Option.bind_some, if_neg c1]
  simp only [List.append_assoc, List.append_nil]
 rw [if_neg c3, if_neg c3, if_pos (by simp only [List.length_append, bytesOf_length]; omega), Option.bind_some]
 by_cases c1 : x.f1 = 1
 ·rw [if_pos c1, if_pos c1, rput_ok _ _ (by simp only [List.length_append, bytesOf_length]; omega) k (by omega), Option.bind_some]
  simp only [List.append_assoc, List.nil_append]
 rw [if_neg c1, if_neg c1]
 simp only [List.append_assoc, List.append_nil, List.nil_append]
theorem rfb_all (L : List S35) (hL : L.length ≤ 1000) (hx : ∀ x ∈ L, bnd35 x) : ∀ (m i : Nat) (b : List Int) (last : ByteArray) (k : Nat), L.length - i = m → i ≤ L.length → b.length + m * 300200 < 999000000 → last.size ≤ 100000 → okL b → 2 * m + 1000100000 ≤ k →
  remoraref20_Bytes.l0 k L b last (i : Int) = some (sealB (b ++ encG last (L.drop i)), 0) := by
 intro m
 induction m with
 | zero =>
  intro i b last k hm hi hb hl ho hk
  obtain ⟨k, rfl⟩ : ∃ j, k = j + 1 := ⟨k - 1, by omega⟩
  rw [remoraref20_Bytes.l0, if_neg (by omega), rseal_f b (by omega) ho k (by omega), Option.bind_some, List.drop_eq_nil_of_le (by omega), encG, List.append_nil]
  rfl
 | succ m ih =>
  intro i b last k hm hi hb hl ho hk
  obtain ⟨k, rfl⟩ : ∃ j, k = j + 2 := ⟨k - 2, by omega⟩
  have hlt : i < L.length := by omega
  have hxi := hx L[i] (List.getElem_mem hlt)
  have he := entL_len last L[i] hxi
  obtain ⟨z, hz⟩ : ∃ z : Nat, z = (entL last L[i]).length := ⟨_, rfl⟩
  rw [← hz] at he
  have HZ := Aside0.mk hz
  clear hz
  have hb3 : b.length + 300200 < 1000000000 := by omega
  have hb4 : b.length + z + m * 300200 < 999000000 := by omega
  rw [rfb_step L i hlt hL b last hb3 hxi hl k (by omega), ih (i + 1) _ _ k (by omega) (by omega) (by rw [List.length_append, ← HZ.out]; exact hb4) hxi.1 (okL_app ho (entL_ok _ _)) (by omega), List.drop_eq_getElem_cons hlt, encG, List.append_assoc]
theorem rbytes20_f (L : List S35) (hl : light20 L) (hx : ∀ x ∈ L, bnd35 x) (k : Nat) (hk : 2000000000 ≤ k) : remoraref20_Bytes.f k L = some (if checkL20 L = 0 then (sealB (encL L), 0) else ([], checkL20 L)) := by
 have hln := hl.1
 obtain ⟨z, hz⟩ : ∃ z : Nat, z = (putL (L.length : Int)).length := ⟨_, rfl⟩
 have h2 : z ≤ 9 := hz ▸ putL_len (L.length : Int)
 have HZ := Aside0.mk hz
 clear hz
 have hb4 : z + L.length * 300200 < 999000000 := by omega
 rw [remoraref20_Bytes.f, rcheck20_f L hl k (by omega), Option.bind_some]
 by_cases hc : checkL20 L = 0
 ·rw [if_pos hc, if_pos hc, rput_ok _ _ (by simp) k (by omega), Option.bind_some]
  have := rfb_all L hl.1 hx L.length 0 (putL (L.length : Int)) ⟨#[]⟩ k (by omega) (by omega) (by rw [← HZ.out]; exact hb4) (Nat.zero_le _) (putL_ok _) (by omega)
  rw [List.drop_zero] at this
  exact this
 rw [if_neg hc, if_neg hc]
end Go.Proofs.YtcdmgdegohcmhaaDoor.PA
namespace Go.Proofs.YtcdmgdegohcmhaaDoor.PA
open Go.RowKit Go.Proofs.YtcdmgdegohcmhaaDoorW.PrintWords Go.Proofs.YtcdmgdegohcmhaaDoorW.PrintLast Go.Proofs.YtcdmgdegohcmhaaDoorW.PrintMore
attribute [local go_sem] max2_int min2_int max_two min_two max_three min_three max_four min_four
set_option linter.unusedVariables false
set_option linter.unusedSimpArgs false
def smallX (x : S35) : Bool := decide (x.f0.size ≤ 600) && decide (x.f4.size ≤ 600) && decide (x.f5.size ≤ 100)
def smallB (L : List S35) : Bool := L.all smallX && decide (L.length ≤ 60)
theorem small_l (L : List S35) (hL : L.length ≤ 9223372036854775807) : ∀ (m i k : Nat), L.length - i = m → i ≤ L.length → m + 1 ≤ k → remoraref20_Small.l0 k L (i : Int) = some ((L.drop i).all smallX && decide (L.length ≤ 60)) := by
 intro m
 induction m with
 | zero =>
  intro i k hm hi hk
  obtain ⟨k, rfl⟩ : ∃ j, k = j + 1 := ⟨k - 1, by omega⟩
  rw [remoraref20_Small.l0, if_neg (by omega), List.drop_eq_nil_of_le (by omega), List.all_nil, Bool.true_and]
  congr 1
  exact decide_eq_decide.2 (by omega)
 | succ m ih =>
  intro i k hm hi hk
  obtain ⟨k, rfl⟩ : ∃ j, k = j + 1 := ⟨k - 1, by omega⟩
  have hlt : i < L.length := by omega
  rw [remoraref20_Small.l0, if_pos (by omega), if_pos (by omega), rd35_get L i hlt, wrap_succ i (by omega), ih (i + 1) k (by omega) (by omega) (by omega), List.drop_eq_getElem_cons hlt, List.all_cons]
  unfold smallX
  by_cases h1 : L[i].f0.size ≤ 600
  ·by_cases h2 : L[i].f4.size ≤ 600
   ·by_cases h3 : L[i].f5.size ≤ 100
    ·rw [if_neg (by omega), if_neg (by omega), if_neg (by omega)]
     simp [h1, h2, h3]
    rw [if_neg (by omega), if_neg (by omega), if_pos (by omega)]
    simp [h3]
   rw [if_neg (by omega), if_pos (by omega)]
   simp [h2]
  rw [if_pos (by omega)]
  simp [h1]
theorem small_f (L : List S35) (hL : L.length ≤ 9223372036854775807) (k : Nat) (hk : L.length + 1 ≤ k) : remoraref20_Small.f k L = some (smallB L) := small_l L hL L.length 0 k (by omega) (by omega) (by omega)
theorem smallB_facts {L : List S35} (h : smallB L = true) : L.length ≤ 60 ∧ ∀ x ∈ L, x.f0.size ≤ 600 ∧ x.f4.size ≤ 600 ∧ x.f5.size ≤ 100 := by
 unfold smallB at h
 simp only [Bool.and_eq_true, decide_eq_true_eq, List.all_eq_true] at h
 refine ⟨h.2, fun x hx => ?_⟩
 have := h.1 x hx
 unfold smallX at this
 simp only [Bool.and_eq_true, decide_eq_true_eq] at this
 exact ⟨this.1.1, this.1.2, this.2⟩
theorem light_small {L : List S35} (h : smallB L = true) : light20 L := ⟨by have := (smallB_facts h).1; omega, fun x hx => by have := (smallB_facts h).2 x hx; omega⟩
theorem bnd_small {L : List S35} (h : smallB L = true) : ∀ x ∈ L, bnd35 x := fun x hx => by
 have := (smallB_facts h).2 x hx
 exact ⟨by omega, by omega, by omega⟩
def exA : S35 := ⟨(⟨#[97]⟩ : ByteArray), 1, 3, (⟨0, 0, 0, 0, 0⟩ : S33), (⟨#[]⟩ : ByteArray), (⟨#[]⟩ : ByteArray), 0⟩
def exB : S35 := ⟨(⟨#[97, 47, 98]⟩ : ByteArray), 1, 0, (⟨0, 0, 0, 0, 0⟩ : S33), (⟨#[]⟩ : ByteArray), (⟨#[]⟩ : ByteArray), 0⟩
theorem exA_check : checkL20 [exA] = 0 := by kernel_rfl
theorem exB_check : checkL20 [exB] = 12 := by kernel_rfl
theorem exA_enc : encL [exA] = [1, 0, 1, 97, 1, 3, 0, 0, 0, 0, 0, 0] := by kernel_rfl
theorem awake20 (k : Nat) (hk : 3000 ≤ k) : remoralaw20_awake.f k = some true := by
 have lA : light20 [exA] := ⟨by decide, fun x hx => by rw [List.mem_singleton.1 hx]; decide⟩
 have lB : light20 [exB] := ⟨by decide, fun x hx => by rw [List.mem_singleton.1 hx]; decide⟩
 have bA : ∀ x ∈ [exA], bnd35 x := fun x hx => by rw [List.mem_singleton.1 hx]; exact ⟨by decide, by decide, by decide⟩
 have hB := bytes20_f [exA] lA bA k hk
 rw [exA_check, if_pos rfl, exA_enc] at hB
 have hC : flist_Check.f [exB] = some 12 := by rw [flist_Check.f, if_pos lB, exB_check]
 unfold remoralaw20_awake.f
 rw [show ([(⟨(⟨#[97]⟩ : ByteArray), 1, 3, (⟨0, 0, 0, 0, 0⟩ : S33), (⟨#[]⟩ : ByteArray), (⟨#[]⟩ : ByteArray), 0⟩ : S35)] : List S35) = [exA] from rfl, hB, Option.bind_some, if_pos rfl, if_pos (by rfl), if_pos (by decide), if_pos (by kernel_rfl), show ([(⟨(⟨#[97, 47, 98]⟩ : ByteArray), 1, 0, (⟨0, 0, 0, 0, 0⟩ : S33), (⟨#[]⟩ : ByteArray), (⟨#[]⟩ : ByteArray), 0⟩ : S35)] : List S35) = [exB] from rfl, hC]
 rfl
theorem flistChecks_f (L : List S35) (hL : L.length ≤ 9223372036854775807) : ∃ k, remoralaw20_FlistChecks.f k L = some true := by
 refine ⟨L.length + 1003010000, ?_⟩
 obtain ⟨k, hk⟩ : ∃ k, k = L.length + 1003010000 := ⟨_, rfl⟩
 rw [← hk]
 unfold remoralaw20_FlistChecks.f
 rw [small_f L hL k (by omega), Option.bind_some, awake20 k (by omega)]
 by_cases h : smallB L = true
 ·rw [if_pos h, flist_Check.f, if_pos (light_small h), Option.bind_some, rcheck20_f L (light_small h) k (by omega), Option.bind_some, if_pos rfl]
  rfl
 rw [if_neg h]
 rfl
theorem flistBytes_f (L : List S35) (hL : L.length ≤ 9223372036854775807) : ∃ k, remoralaw20_FlistBytes.f k L = some true := by
 refine ⟨L.length + 2000000000, ?_⟩
 obtain ⟨k, hk⟩ : ∃ k, k = L.length + 2000000000 := ⟨_, rfl⟩
 rw [← hk]
 unfold remoralaw20_FlistBytes.f
 rw [small_f L hL k (by omega), Option.bind_some, awake20 k (by omega)]
 by_cases h : smallB L = true
 ·rw [if_pos h, bytes20_f L (light_small h) (bnd_small h) k (by omega), Option.bind_some, rbytes20_f L (light_small h) (bnd_small h) k (by omega), Option.bind_some, if_pos rfl, if_pos rfl]
  rfl
 rw [if_neg h]
 rfl
end Go.Proofs.YtcdmgdegohcmhaaDoor.PA
namespace Go.Proofs.YtcdmgdegohcmhaaDoor.PA
open Go.RowKit Go.Proofs.YtcdmgdegohcmhaaDoorW.PrintWords Go.Proofs.YtcdmgdegohcmhaaDoorW.PrintLast Go.Proofs.YtcdmgdegohcmhaaDoorW.PrintMore
attribute [local go_sem] max2_int min2_int max_two min_two max_three min_three max_four min_four
set_option linter.unusedVariables false
set_option linter.unusedSimpArgs false
theorem bulk_pos {H : Type} : ∀ d : DataW H, 1 ≤ Rows.uptoBulk d
 | .lit (.string b) => by simp [Rows.uptoBulk]
 | .lit (.int _ _) => by simp [Rows.uptoBulk]
 | .lit (.bool _) => by simp [Rows.uptoBulk]
 | .lit (.float _ _) => by simp [Rows.uptoBulk]
 | .lit .nil => by simp [Rows.uptoBulk]
 | .nil => by simp [Rows.uptoBulk]
 | .ptr d => by simp [Rows.uptoBulk]
 | .slice _ _ => by simp [Rows.uptoBulk]
 | .agg _ => by simp [Rows.uptoBulk]
 | .iface _ _ => by simp [Rows.uptoBulk]
 | .map _ => by simp [Rows.uptoBulk]
 | .held _ => by simp [Rows.uptoBulk]
theorem bulk_len {H : Type} : ∀ l : List (DataW H), l.length ≤ Rows.uptoBulkAll l
 | [] => by simp [Rows.uptoBulkAll]
 | d :: r => by
  have h1 := bulk_pos d
  have h2 := bulk_len r
  simp only [List.length_cons, Rows.uptoBulkAll]
  omega
theorem bulk_mem {H : Type} : ∀ (l : List (DataW H)) (d : DataW H), d ∈ l → Rows.uptoBulk d ≤ Rows.uptoBulkAll l
 | [], d, h => by simp at h
 | e :: r, d, h => by
  simp only [Rows.uptoBulkAll]
  rcases List.mem_cons.1 h with rfl | h
  ·omega
  have := bulk_mem r d h
  omega
structure Opn {α : Type} (P : Program) (t : TypeId) (d : Kd α) (wf : Nat → α → Prop) : Prop where
 sz : d.sz = P.cellsOf t
 mono : ∀ n m a, n ≤ m → wf n a → wf m a
 op : ∀ {H : Type} (enc : TypeId × Value → H) (w : World) (base : Nat) (spare : Nat → Bool) (held : Bool) (fuel : Nat) (cs : List Value) (x : DataW H × List MemPlace), DataW.trod enc P w base spare held fuel t cs = some x → ∃ a, d.K w a cs ∧ wf (Rows.uptoBulk x.1) a
section
variable {P : Program} {t : TypeId}
theorem opn_int {k : IntKind} (ht : P.underlying t = some (.int k)) (hs : P.cellsOf t = 1) : Opn P t (Kd.int k) (fun _ a => (Lit.int k a).wf = true) where
 sz := hs.symm
 mono := fun _ _ _ _ h => h
 op := fun enc w base spare held fuel cs x h => by
  obtain ⟨n, rfl, rfl, hw⟩ := DataW.trod_int ht h
  exact ⟨n, rfl, hw⟩
theorem opn_string (ht : P.underlying t = some .string) (hs : P.cellsOf t = 1) : Opn P t Kd.string (fun n s => s.size < n ∧ s.size ≤ maxLen) where
 sz := hs.symm
 mono := fun _ _ _ h h' => ⟨Nat.lt_of_lt_of_le h'.1 h, h'.2⟩
 op := fun enc w base spare held fuel cs x h => by
  obtain ⟨s, rfl, rfl, hw⟩ := DataW.trod_string ht h
  refine ⟨s, rfl, ?_, hw⟩
  simp [Rows.uptoBulk]
theorem cells_get {w : World} {base : Nat} {a : Addr} {n : Nat} {cs : List Value} (h : w.cells? base a n = some cs) : cs.length = n ∧ ∀ i u, cs[i]? = some u → w.cell? (a.add i) = some u := by
 unfold World.cells? at h
 split at h
 ·refine ⟨by simpa using mapM_some_length h, fun i u hu => ?_⟩
  have hl := mapM_some_length h
  have hi : i < cs.length := (List.getElem?_eq_some_iff.1 hu).1
  have := mapM_some_get h i i (by rw [List.getElem?_range]; simp at hl; omega)
  rw [this, hu]
 cases h
theorem add_add (a : Addr) (i j : Nat) : (a.add i).add j = a.add (i + j) := by
 unfold Addr.add
 by_cases hi : i = 0 <;> by_cases hj : j = 0 <;> simp [hi, hj, Nat.add_assoc]
theorem opn_slice {α : Type} {e : TypeId} {d : Kd α} {wf : Nat → α → Prop} (ht : P.underlying t = some (.slice e)) (hs : P.cellsOf t = 1) (O : Opn P e d wf) :
  Opn P t (Kd.slice e d) (fun n xs => xs.length < n ∧ ∀ a ∈ xs, wf n a) where
 sz := hs.symm
 mono := fun n m a h h' => ⟨Nat.lt_of_lt_of_le h'.1 h, fun x hx => O.mono n m x h (h'.2 x hx)⟩
 op := fun enc w base spare held fuel cs x h => by
  rcases DataW.trod_slice ht h with ⟨rfl, rfl⟩ | ⟨a, len, cap, elems, rest, n, _, rfl, rfl, hb, hl, hm, hlen, hel, hsp, hns⟩
  ·exact ⟨[], ⟨none, 0, rfl, Nat.le_refl _, Kd.C_nil _ _⟩, by simp [Rows.uptoBulk], by simp⟩
  have each : ∀ i, i < len → ∃ y, elems[i]? = some y ∧ ∃ cs', w.cells? base (a.add (i * P.cellsOf e)) (P.cellsOf e) = some cs' ∧ ∃ v, d.K w v cs' ∧ wf (Rows.uptoBulk y.1) v := by
   intro i hi
   have h1 := hel i hi
   have h2 : elems[i]? = some (elems[i]'(by omega)) := List.getElem?_eq_getElem (by omega)
   rw [h2, Option.bind_eq_some_iff] at h1
   obtain ⟨cs', hc, ht'⟩ := h1
   obtain ⟨v, hv, hw⟩ := O.op enc w base spare held n cs' _ ht'
   exact ⟨_, h2, cs', hc, v, hv, hw⟩
  have ex : ∀ m, m ≤ len → ∃ xs : List α, xs.length = m ∧ ∀ i v, xs[i]? = some v → ∃ y, elems[i]? = some y ∧ ∃ cs', w.cells? base (a.add (i * P.cellsOf e)) (P.cellsOf e) = some cs' ∧ d.K w v cs' ∧ wf (Rows.uptoBulk y.1) v := by
   intro m
   induction m with
   | zero => exact fun _ => ⟨[], rfl, by simp⟩
   | succ m ih =>
    intro hm'
    obtain ⟨xs, hx, hg⟩ := ih (by omega)
    obtain ⟨y, hy, cs', hc, v, hv, hw⟩ := each m (by omega)
    refine ⟨xs ++ [v], by simp [hx], fun i u hu => ?_⟩
    by_cases hi : i < xs.length
    ·rw [List.getElem?_append_left hi] at hu
     exact hg i u hu
    rw [List.getElem?_append_right (by omega)] at hu
    have hi' : i = m := by
     have := (List.getElem?_eq_some_iff.1 hu).1
     simp at this
     omega
    subst hi'
    rw [hx, Nat.sub_self] at hu
    have : v = u := by simpa using hu
    subst this
    exact ⟨y, hy, cs', hc, hv, hw⟩
  obtain ⟨xs, hx, hg⟩ := ex len (Nat.le_refl _)
  have htot : Rows.uptoBulkAll (elems.map (·.1)) + 1 ≤ Rows.uptoBulk (DataW.slice (elems.map (·.1)) (rest.map (·.1))) := by
   simp only [Rows.uptoBulk]
   omega
  refine ⟨xs, ⟨some a, cap, by rw [hx], by omega, ⟨rfl, by unfold maxLen at hm; omega, fun _ => ⟨a, rfl, fun j p hp => ?_⟩⟩⟩, ?_, ?_⟩
  ·obtain ⟨y, hy, cs', hc, hk, hw⟩ := hg j p hp
   obtain ⟨g1, g2⟩ := cells_get hc
   refine ⟨cs', by rw [g1, O.sz], hk, fun i u hu => ?_⟩
   have := g2 i u hu
   rw [add_add] at this
   rw [O.sz]
   exact this
  ·have h1 := bulk_len (elems.map (·.1))
   simp only [List.length_map, hlen] at h1
   rw [hx]
   exact Nat.lt_of_lt_of_le (Nat.lt_succ_of_le h1) htot
  intro v hv
  obtain ⟨i, hi⟩ := List.getElem?_of_mem hv
  obtain ⟨y, hy, _, _, _, hw⟩ := hg i v hi
  refine O.mono _ _ _ ?_ hw
  have hmem : y.1 ∈ elems.map (·.1) := List.mem_map_of_mem (List.mem_of_getElem? hy)
  exact Nat.le_trans (bulk_mem _ _ hmem) (Nat.le_of_succ_le htot)
def OpnF {α : Type} (P : Program) (fs : List Field) (o : Nat) (d : Kd α) (wf : Nat → α → Prop) : Prop :=
 (∀ n m a, n ≤ m → wf n a → wf m a) ∧
 ∀ {H : Type} (enc : TypeId × Value → H) (w : World) (base : Nat) (spare : Nat → Bool) (held : Bool) (fuel : Nat) (cs : List Value) (ys : List (DataW H × List MemPlace)) (N : Nat),
  (∀ (i : Nat) (f : Field), fs[i]? = some f → ∃ y, ys[i]? = some y ∧ Rows.uptoBulk y.1 ≤ N ∧ DataW.trod enc P w base spare held fuel f.type ((cs.drop f.offset).take (P.cellsOf f.type)) = some y) →
  ∃ a, d.K w a ((cs.drop o).take d.sz) ∧ wf N a
theorem opnF_one {α : Type} {d : Kd α} {wf : Nat → α → Prop} {f : Field} {o : Nat} (ho : f.offset = o) (O : Opn P f.type d wf) : OpnF P [f] o d wf := by
 refine ⟨O.mono, fun enc w base spare held fuel cs ys N h => ?_⟩
 obtain ⟨y, hy, hN, ht⟩ := h 0 f rfl
 obtain ⟨a, ha, hw⟩ := O.op enc w base spare held fuel _ y ht
 refine ⟨a, ?_, O.mono _ _ _ hN hw⟩
 rw [O.sz, ← ho]
 exact ha
theorem opnF_cons {α β : Type} {d : Kd α} {d' : Kd β} {wf : Nat → α → Prop} {wf' : Nat → β → Prop} {f : Field} {fs : List Field} {o o' : Nat} (ho : f.offset = o) (O : Opn P f.type d wf) (he : o' = o + d.sz) (F : OpnF P fs o' d' wf') :
  OpnF P (f :: fs) o (Kd.pair d d') (fun n x => wf n x.1 ∧ wf' n x.2) := by
 refine ⟨fun n m a h h' => ⟨O.mono _ _ _ h h'.1, F.1 _ _ _ h h'.2⟩, fun enc w base spare held fuel cs ys N h => ?_⟩
 obtain ⟨y, hy, hN, ht⟩ := h 0 f rfl
 obtain ⟨a, ha, hw⟩ := O.op enc w base spare held fuel _ y ht
 obtain ⟨b, hb, hw'⟩ := F.2 enc w base spare held fuel cs (ys.drop 1) N (fun i g hg => by
  obtain ⟨z, hz, h1, h2⟩ := h (i + 1) g (by simpa using hg)
  refine ⟨z, ?_, h1, h2⟩
  rw [List.getElem?_drop, Nat.add_comm]
  exact hz)
 refine ⟨(a, b), ⟨(cs.drop o).take d.sz, (cs.drop o').take d'.sz, ?_, ?_, hb⟩, O.mono _ _ _ hN hw, hw'⟩
 ·show (cs.drop o).take (d.sz + d'.sz) = _
  rw [List.take_add, List.drop_drop, he]
 rw [O.sz, ← ho]
 exact ha
theorem opn_struct {α β : Type} {fs : Array Field} {d : Kd α} {wf : Nat → α → Prop} (f : β → α) (g : α → β) (hfg : ∀ a, f (g a) = a) (ht : P.underlying t = some (.struct fs)) (F : OpnF P fs.toList 0 d wf) (hs : d.sz = P.cellsOf t) :
  Opn P t (Kd.iso d f) (fun n x => wf n (f x)) where
 sz := hs
 mono := fun n m a h h' => F.1 n m (f a) h h'
 op := fun enc w base spare held fuel cs x h => by
  obtain ⟨xs, n, rfl, rfl, hl, hlen, hf⟩ := DataW.trod_struct ht h
  obtain ⟨a, ha, hw⟩ := F.2 enc w base spare held n cs xs (Rows.uptoBulk (DataW.agg (xs.map (·.1)))) (fun i q hq => by
   have h1 := hf i q (by simpa using hq)
   have hi : i < xs.length := by
    have := (List.getElem?_eq_some_iff.1 hq).1
    simp at this
    omega
   rw [List.getElem?_eq_getElem hi] at h1
   refine ⟨_, List.getElem?_eq_getElem hi, ?_, h1⟩
   have hmem : (xs[i]).1 ∈ xs.map (·.1) := List.mem_map_of_mem (List.getElem_mem hi)
   have := bulk_mem _ _ hmem
   simp only [Rows.uptoBulk]
   omega)
  refine ⟨g a, ?_, by rw [hfg]; exact hw⟩
  show d.K w (f (g a)) cs
  rw [hfg]
  rw [List.drop_zero, hs, ← hl, List.take_length] at ha
  exact ha
end
end Go.Proofs.YtcdmgdegohcmhaaDoor.PA
namespace Go.Proofs.YtcdmgdegohcmhaaDoor.PA
open Go.RowKit Go.Proofs.YtcdmgdegohcmhaaDoorW.PrintWords Go.Proofs.YtcdmgdegohcmhaaDoorW.PrintLast Go.Proofs.YtcdmgdegohcmhaaDoorW.PrintMore
attribute [local go_sem] max2_int min2_int max_two min_two max_three min_three max_four min_four
set_option linter.unusedVariables false
set_option linter.unusedSimpArgs false
theorem tabW_laid {W : World} (h : laidMetH Tryd.prog [("remora/crc.table", Go.Proofs.YtcdmgdegohcmhaaDoor.Rows.laid_remora_crc_table)] W) : TabW W := by
 rw [MakeChecks.laidMetH_plain _ _ _ (by kernel_rfl)] at h
 obtain ⟨ps, ⟨g, t, cs, fuel, p, q, hg, ht, hv, hd, _, _⟩, _, _⟩ := h
 obtain rfl := Option.some.inj ((show Tryd.prog.globalNamed "remora/crc.table" = some 1 by kernel_rfl).symm.trans hg)
 obtain rfl := Option.some.inj ((show (Tryd.prog.globals[1]?).map (·.type) = some 103 by kernel_rfl).symm.trans ht)
 obtain ⟨xs, m, _, ex, _, hl, hel⟩ := DataW.trod_array Tryd.underlying103 hd
 have c5 : Tryd.prog.cellsOf 57 = 1 := by kernel_rfl
 intro r hr
 have hE := hel r hr
 rw [c5, Nat.mul_one, List.getElem?_eq_getElem (by omega)] at hE
 obtain ⟨z, e1, e2, _⟩ := DataW.trod_int Tryd.underlying57 hE
 have hlen : tabN.length = 16 := by kernel_rfl
 have e3 : (xs.map (·.1)) = tabN.map fun n => .lit (.int .u32 n) := (DataW.agg.inj (Prod.mk.inj ex).1).symm
 have e4 : (xs.map (·.1))[r]? = (tabN.map fun n => (DataW.lit (.int .u32 n) : DataW Unit))[r]? := by rw [e3]
 rw [List.getElem?_map, List.getElem?_map, List.getElem?_eq_getElem (by omega : r < xs.length), List.getElem?_eq_getElem (by omega : r < tabN.length), e2] at e4
 have hz : z = tabN.getD r 0 := by
  simp only [Option.map_some, Option.some.injEq, DataW.lit.injEq, Lit.int.injEq, true_and] at e4
  rw [e4, List.getD, List.getElem?_eq_getElem (by omega : r < tabN.length)]; rfl
 rw [World.var?_cell hg hv r, ← hz]
 have : cs.toList[r]? = some (.int .u32 z) := by
  have h0 : ((cs.toList.drop r).take 1)[0]? = some (.int .u32 z) := by rw [e1]; rfl
  simpa using h0
 simpa using this
end Go.Proofs.YtcdmgdegohcmhaaDoor.PA
