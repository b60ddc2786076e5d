/- flist.Check by its contract. -/
import Derived.Test.YtcdmgdegohcmhaaDoorMG1
import Derived.Test.YtcdmgdegohcmhaaDoorMG2
import Derived.Test.YtcdmgdegohcmhaaDoorMG3
import Derived.Maps.Keyed
import Derived.Maps.Own
import Derived.Maps.OwnOps
import Derived.Maps.OwnSet
import Derived.Maps.Views
import Derived.BigQuiet
import Derived.Carry
import Derived.Deep.QuietTactic
import Derived.Great.BuildSlice
import Derived.Outline
namespace Go.Proofs.YtcdmgdegohcmhaaDoor.PA
open Go.RowKit Go.Proofs.YtcdmgdegohcmhaaDoorW.PrintWords Go.Proofs.YtcdmgdegohcmhaaDoorW.PrintLast Go.Proofs.YtcdmgdegohcmhaaDoorW.PrintMore
attribute [local go_sem] max2_int min2_int max_two min_two max_three min_three max_four min_four   -- for this text's walks alone
set_option linter.unusedVariables false
set_option linter.unusedSimpArgs false
mutual
def remoraref20_Check.l0 : Nat → List (S35) → Int → Int → Option (Int)
 | 0, _, _, _ => none
 | k + 1, x0, x3, x4 => if x4 < (x0.length : Int) then (if 0 ≤ x4 then ((remoraref20_May.f k ((rd_T35 x0 x4).f0) ((rd_T35 x0 x4).f1) ((rd_T35 x0 x4).f2) ((rd_T35 x0 x4).f3.f0) ((rd_T35 x0 x4).f3.f1) ((rd_T35 x0 x4).f3.f2) ((rd_T35 x0 x4).f3.f3) ((rd_T35 x0 x4).f3.f4) ((rd_T35 x0 x4).f4) ((rd_T35 x0 x4).f5) ((rd_T35 x0 x4).f6)).bind fun t103 => (if t103 = 0 then (if x4 > 0 then (if 0 ≤ (wrap64 (x4 - 1)) then (if (wrap64 (x4 - 1)) < (x0.length : Int) then (remoraref20_Check.j1 k x0 x3 x4 (((rd_T35 x0 x4).f0).toList == ((rd_T35 x0 (wrap64 (x4 - 1))).f0).toList) ((rd_T35 x0 x4).f0) ((rd_T35 x0 x4).f1) ((rd_T35 x0 x4).f2) ((rd_T35 x0 x4).f3.f0) ((rd_T35 x0 x4).f3.f1) ((rd_T35 x0 x4).f3.f2) ((rd_T35 x0 x4).f3.f3) ((rd_T35 x0 x4).f3.f4) ((rd_T35 x0 x4).f4) ((rd_T35 x0 x4).f5) ((rd_T35 x0 x4).f6)) else (none)) else (none)) else (remoraref20_Check.j1 k x0 x3 x4 false ((rd_T35 x0 x4).f0) ((rd_T35 x0 x4).f1) ((rd_T35 x0 x4).f2) ((rd_T35 x0 x4).f3.f0) ((rd_T35 x0 x4).f3.f1) ((rd_T35 x0 x4).f3.f2) ((rd_T35 x0 x4).f3.f3) ((rd_T35 x0 x4).f3.f4) ((rd_T35 x0 x4).f4) ((rd_T35 x0 x4).f5) ((rd_T35 x0 x4).f6))) else (some t103))) else (none)) else (some 0)
def remoraref20_Check.j1 : Nat → List (S35) → Int → Int → Bool → ByteArray → Int → Int → Int → Int → Int → Int → Int → ByteArray → ByteArray → Int → Option (Int)
 | 0, _, _, _, _, _, _, _, _, _, _, _, _, _, _, _ => none
 | k + 1, x0, x3, x4, x37, x103000, x103001, x103002, x103003, x103004, x103005, x103006, x103007, x103008, x103009, x103010 => if x37 = true then (some 11) else (if x4 > 0 then (if 0 ≤ (wrap64 (x4 - 1)) then (if (wrap64 (x4 - 1)) < (x0.length : Int) then ((remoraref13_Less.f k x103000 ((rd_T35 x0 (wrap64 (x4 - 1))).f0)).bind fun t106 => (remoraref20_Check.j2 k x0 x3 x4 t106 x103000 x103001 x103002 x103003 x103004 x103005 x103006 x103007 x103008 x103009 x103010)) else (none)) else (none)) else (remoraref20_Check.j2 k x0 x3 x4 false x103000 x103001 x103002 x103003 x103004 x103005 x103006 x103007 x103008 x103009 x103010))
def remoraref20_Check.j2 : Nat → List (S35) → Int → Int → Bool → ByteArray → Int → Int → Int → Int → Int → Int → Int → ByteArray → ByteArray → Int → Option (Int)
 | 0, _, _, _, _, _, _, _, _, _, _, _, _, _, _, _ => none
 | k + 1, x0, x3, x4, x50, x103000, x103001, x103002, x103003, x103004, x103005, x103006, x103007, x103008, x103009, x103010 => if x50 = true then (some 3) else ((remoraref13_Parent.f k x103000).bind fun t107 => (if 0 ≤ x4 then (if x4 ≤ (x0.length : Int) then ((remoraref20_Find.f k (x0.take (x4 : Int).toNat) t107).bind fun bt112 => (if t107.toList = ([] : List UInt8) then (remoraref20_Check.j3 k x0 x3 x4 false x103000 x103001 x103002 x103003 x103004 x103005 x103006 x103007 x103008 x103009 x103010) else (if bt112.2 = true then (if 0 ≤ bt112.1 then (if bt112.1 < (x0.length : Int) then (remoraref20_Check.j3 k x0 x3 x4 (((rd_T35 x0 bt112.1).f1) != 2) x103000 x103001 x103002 x103003 x103004 x103005 x103006 x103007 x103008 x103009 x103010) else (none)) else (none)) else (remoraref20_Check.j3 k x0 x3 x4 true x103000 x103001 x103002 x103003 x103004 x103005 x103006 x103007 x103008 x103009 x103010)))) else (none)) else (none)))
def remoraref20_Check.j3 : Nat → List (S35) → Int → Int → Bool → ByteArray → Int → Int → Int → Int → Int → Int → Int → ByteArray → ByteArray → Int → Option (Int)
 | 0, _, _, _, _, _, _, _, _, _, _, _, _, _, _, _ => none
 | k + 1, x0, x3, x4, x75, x103000, x103001, x103002, x103003, x103004, x103005, x103006, x103007, x103008, x103009, x103010 => if x75 = true then (some 12) else (if x103010 > (wrap64 (x3 + 1)) then (some 5) else (remoraref20_Check.l0 k x0 (mx x3 x103010) (wrap64 (x4 + 1))))
end
def remoraref20_Check.f (k : Nat) (l0 : List (S35)) : Option (Int) := remoraref20_Check.l0 k l0 0 0
def remoraref20_Check.T9 : Bool × List (List Nat × List Nat) := (true, [([], []), ([0], [0]), ([1], [1]), ([2], [2]), ([3, 2], [2, 3]), ([2], [2]), ([2], [2]), ([6, 2], [2, 6]), ([5, 7, 2], [2, 5, 7]), ([8, 2], [2, 8]), ([9, 2], [2, 9]), ([4, 10, 2], [2, 4, 10]), ([2, 11], [2, 11])])
def remoraref20_Check.B9 : List Nat := [0, 1, 3, 7, 15, 7, 7, 71, 231, 487, 999, 2047, 4095]
theorem remoraref20_Check.tab9 : rtab .any (opsOf Tryd.f13 9) = remoraref20_Check.T9 := by kernel_rfl
theorem remoraref20_Check.bits9 : waitsOk remoraref20_Check.T9.2 remoraref20_Check.B9 = true := by kernel_rfl
def remoraref20_Check.T11 : Bool × List (List Nat × List Nat) := (true, [([], []), ([0], [0]), ([1], [1]), ([2], [2]), ([3, 2], [2, 3]), ([2], [2]), ([2], [2]), ([6, 2], [2, 6]), ([5, 7, 2], [2, 5, 7]), ([8, 2], [2, 8]), ([9, 2], [2, 9]), ([4, 10, 2, 2], [2, 4, 10]), ([2, 11], [2, 11])])
def remoraref20_Check.B11 : List Nat := [0, 1, 3, 7, 15, 7, 7, 71, 231, 487, 999, 2047, 4095]
theorem remoraref20_Check.tab11 : rtab .any (opsOf Tryd.f13 11) = remoraref20_Check.T11 := by kernel_rfl
theorem remoraref20_Check.bits11 : waitsOk remoraref20_Check.T11.2 remoraref20_Check.B11 = true := by kernel_rfl
set_option maxHeartbeats 8000000 in
set_option maxRecDepth 100000 in
theorem remoraref20_Check.calls (k : Nat) (A0 : Option Addr) (c0 : Nat) (l0 : List (S35)) (r : Int) (w : World) (hr0 : Kd.C k35 w A0 l0.length l0) (hc0 : l0.length ≤ c0) (h : remoraref20_Check.f k l0 = some r) :
  Calls Tryd.prog 13 #[.slice A0 l0.length c0] w fun e w' => e = .returned (.int .i64 r) ∧ Below w.heap.size w w' := by
 have hu35 := Tryd.underlying35
 have HR0 := Aside0.mk hr0
 have HC0 := Aside0.mk hc0
 clear hr0 hc0
 have HB := Aside0.mk (Below.refl w.heap.size w)
 have H : (remoraref20_Check.l0 k l0 0 0) = some r := h
 clear h
 have H' := Aside0.mk H
 clear H
 go_enter Tryd.func13, Tryd.ntmps13
 go_wp2
 go_loopg [3, 4] k (fun kq v3 v4 w' => ∃ (x3_1 : Int) (x4_1 : Int), v3 = .int .i64 x3_1 ∧ v4 = .int .i64 x4_1 ∧ Aside0 (remoraref20_Check.l0 kq l0 x3_1 x4_1 = some r) ∧ Aside0 (kq ≤ k) ∧ Aside0 (Below w.heap.size w w'))
 case atStart => exact ⟨(0), (0), (by first | rfl | (simp; done) | (simp [*]; done)), (by first | rfl | (simp; done) | (simp [*]; done)), H', ⟨Nat.le_refl _⟩, ⟨upB HB.out⟩⟩
 case round =>
  clear H'
  try clear c1
  obtain ⟨x3_1, x4_1, rfl, rfl, HA, HK1, HB⟩ := hrel
  cases gk with
  | zero => exact absurd HA.out (by simp [remoraref20_Check.l0])
  | succ k1 =>
   have H := HA.out
   clear HA
   simp only [remoraref20_Check.l0] at H
   by_cases c2 : x4_1 < (l0.length : Int)
   ·rw [if_pos c2] at H
    have c2b0 : decide (x4_1 < (l0.length : Int)) = true := decide_eq_true c2
    clear c2
    by_cases c3 : 0 ≤ x4_1
    ·rw [if_pos c3] at H
     have c3b0 : decide (0 ≤ x4_1) = true := decide_eq_true c3
     clear c3
     replace H := Option.bind_eq_some_iff.mp H
     obtain ⟨t103, A40, H⟩ := H
     replace H : (if t103 = 0 then (if x4_1 > 0 then (if 0 ≤ (wrap64 (x4_1 - 1)) then (if (wrap64 (x4_1 - 1)) < (l0.length : Int) then (remoraref20_Check.j1 k1 l0 x3_1 x4_1 (((rd_T35 l0 x4_1).f0).toList == ((rd_T35 l0 (wrap64 (x4_1 - 1))).f0).toList) ((rd_T35 l0 x4_1).f0) ((rd_T35 l0 x4_1).f1) ((rd_T35 l0 x4_1).f2) ((rd_T35 l0 x4_1).f3.f0) ((rd_T35 l0 x4_1).f3.f1) ((rd_T35 l0 x4_1).f3.f2) ((rd_T35 l0 x4_1).f3.f3) ((rd_T35 l0 x4_1).f3.f4) ((rd_T35 l0 x4_1).f4) ((rd_T35 l0 x4_1).f5) ((rd_T35 l0 x4_1).f6)) else (none)) else (none)) else (remoraref20_Check.j1 k1 l0 x3_1 x4_1 false ((rd_T35 l0 x4_1).f0) ((rd_T35 l0 x4_1).f1) ((rd_T35 l0 x4_1).f2) ((rd_T35 l0 x4_1).f3.f0) ((rd_T35 l0 x4_1).f3.f1) ((rd_T35 l0 x4_1).f3.f2) ((rd_T35 l0 x4_1).f3.f3) ((rd_T35 l0 x4_1).f3.f4) ((rd_T35 l0 x4_1).f4) ((rd_T35 l0 x4_1).f5) ((rd_T35 l0 x4_1).f6))) else (some t103)) = some r := H
     have A4 := Aside0.mk A40
     clear A40
     by_cases c5 : t103 = 0
     ·rw [if_pos c5] at H
      have c5b0 : (t103 == 0) = true := beq_iff_eq.mpr c5
      have c5b1 : (t103 != 0) = false := bne_eq_false_iff_eq.mpr c5
      clear c5
      have HC6 := Aside0.mk H
      clear H
      have p101 : 0 ≤ (x4_1 : Int) := of_decide_eq_true (by first | (with_reducible assumption) | assumption)
      have q101 : x4_1 < (l0.length : Int) := of_decide_eq_true (by first | (with_reducible assumption) | assumption)
      obtain ⟨ad101, e101, hx101_0, hx101_1, hx101_2, hx101_3, hx101_4, hx101_5, hx101_6, hx101_7, hx101_8, hx101_9, hx101_10⟩ := at_T35 HR0.out x4_1 p101 q101
      cases e101
      replace hx101_0 := (HB.out.cell (World.block_lt_of_cell? w _ hx101_0)).trans hx101_0
      replace hx101_1 := (HB.out.cell (World.block_lt_of_cell? w _ hx101_1)).trans hx101_1
      replace hx101_2 := (HB.out.cell (World.block_lt_of_cell? w _ hx101_2)).trans hx101_2
      replace hx101_3 := (HB.out.cell (World.block_lt_of_cell? w _ hx101_3)).trans hx101_3
      replace hx101_4 := (HB.out.cell (World.block_lt_of_cell? w _ hx101_4)).trans hx101_4
      replace hx101_5 := (HB.out.cell (World.block_lt_of_cell? w _ hx101_5)).trans hx101_5
      replace hx101_6 := (HB.out.cell (World.block_lt_of_cell? w _ hx101_6)).trans hx101_6
      replace hx101_7 := (HB.out.cell (World.block_lt_of_cell? w _ hx101_7)).trans hx101_7
      replace hx101_8 := (HB.out.cell (World.block_lt_of_cell? w _ hx101_8)).trans hx101_8
      replace hx101_9 := (HB.out.cell (World.block_lt_of_cell? w _ hx101_9)).trans hx101_9
      replace hx101_10 := (HB.out.cell (World.block_lt_of_cell? w _ hx101_10)).trans hx101_10
      replace p101 := eq_true p101
      replace q101 := eq_true q101
      go_upto_region 9 with (first | ((with_reducible refine gate_dst (N := 5) rfl ?_); refine box_event ?hg (N := 5) ?hd (cs := #[.string (⟨#[]⟩ : ByteArray), .int .i64 0, .int .i64 0, .int .i64 0, .int .i64 0, .int .i64 0, .int .i64 0, .int .i64 0, .string (⟨#[]⟩ : ByteArray), .string (⟨#[]⟩ : ByteArray), .int .i64 0]) (t := 35) ?hr ?_; (case hd => rfl); (case hg => rfl); (case hr => first | (go_simp; done) | (go_simp; rfl)); intro gb102 hg w7 hbox hb; have n0_ := Aside0.mk (below_step (upB HB.out) hb); have n1_ := Aside0.mk (hbox); have n2_ := Aside0.mk ((by rw [hg]; exact (below_size (upB HB.out)) : w.heap.size ≤ gb102)); have n3_ := Aside0.mk ((by rw [hg]; exact (below_size (upB HB.out)) : w.heap.size ≤ gb102)); clear HB; have HB := n0_; have BK102 := n1_; have GW102 := n2_; have GE102 := n3_; clear n0_ n1_ n2_ n3_; clear hb hbox hg; have hcz8_0 : w7.cell? ⟨gb102, 0, none⟩ = some (.string (⟨#[]⟩ : ByteArray)) := (blk_cell BK102.out 0).trans rfl; have hcz8_1 : w7.cell? ⟨gb102, 1, none⟩ = some (.int .i64 0) := (blk_cell BK102.out 1).trans rfl; have hcz8_2 : w7.cell? ⟨gb102, 2, none⟩ = some (.int .i64 0) := (blk_cell BK102.out 2).trans rfl; have hcz8_3 : w7.cell? ⟨gb102, 3, none⟩ = some (.int .i64 0) := (blk_cell BK102.out 3).trans rfl; have hcz8_4 : w7.cell? ⟨gb102, 4, none⟩ = some (.int .i64 0) := (blk_cell BK102.out 4).trans rfl; have hcz8_5 : w7.cell? ⟨gb102, 5, none⟩ = some (.int .i64 0) := (blk_cell BK102.out 5).trans rfl; have hcz8_6 : w7.cell? ⟨gb102, 6, none⟩ = some (.int .i64 0) := (blk_cell BK102.out 6).trans rfl; have hcz8_7 : w7.cell? ⟨gb102, 7, none⟩ = some (.int .i64 0) := (blk_cell BK102.out 7).trans rfl; have hcz8_8 : w7.cell? ⟨gb102, 8, none⟩ = some (.string (⟨#[]⟩ : ByteArray)) := (blk_cell BK102.out 8).trans rfl; have hcz8_9 : w7.cell? ⟨gb102, 9, none⟩ = some (.string (⟨#[]⟩ : ByteArray)) := (blk_cell BK102.out 9).trans rfl; have hcz8_10 : w7.cell? ⟨gb102, 10, none⟩ = some (.int .i64 0) := (blk_cell BK102.out 10).trans rfl; have hfz8_0 := blk_frozen BK102.out 0; have hfz8_1 := blk_frozen BK102.out 1; have hfz8_2 := blk_frozen BK102.out 2; have hfz8_3 := blk_frozen BK102.out 3; have hfz8_4 := blk_frozen BK102.out 4; have hfz8_5 := blk_frozen BK102.out 5; have hfz8_6 := blk_frozen BK102.out 6; have hfz8_7 := blk_frozen BK102.out 7; have hfz8_8 := blk_frozen BK102.out 8; have hfz8_9 := blk_frozen BK102.out 9; have hfz8_10 := blk_frozen BK102.out 10) | ((with_reducible refine gate_callee (f := 31) rfl ?_); refine goesL_ (some 21) rfl rfl Tryd.func31 (by kernel_rfl) rfl #[.agg #[.string ((rd_T35 l0 x4_1).f0), .int .i64 ((rd_T35 l0 x4_1).f1), .int .i64 ((rd_T35 l0 x4_1).f2), .int .i64 ((rd_T35 l0 x4_1).f3.f0), .int .i64 ((rd_T35 l0 x4_1).f3.f1), .int .i64 ((rd_T35 l0 x4_1).f3.f2), .int .i64 ((rd_T35 l0 x4_1).f3.f3), .int .i64 ((rd_T35 l0 x4_1).f3.f4), .string ((rd_T35 l0 x4_1).f4), .string ((rd_T35 l0 x4_1).f5), .int .i64 ((rd_T35 l0 x4_1).f6)]] rfl (by (try simp only [List.map_toArray, List.map_cons, List.map_nil]); first | done | rfl | (simp only [List.length_drop, List.length_take]; rfl)) ?_; (with_reducible refine (remoraref20_May.calls k1 ((rd_T35 l0 x4_1).f0) ((rd_T35 l0 x4_1).f1) ((rd_T35 l0 x4_1).f2) ((rd_T35 l0 x4_1).f3.f0) ((rd_T35 l0 x4_1).f3.f1) ((rd_T35 l0 x4_1).f3.f2) ((rd_T35 l0 x4_1).f3.f3) ((rd_T35 l0 x4_1).f3.f4) ((rd_T35 l0 x4_1).f4) ((rd_T35 l0 x4_1).f5) ((rd_T35 l0 x4_1).f6) t103 _ A4.out).mono ?_); rintro e w9 ⟨rfl, hb⟩; refine ⟨_, rfl, ?_⟩; have n0_ := Aside0.mk (blk_below (g := gb102) (o := .cells #[.string ((rd_T35 l0 x4_1).f0), .int .i64 ((rd_T35 l0 x4_1).f1), .int .i64 ((rd_T35 l0 x4_1).f2), .int .i64 ((rd_T35 l0 x4_1).f3.f0), .int .i64 ((rd_T35 l0 x4_1).f3.f1), .int .i64 ((rd_T35 l0 x4_1).f3.f2), .int .i64 ((rd_T35 l0 x4_1).f3.f3), .int .i64 ((rd_T35 l0 x4_1).f3.f4), .string ((rd_T35 l0 x4_1).f4), .string ((rd_T35 l0 x4_1).f5), .int .i64 ((rd_T35 l0 x4_1).f6)] 35 (0, 0)) (by (with_reducible repeat (first | refine blk_drewN ?_ _ | refine blk_drew ?_ | refine blk_alloc ?_ _)); refine blk_put (cs := #[.string ((rd_T35 l0 x4_1).f0), .int .i64 ((rd_T35 l0 x4_1).f1), .int .i64 ((rd_T35 l0 x4_1).f2), .int .i64 ((rd_T35 l0 x4_1).f3.f0), .int .i64 ((rd_T35 l0 x4_1).f3.f1), .int .i64 ((rd_T35 l0 x4_1).f3.f2), .int .i64 ((rd_T35 l0 x4_1).f3.f3), .int .i64 ((rd_T35 l0 x4_1).f3.f4), .string ((rd_T35 l0 x4_1).f4), .string ((rd_T35 l0 x4_1).f5), .int .i64 0]) ?_ 10 _ rfl; (with_reducible repeat (first | refine blk_drewN ?_ _ | refine blk_drew ?_ | refine blk_alloc ?_ _)); refine blk_put (cs := #[.string ((rd_T35 l0 x4_1).f0), .int .i64 ((rd_T35 l0 x4_1).f1), .int .i64 ((rd_T35 l0 x4_1).f2), .int .i64 ((rd_T35 l0 x4_1).f3.f0), .int .i64 ((rd_T35 l0 x4_1).f3.f1), .int .i64 ((rd_T35 l0 x4_1).f3.f2), .int .i64 ((rd_T35 l0 x4_1).f3.f3), .int .i64 ((rd_T35 l0 x4_1).f3.f4), .string ((rd_T35 l0 x4_1).f4), .string (⟨#[]⟩ : ByteArray), .int .i64 0]) ?_ 9 _ rfl; (with_reducible repeat (first | refine blk_drewN ?_ _ | refine blk_drew ?_ | refine blk_alloc ?_ _)); refine blk_put (cs := #[.string ((rd_T35 l0 x4_1).f0), .int .i64 ((rd_T35 l0 x4_1).f1), .int .i64 ((rd_T35 l0 x4_1).f2), .int .i64 ((rd_T35 l0 x4_1).f3.f0), .int .i64 ((rd_T35 l0 x4_1).f3.f1), .int .i64 ((rd_T35 l0 x4_1).f3.f2), .int .i64 ((rd_T35 l0 x4_1).f3.f3), .int .i64 ((rd_T35 l0 x4_1).f3.f4), .string (⟨#[]⟩ : ByteArray), .string (⟨#[]⟩ : ByteArray), .int .i64 0]) ?_ 8 _ rfl; (with_reducible repeat (first | refine blk_drewN ?_ _ | refine blk_drew ?_ | refine blk_alloc ?_ _)); refine blk_put (cs := #[.string ((rd_T35 l0 x4_1).f0), .int .i64 ((rd_T35 l0 x4_1).f1), .int .i64 ((rd_T35 l0 x4_1).f2), .int .i64 ((rd_T35 l0 x4_1).f3.f0), .int .i64 ((rd_T35 l0 x4_1).f3.f1), .int .i64 ((rd_T35 l0 x4_1).f3.f2), .int .i64 ((rd_T35 l0 x4_1).f3.f3), .int .i64 0, .string (⟨#[]⟩ : ByteArray), .string (⟨#[]⟩ : ByteArray), .int .i64 0]) ?_ 7 _ rfl; (with_reducible repeat (first | refine blk_drewN ?_ _ | refine blk_drew ?_ | refine blk_alloc ?_ _)); refine blk_put (cs := #[.string ((rd_T35 l0 x4_1).f0), .int .i64 ((rd_T35 l0 x4_1).f1), .int .i64 ((rd_T35 l0 x4_1).f2), .int .i64 ((rd_T35 l0 x4_1).f3.f0), .int .i64 ((rd_T35 l0 x4_1).f3.f1), .int .i64 ((rd_T35 l0 x4_1).f3.f2), .int .i64 0, .int .i64 0, .string (⟨#[]⟩ : ByteArray), .string (⟨#[]⟩ : ByteArray), .int .i64 0]) ?_ 6 _ rfl; (with_reducible repeat (first | refine blk_drewN ?_ _ | refine blk_drew ?_ | refine blk_alloc ?_ _)); refine blk_put (cs := #[.string ((rd_T35 l0 x4_1).f0), .int .i64 ((rd_T35 l0 x4_1).f1), .int .i64 ((rd_T35 l0 x4_1).f2), .int .i64 ((rd_T35 l0 x4_1).f3.f0), .int .i64 ((rd_T35 l0 x4_1).f3.f1), .int .i64 0, .int .i64 0, .int .i64 0, .string (⟨#[]⟩ : ByteArray), .string (⟨#[]⟩ : ByteArray), .int .i64 0]) ?_ 5 _ rfl; (with_reducible repeat (first | refine blk_drewN ?_ _ | refine blk_drew ?_ | refine blk_alloc ?_ _)); refine blk_put (cs := #[.string ((rd_T35 l0 x4_1).f0), .int .i64 ((rd_T35 l0 x4_1).f1), .int .i64 ((rd_T35 l0 x4_1).f2), .int .i64 ((rd_T35 l0 x4_1).f3.f0), .int .i64 0, .int .i64 0, .int .i64 0, .int .i64 0, .string (⟨#[]⟩ : ByteArray), .string (⟨#[]⟩ : ByteArray), .int .i64 0]) ?_ 4 _ rfl; (with_reducible repeat (first | refine blk_drewN ?_ _ | refine blk_drew ?_ | refine blk_alloc ?_ _)); refine blk_put (cs := #[.string ((rd_T35 l0 x4_1).f0), .int .i64 ((rd_T35 l0 x4_1).f1), .int .i64 ((rd_T35 l0 x4_1).f2), .int .i64 0, .int .i64 0, .int .i64 0, .int .i64 0, .int .i64 0, .string (⟨#[]⟩ : ByteArray), .string (⟨#[]⟩ : ByteArray), .int .i64 0]) ?_ 3 _ rfl; (with_reducible repeat (first | refine blk_drewN ?_ _ | refine blk_drew ?_ | refine blk_alloc ?_ _)); refine blk_put (cs := #[.string ((rd_T35 l0 x4_1).f0), .int .i64 ((rd_T35 l0 x4_1).f1), .int .i64 0, .int .i64 0, .int .i64 0, .int .i64 0, .int .i64 0, .int .i64 0, .string (⟨#[]⟩ : ByteArray), .string (⟨#[]⟩ : ByteArray), .int .i64 0]) ?_ 2 _ rfl; (with_reducible repeat (first | refine blk_drewN ?_ _ | refine blk_drew ?_ | refine blk_alloc ?_ _)); refine blk_put (cs := #[.string ((rd_T35 l0 x4_1).f0), .int .i64 0, .int .i64 0, .int .i64 0, .int .i64 0, .int .i64 0, .int .i64 0, .int .i64 0, .string (⟨#[]⟩ : ByteArray), .string (⟨#[]⟩ : ByteArray), .int .i64 0]) ?_ 1 _ rfl; (with_reducible repeat (first | refine blk_drewN ?_ _ | refine blk_drew ?_ | refine blk_alloc ?_ _)); refine blk_put (cs := #[.string (⟨#[]⟩ : ByteArray), .int .i64 0, .int .i64 0, .int .i64 0, .int .i64 0, .int .i64 0, .int .i64 0, .int .i64 0, .string (⟨#[]⟩ : ByteArray), .string (⟨#[]⟩ : ByteArray), .int .i64 0]) ?_ 0 _ rfl; (with_reducible repeat (first | refine blk_drewN ?_ _ | refine blk_drew ?_ | refine blk_alloc ?_ _)); exact BK102.out) hb); have n1_ := Aside0.mk (below_step (by repeat (first | (with_reducible first | exact HB.out | apply below_alloc | apply pw_below_drewN | apply below_drew1 | refine below_set ?_ GE102.out) | exact HB.out)) hb); clear BK102; clear HB; have BK102 := n0_; have HB := n1_; clear n0_ n1_; (try clear hb); (try clear hb2); (try clear hk); (try clear hi)))
      (try simp only [Act.put, List.setIfInBounds_toArray, List.set_cons_zero, List.set_cons_succ])
      go_cut [37] (fun v37 wc => ∃ (kq : Nat) (x37_5 : Bool), v37 = .bool x37_5 ∧ Aside0 (remoraref20_Check.j1 kq l0 x3_1 x4_1 x37_5 ((rd_T35 l0 x4_1).f0) ((rd_T35 l0 x4_1).f1) ((rd_T35 l0 x4_1).f2) ((rd_T35 l0 x4_1).f3.f0) ((rd_T35 l0 x4_1).f3.f1) ((rd_T35 l0 x4_1).f3.f2) ((rd_T35 l0 x4_1).f3.f3) ((rd_T35 l0 x4_1).f3.f4) ((rd_T35 l0 x4_1).f4) ((rd_T35 l0 x4_1).f5) ((rd_T35 l0 x4_1).f6) = some r) ∧ Aside0 (kq ≤ k1) ∧ Aside0 (wc.heap[gb102]? = some (.cells #[.string ((rd_T35 l0 x4_1).f0), .int .i64 ((rd_T35 l0 x4_1).f1), .int .i64 ((rd_T35 l0 x4_1).f2), .int .i64 ((rd_T35 l0 x4_1).f3.f0), .int .i64 ((rd_T35 l0 x4_1).f3.f1), .int .i64 ((rd_T35 l0 x4_1).f3.f2), .int .i64 ((rd_T35 l0 x4_1).f3.f3), .int .i64 ((rd_T35 l0 x4_1).f3.f4), .string ((rd_T35 l0 x4_1).f4), .string ((rd_T35 l0 x4_1).f5), .int .i64 ((rd_T35 l0 x4_1).f6)] 35 (0, 0))) ∧ Aside0 (Below w.heap.size w wc))
      case first =>
       have H := HC6.out
       clear HC6
       by_cases c10 : x4_1 > 0
       ·rw [if_pos c10] at H
        have c10b0 : decide (0 < x4_1) = true := decide_eq_true c10
        clear c10
        (first | rw [c10b0] | (simp only [i64_w, i32_w]; rw [c10b0]) | skip)
        obtain ⟨ji11, hji11⟩ : ∃ j_ : Int, (wrap64 (x4_1 - 1)) = j_ := ⟨_, rfl⟩
        replace H : (if 0 ≤ (ji11) then (if (ji11) < (l0.length : Int) then (remoraref20_Check.j1 k1 l0 x3_1 x4_1 (((rd_T35 l0 x4_1).f0).toList == ((rd_T35 l0 (ji11)).f0).toList) ((rd_T35 l0 x4_1).f0) ((rd_T35 l0 x4_1).f1) ((rd_T35 l0 x4_1).f2) ((rd_T35 l0 x4_1).f3.f0) ((rd_T35 l0 x4_1).f3.f1) ((rd_T35 l0 x4_1).f3.f2) ((rd_T35 l0 x4_1).f3.f3) ((rd_T35 l0 x4_1).f3.f4) ((rd_T35 l0 x4_1).f4) ((rd_T35 l0 x4_1).f5) ((rd_T35 l0 x4_1).f6)) else (none)) else (none)) = some r := by first | (rw [hji11] at H; exact H) | (simp only [hji11] at H ⊢; exact H)
        have hji11w : (IntKind.i64.wrap (x4_1 - 1)) = ji11 := (i64_w _).trans hji11
        by_cases c12 : 0 ≤ (ji11)
        ·rw [if_pos c12] at H
         have c12b0 : decide (0 ≤ (ji11)) = true := decide_eq_true c12
         clear c12
         by_cases c13 : (ji11) < (l0.length : Int)
         ·rw [if_pos c13] at H
          have c13b0 : decide ((ji11) < (l0.length : Int)) = true := decide_eq_true c13
          clear c13
          have H' := Aside0.mk H
          clear H
          try go_wp2
          have n0_ := Aside0.mk (blk_drew BK102.out)
          have n1_ := Aside0.mk (below_drew1 HB.out)
          clear BK102
          clear HB
          have BK102 := n0_
          have HB := n1_
          clear n0_ n1_
          have p104 : 0 ≤ ((ji11) : Int) := of_decide_eq_true (by first | (with_reducible assumption) | assumption)
          have q104 : (ji11) < (l0.length : Int) := of_decide_eq_true (by first | (with_reducible assumption) | assumption)
          obtain ⟨ad104, e104, hx104_0, hx104_1, hx104_2, hx104_3, hx104_4, hx104_5, hx104_6, hx104_7, hx104_8, hx104_9, hx104_10⟩ := at_T35 HR0.out (ji11) p104 q104
          have hw104_10 := hx104_10
          have hw104_9 := hx104_9
          have hw104_8 := hx104_8
          have hw104_7 := hx104_7
          have hw104_6 := hx104_6
          have hw104_5 := hx104_5
          have hw104_4 := hx104_4
          have hw104_3 := hx104_3
          have hw104_2 := hx104_2
          have hw104_1 := hx104_1
          have hw104_0 := hx104_0
          obtain rfl : ad101 = ad104 := (by injection e104)
          replace hx104_0 := (HB.out.cell (World.block_lt_of_cell? w _ hx104_0)).trans hx104_0
          replace hx104_1 := (HB.out.cell (World.block_lt_of_cell? w _ hx104_1)).trans hx104_1
          replace hx104_2 := (HB.out.cell (World.block_lt_of_cell? w _ hx104_2)).trans hx104_2
          replace hx104_3 := (HB.out.cell (World.block_lt_of_cell? w _ hx104_3)).trans hx104_3
          replace hx104_4 := (HB.out.cell (World.block_lt_of_cell? w _ hx104_4)).trans hx104_4
          replace hx104_5 := (HB.out.cell (World.block_lt_of_cell? w _ hx104_5)).trans hx104_5
          replace hx104_6 := (HB.out.cell (World.block_lt_of_cell? w _ hx104_6)).trans hx104_6
          replace hx104_7 := (HB.out.cell (World.block_lt_of_cell? w _ hx104_7)).trans hx104_7
          replace hx104_8 := (HB.out.cell (World.block_lt_of_cell? w _ hx104_8)).trans hx104_8
          replace hx104_9 := (HB.out.cell (World.block_lt_of_cell? w _ hx104_9)).trans hx104_9
          replace hx104_10 := (HB.out.cell (World.block_lt_of_cell? w _ hx104_10)).trans hx104_10
          replace p104 := eq_true p104
          replace q104 := eq_true q104
          refine start_ (n := 13) (S := fun w' => w'.cell? ⟨gb102, 0, none⟩ = some (.string ((rd_T35 l0 x4_1).f0)) ∧ w'.cell? ⟨gb102, 1, none⟩ = some (.int .i64 ((rd_T35 l0 x4_1).f1)) ∧ w'.cell? ⟨gb102, 2, none⟩ = some (.int .i64 ((rd_T35 l0 x4_1).f2)) ∧ w'.cell? ⟨gb102, 3, none⟩ = some (.int .i64 ((rd_T35 l0 x4_1).f3.f0)) ∧ w'.cell? ⟨gb102, 4, none⟩ = some (.int .i64 ((rd_T35 l0 x4_1).f3.f1)) ∧ w'.cell? ⟨gb102, 5, none⟩ = some (.int .i64 ((rd_T35 l0 x4_1).f3.f2)) ∧ w'.cell? ⟨gb102, 6, none⟩ = some (.int .i64 ((rd_T35 l0 x4_1).f3.f3)) ∧ w'.cell? ⟨gb102, 7, none⟩ = some (.int .i64 ((rd_T35 l0 x4_1).f3.f4)) ∧ w'.cell? ⟨gb102, 8, none⟩ = some (.string ((rd_T35 l0 x4_1).f4)) ∧ w'.cell? ⟨gb102, 9, none⟩ = some (.string ((rd_T35 l0 x4_1).f5)) ∧ w'.cell? ⟨gb102, 10, none⟩ = some (.int .i64 ((rd_T35 l0 x4_1).f6)) ∧ w'.cell? (ad101.add (((ji11)).toNat * 11)) = some (.string ((rd_T35 l0 (ji11)).f0)) ∧ w'.cell? ⟨(ad101.add (((ji11)).toNat * 11)).block, (ad101.add (((ji11)).toNat * 11)).off + 1, none⟩ = some (.int .i64 ((rd_T35 l0 (ji11)).f1)) ∧ w'.cell? ⟨(ad101.add (((ji11)).toNat * 11)).block, (ad101.add (((ji11)).toNat * 11)).off + 2, none⟩ = some (.int .i64 ((rd_T35 l0 (ji11)).f2)) ∧ w'.cell? ⟨(ad101.add (((ji11)).toNat * 11)).block, (ad101.add (((ji11)).toNat * 11)).off + 3, none⟩ = some (.int .i64 ((rd_T35 l0 (ji11)).f3.f0)) ∧ w'.cell? ⟨(ad101.add (((ji11)).toNat * 11)).block, (ad101.add (((ji11)).toNat * 11)).off + 4, none⟩ = some (.int .i64 ((rd_T35 l0 (ji11)).f3.f1)) ∧ w'.cell? ⟨(ad101.add (((ji11)).toNat * 11)).block, (ad101.add (((ji11)).toNat * 11)).off + 5, none⟩ = some (.int .i64 ((rd_T35 l0 (ji11)).f3.f2)) ∧ w'.cell? ⟨(ad101.add (((ji11)).toNat * 11)).block, (ad101.add (((ji11)).toNat * 11)).off + 6, none⟩ = some (.int .i64 ((rd_T35 l0 (ji11)).f3.f3)) ∧ w'.cell? ⟨(ad101.add (((ji11)).toNat * 11)).block, (ad101.add (((ji11)).toNat * 11)).off + 7, none⟩ = some (.int .i64 ((rd_T35 l0 (ji11)).f3.f4)) ∧ w'.cell? ⟨(ad101.add (((ji11)).toNat * 11)).block, (ad101.add (((ji11)).toNat * 11)).off + 8, none⟩ = some (.string ((rd_T35 l0 (ji11)).f4)) ∧ w'.cell? ⟨(ad101.add (((ji11)).toNat * 11)).block, (ad101.add (((ji11)).toNat * 11)).off + 9, none⟩ = some (.string ((rd_T35 l0 (ji11)).f5)) ∧ w'.cell? ⟨(ad101.add (((ji11)).toNat * 11)).block, (ad101.add (((ji11)).toNat * 11)).off + 10, none⟩ = some (.int .i64 ((rd_T35 l0 (ji11)).f6))) (ds := []) #[Z_,Z_,Z_,Z_,Z_,Z_,Z_,Z_,Z_,Z_,Z_,Z_,Z_] (by kernel_rfl) rfl rfl ⟨(blk_cell BK102.out 0).trans rfl, (blk_cell BK102.out 1).trans rfl, (blk_cell BK102.out 2).trans rfl, (blk_cell BK102.out 3).trans rfl, (blk_cell BK102.out 4).trans rfl, (blk_cell BK102.out 5).trans rfl, (blk_cell BK102.out 6).trans rfl, (blk_cell BK102.out 7).trans rfl, (blk_cell BK102.out 8).trans rfl, (blk_cell BK102.out 9).trans rfl, (blk_cell BK102.out 10).trans rfl, ((HB.out.cell (World.block_lt_of_cell? w _ hw104_0)).trans hw104_0), ((HB.out.cell (World.block_lt_of_cell? w _ hw104_1)).trans hw104_1), ((HB.out.cell (World.block_lt_of_cell? w _ hw104_2)).trans hw104_2), ((HB.out.cell (World.block_lt_of_cell? w _ hw104_3)).trans hw104_3), ((HB.out.cell (World.block_lt_of_cell? w _ hw104_4)).trans hw104_4), ((HB.out.cell (World.block_lt_of_cell? w _ hw104_5)).trans hw104_5), ((HB.out.cell (World.block_lt_of_cell? w _ hw104_6)).trans hw104_6), ((HB.out.cell (World.block_lt_of_cell? w _ hw104_7)).trans hw104_7), ((HB.out.cell (World.block_lt_of_cell? w _ hw104_8)).trans hw104_8), ((HB.out.cell (World.block_lt_of_cell? w _ hw104_9)).trans hw104_9), ((HB.out.cell (World.block_lt_of_cell? w _ hw104_10)).trans hw104_10)⟩ (fun hHeld => ?_); refine with_tabW remoraref20_Check.tab9 remoraref20_Check.bits9 (fun HT_ HW_ => ?_)
          generalize w9.drew = w14 at BK102 HB hx104_0 hx104_1 hx104_10 hx104_2 hx104_3 hx104_4 hx104_5 hx104_6 hx104_7 hx104_8 hx104_9 hHeld ⊢
          refine pure_ (i := 0) (N := some 25) (v := ?_) (a' := ?_) #[Y_,Z_,Z_,Z_,Z_,Z_,Z_,Z_,Z_,Z_,Z_,Z_,Z_] rfl rfl (any_of HT_.out (by kernel_rfl)) (fun _ _ _ h => h) (Or.inl ⟨by rfl, ?_⟩) ?_ ?_
          rotate_left
          ·intro w';go_simp;with_reducible rfl
          rotate_left
          ·simp only [Act.put, nS, i64_w, i32_w];rfl
          refine pure_ (i := 1) (N := some 26) (v := ?_) (a' := ?_) #[Y_,Y_,Z_,Z_,Z_,Z_,Z_,Z_,Z_,Z_,Z_,Z_,Z_] rfl rfl (any_of HT_.out (by kernel_rfl)) (fun _ _ _ h => h) (Or.inl ⟨by rfl, ?_⟩) ?_ ?_
          rotate_left
          ·intro w';go_simp;with_reducible rfl
          rotate_left
          ·simp only [Act.put, nS, i64_w, i32_w];rfl
          refine pure_ (i := 2) (N := some 27) (v := ?_) (a' := ?_) #[Y_,Y_,Y_,Z_,Z_,Z_,Z_,Z_,Z_,Z_,Z_,Z_,Z_] rfl rfl (any_of HT_.out (by kernel_rfl)) (fun _ _ _ h => h) (Or.inl ⟨by rfl, ?_⟩) ?_ ?_
          rotate_left
          ·intro w';go_simp;with_reducible rfl
          rotate_left
          ·simp only [Act.put, nS, i64_w, i32_w];rfl
          refine pure_ (i := 3) (N := some 28) (v := ?_) (a' := ?_) #[Y_,Y_,Y_,Y_,Z_,Z_,Z_,Z_,Z_,Z_,Z_,Z_,Z_] rfl rfl (any_of HT_.out (by kernel_rfl)) (fun _ _ _ h => h) (Or.inl ⟨by rfl, ?_⟩) ?_ ?_
          rotate_left
          ·intro w';go_simp;with_reducible rfl
          rotate_left
          ·simp only [Act.put, nS, i64_w, i32_w];rfl
          refine pure_ (i := 5) (N := some 30) (v := ?_) (a' := ?_) #[Y_,Y_,Y_,Y_,Z_,Y_,Z_,Z_,Z_,Z_,Z_,Z_,Z_] rfl rfl (any_of HT_.out (by kernel_rfl)) (fun _ _ _ h => h) (Or.inl ⟨by rfl, ?_⟩) ?_ ?_
          rotate_left
          ·intro w';go_simp;with_reducible rfl
          rotate_left
          ·simp only [Act.put, nS, i64_w, i32_w];rfl
          refine pure_ (i := 6) (N := some 31) (v := ?_) (a' := ?_) #[Y_,Y_,Y_,Y_,Z_,Y_,Y_,Z_,Z_,Z_,Z_,Z_,Z_] rfl rfl (any_of HT_.out (by kernel_rfl)) (fun _ _ _ h => h) (Or.inl ⟨by rfl, ?_⟩) ?_ ?_
          rotate_left
          ·intro w';go_simp;with_reducible rfl
          rotate_left
          ·simp only [Act.put, nS, i64_w, i32_w];rfl
          refine pure_ (i := 7) (N := some 32) (v := ?_) (a' := ?_) #[Y_,Y_,Y_,Y_,Z_,Y_,Y_,Y_,Z_,Z_,Z_,Z_,Z_] rfl rfl (any_of HT_.out (by kernel_rfl)) (fun _ _ _ h => h) (Or.inl ⟨by rfl, ?_⟩) ?_ ?_
          rotate_left
          ·intro w';go_simp;with_reducible rfl
          rotate_left
          ·simp only [Act.put, nS, i64_w, i32_w];rfl
          refine pure_ (i := 8) (N := some 33) (v := ?_) (a' := ?_) #[Y_,Y_,Y_,Y_,Z_,Y_,Y_,Y_,Y_,Z_,Z_,Z_,Z_] rfl rfl (any_of HT_.out (by kernel_rfl)) (fun _ _ _ h => h) (Or.inl ⟨by rfl, ?_⟩) ?_ ?_
          rotate_left
          ·intro w';go_simp;with_reducible rfl
          rotate_left
          ·simp only [Act.put, nS, i64_w, i32_w];rfl
          refine pure_ (i := 9) (N := some 34) (v := ?_) (a' := ?_) #[Y_,Y_,Y_,Y_,Z_,Y_,Y_,Y_,Y_,Y_,Z_,Z_,Z_] rfl rfl (any_of HT_.out (by kernel_rfl)) (fun _ _ _ h => h) (Or.inl ⟨by rfl, ?_⟩) ?_ ?_
          rotate_left
          ·intro w';go_simp;with_reducible rfl
          rotate_left
          ·simp only [Act.put, nS, i64_w, i32_w];rfl
          refine take_ (i := 4) (N := some 29) (v := ?_) (a' := ?_) #[Y_,Y_,Y_,Y_,Y_,Y_,Y_,Y_,Y_,Y_,Z_,Z_,Z_] rfl rfl (take_ofW HT_.out HW_.out (by kernel_rfl)) (fun _ _ _ h => h) (Or.inl ⟨by rfl, ?_⟩) hHeld ?_ ?_
          rotate_left
          ·rintro w' ⟨s0, s1, s2, s3, s4, s5, s6, s7, s8, s9, s10, s11, s12, s13, s14, s15, s16, s17, s18, s19, s20, s21⟩
           go_simp
           with_reducible rfl
          rotate_left
          ·simp only [Act.put, nS, i64_w, i32_w];rfl
          refine take_ (i := 10) (N := some 35) (v := ?_) (a' := ?_) #[Y_,Y_,Y_,Y_,Y_,Y_,Y_,Y_,Y_,Y_,Y_,Z_,Z_] rfl rfl (take_ofW HT_.out HW_.out (by kernel_rfl)) (fun _ _ _ h => h) (Or.inl ⟨by rfl, ?_⟩) hHeld ?_ ?_
          rotate_left
          ·rintro w' ⟨s0, s1, s2, s3, s4, s5, s6, s7, s8, s9, s10, s11, s12, s13, s14, s15, s16, s17, s18, s19, s20, s21⟩
           go_simp
           with_reducible rfl
          rotate_left
          ·simp only [Act.put, nS, i64_w, i32_w];rfl
          refine pure_ (i := 11) (N := some 36) (v := ?_) (a' := ?_) #[Y_,Y_,Y_,Y_,Y_,Y_,Y_,Y_,Y_,Y_,Y_,Y_,Z_] rfl rfl (any_of HT_.out (by kernel_rfl)) (fun _ _ _ h => h) (Or.inl ⟨by rfl, ?_⟩) ?_ ?_
          rotate_left
          ·intro w';go_simp;with_reducible rfl
          rotate_left
          ·simp only [Act.put, nS, i64_w, i32_w];rfl
          refine pure_ (i := 12) (N := some 37) (v := ?_) (a' := ?_) #[Y_,Y_,Y_,Y_,Y_,Y_,Y_,Y_,Y_,Y_,Y_,Y_,Y_] rfl rfl (any_of HT_.out (by kernel_rfl)) (fun _ _ _ h => h) (Or.inl ⟨by rfl, ?_⟩) ?_ ?_
          rotate_left
          ·intro w';go_simp;with_reducible rfl
          rotate_left
          ·simp only [Act.put, nS, i64_w, i32_w];rfl
          refine done_ (done_of HT_.out (by kernel_rfl)) ?_
          try go_wp2
          go_meet
          case rel => exact ⟨_, ((((rd_T35 l0 x4_1).f0).toList == ((rd_T35 l0 (ji11)).f0).toList)), (by first | rfl | (simp; done) | (simp only [← hji11] <;> (first | rfl | simp)) | (simp [*]; done)), H', ⟨by have := HK1.out; first | omega | exact Nat.le_refl _⟩, ⟨upK BK102.out⟩, ⟨by repeat (first | (with_reducible first | exact HB.out | apply below_alloc | apply pw_below_drewN | apply below_drew1 | refine below_set ?_ GE102.out) | exact HB.out)⟩⟩
         rw [if_neg c13] at H
         exact absurd H (by simp)
        rw [if_neg c12] at H
        exact absurd H (by simp)
       rw [if_neg c10] at H
       have c10b0 : decide (0 < x4_1) = false := decide_eq_false c10
       clear c10
       (first | rw [c10b0] | (simp only [i64_w, i32_w]; rw [c10b0]) | skip)
       have H' := Aside0.mk H
       clear H
       try go_wp2
       have n0_ := Aside0.mk (blk_drew BK102.out)
       have n1_ := Aside0.mk (below_drew1 HB.out)
       clear BK102
       clear HB
       have BK102 := n0_
       have HB := n1_
       clear n0_ n1_
       refine start_ (n := 13) (S := fun w' => True) (ds := []) #[Z_,Z_,Z_,Z_,Z_,Z_,Z_,Z_,Z_,Z_,Z_,Z_,Z_] (by kernel_rfl) rfl rfl trivial (fun hHeld => ?_); refine with_tabW remoraref20_Check.tab9 remoraref20_Check.bits9 (fun HT_ HW_ => ?_)
       generalize w9.drew = w15 at BK102 HB hHeld ⊢
       refine pure_ (i := 0) (N := some 25) (v := ?_) (a' := ?_) #[Y_,Z_,Z_,Z_,Z_,Z_,Z_,Z_,Z_,Z_,Z_,Z_,Z_] rfl rfl (any_of HT_.out (by kernel_rfl)) (fun _ _ _ h => h) (Or.inl ⟨by rfl, ?_⟩) ?_ ?_
       rotate_left
       ·intro w';go_simp;with_reducible rfl
       rotate_left
       ·simp only [Act.put, nS, i64_w, i32_w];rfl
       refine pure_ (i := 1) (N := some 26) (v := ?_) (a' := ?_) #[Y_,Y_,Z_,Z_,Z_,Z_,Z_,Z_,Z_,Z_,Z_,Z_,Z_] rfl rfl (any_of HT_.out (by kernel_rfl)) (fun _ _ _ h => h) (Or.inl ⟨by rfl, ?_⟩) ?_ ?_
       rotate_left
       ·intro w';go_simp;with_reducible rfl
       rotate_left
       ·simp only [Act.put, nS, i64_w, i32_w];rfl
       refine pure_ (i := 2) (N := some 27) (v := ?_) (a' := ?_) #[Y_,Y_,Y_,Z_,Z_,Z_,Z_,Z_,Z_,Z_,Z_,Z_,Z_] rfl rfl (any_of HT_.out (by kernel_rfl)) (fun _ _ _ h => h) (Or.inl ⟨by rfl, ?_⟩) ?_ ?_
       rotate_left
       ·intro w';go_simp;with_reducible rfl
       rotate_left
       ·simp only [Act.put, nS, i64_w, i32_w];rfl
       refine pure_ (i := 3) (N := some 28) (v := undef) (a' := ?_) #[Y_,Y_,Y_,Y_,Z_,Z_,Z_,Z_,Z_,Z_,Z_,Z_,Z_] rfl rfl (any_of HT_.out (by kernel_rfl)) (fun _ _ _ h => h) (Or.inr ⟨by rfl, rfl⟩) ?_ ?_
       rotate_left
       ·simp only [Act.put, nS, i64_w, i32_w];rfl
       refine pure_ (i := 4) (N := some 29) (v := undef) (a' := ?_) #[Y_,Y_,Y_,Y_,Y_,Z_,Z_,Z_,Z_,Z_,Z_,Z_,Z_] rfl rfl (any_of HT_.out (by kernel_rfl)) (fun _ _ _ h => h) (Or.inr ⟨by rfl, rfl⟩) ?_ ?_
       rotate_left
       ·simp only [Act.put, nS, i64_w, i32_w];rfl
       refine pure_ (i := 5) (N := some 30) (v := undef) (a' := ?_) #[Y_,Y_,Y_,Y_,Y_,Y_,Z_,Z_,Z_,Z_,Z_,Z_,Z_] rfl rfl (any_of HT_.out (by kernel_rfl)) (fun _ _ _ h => h) (Or.inr ⟨by rfl, rfl⟩) ?_ ?_
       rotate_left
       ·simp only [Act.put, nS, i64_w, i32_w];rfl
       refine pure_ (i := 6) (N := some 31) (v := undef) (a' := ?_) #[Y_,Y_,Y_,Y_,Y_,Y_,Y_,Z_,Z_,Z_,Z_,Z_,Z_] rfl rfl (any_of HT_.out (by kernel_rfl)) (fun _ _ _ h => h) (Or.inr ⟨by rfl, rfl⟩) ?_ ?_
       rotate_left
       ·simp only [Act.put, nS, i64_w, i32_w];rfl
       refine pure_ (i := 7) (N := some 32) (v := undef) (a' := ?_) #[Y_,Y_,Y_,Y_,Y_,Y_,Y_,Y_,Z_,Z_,Z_,Z_,Z_] rfl rfl (any_of HT_.out (by kernel_rfl)) (fun _ _ _ h => h) (Or.inr ⟨by rfl, rfl⟩) ?_ ?_
       rotate_left
       ·simp only [Act.put, nS, i64_w, i32_w];rfl
       refine pure_ (i := 8) (N := some 33) (v := undef) (a' := ?_) #[Y_,Y_,Y_,Y_,Y_,Y_,Y_,Y_,Y_,Z_,Z_,Z_,Z_] rfl rfl (any_of HT_.out (by kernel_rfl)) (fun _ _ _ h => h) (Or.inr ⟨by rfl, rfl⟩) ?_ ?_
       rotate_left
       ·simp only [Act.put, nS, i64_w, i32_w];rfl
       refine pure_ (i := 9) (N := some 34) (v := undef) (a' := ?_) #[Y_,Y_,Y_,Y_,Y_,Y_,Y_,Y_,Y_,Y_,Z_,Z_,Z_] rfl rfl (any_of HT_.out (by kernel_rfl)) (fun _ _ _ h => h) (Or.inr ⟨by rfl, rfl⟩) ?_ ?_
       rotate_left
       ·simp only [Act.put, nS, i64_w, i32_w];rfl
       refine pure_ (i := 10) (N := some 35) (v := undef) (a' := ?_) #[Y_,Y_,Y_,Y_,Y_,Y_,Y_,Y_,Y_,Y_,Y_,Z_,Z_] rfl rfl (any_of HT_.out (by kernel_rfl)) (fun _ _ _ h => h) (Or.inr ⟨by rfl, rfl⟩) ?_ ?_
       rotate_left
       ·simp only [Act.put, nS, i64_w, i32_w];rfl
       refine pure_ (i := 11) (N := some 36) (v := undef) (a' := ?_) #[Y_,Y_,Y_,Y_,Y_,Y_,Y_,Y_,Y_,Y_,Y_,Y_,Z_] rfl rfl (any_of HT_.out (by kernel_rfl)) (fun _ _ _ h => h) (Or.inr ⟨by rfl, rfl⟩) ?_ ?_
       rotate_left
       ·simp only [Act.put, nS, i64_w, i32_w];rfl
       refine pure_ (i := 12) (N := some 37) (v := ?_) (a' := ?_) #[Y_,Y_,Y_,Y_,Y_,Y_,Y_,Y_,Y_,Y_,Y_,Y_,Y_] rfl rfl (any_of HT_.out (by kernel_rfl)) (fun _ _ _ h => h) (Or.inl ⟨by rfl, ?_⟩) ?_ ?_
       rotate_left
       ·intro w';go_simp;with_reducible rfl
       rotate_left
       ·simp only [Act.put, nS, i64_w, i32_w];rfl
       refine done_ (done_of HT_.out (by kernel_rfl)) ?_
       try go_wp2
       go_meet
       case rel => exact ⟨_, (false), (by first | rfl | (simp; done) | (simp [*]; done)), H', ⟨by have := HK1.out; first | omega | exact Nat.le_refl _⟩, ⟨upK BK102.out⟩, ⟨by repeat (first | (with_reducible first | exact HB.out | apply below_alloc | apply pw_below_drewN | apply below_drew1 | refine below_set ?_ GE102.out) | exact HB.out)⟩⟩
      case rest =>
       clear HC6
       try clear c1
       try clear p1
       try clear q1
       try clear hx1
       try clear c2
       try clear c2b0
       try clear p2
       try clear c3
       try clear c3b0
       try clear c5
       try clear c5b0
       try clear c5b1
       try clear p6
       try clear c10
       try clear c10b0
       try clear p10
       try clear q10
       try clear hx10
       try clear c12
       try clear c12b0
       try clear c13
       try clear c13b0
       try clear hcz8_0
       try clear hcz8_1
       try clear hcz8_10
       try clear hcz8_2
       try clear hcz8_3
       try clear hcz8_4
       try clear hcz8_5
       try clear hcz8_6
       try clear hcz8_7
       try clear hcz8_8
       try clear hcz8_9
       try clear hfz8_0
       try clear hfz8_1
       try clear hfz8_10
       try clear hfz8_2
       try clear hfz8_3
       try clear hfz8_4
       try clear hfz8_5
       try clear hfz8_6
       try clear hfz8_7
       try clear hfz8_8
       try clear hfz8_9
       try clear hx101_0
       try clear hx101_1
       try clear hx101_10
       try clear hx101_2
       try clear hx101_3
       try clear hx101_4
       try clear hx101_5
       try clear hx101_6
       try clear hx101_7
       try clear hx101_8
       try clear hx101_9
       try clear hx104_0
       try clear hx104_1
       try clear hx104_10
       try clear hx104_2
       try clear hx104_3
       try clear hx104_4
       try clear hx104_5
       try clear hx104_6
       try clear hx104_7
       try clear hx104_8
       try clear hx104_9
       try clear p101
       try clear p104
       try clear q101
       try clear q104
       obtain ⟨kq, x37_5, rfl, HA, HJ5, BK102, HB⟩ := hcut
       cases kq with
       | zero => exact absurd HA.out (by simp [remoraref20_Check.j1])
       | succ kj5 =>
        have H := HA.out
        clear HA
        simp only [remoraref20_Check.j1] at H
        by_cases c16 : x37_5 = true
        ·subst c16
         have H1 : (some 11) = some r := by rw [if_pos rfl] at H; exact H
         clear H
         have H := H1
         clear H1
         obtain rfl := Option.some.inj H
         go_wp2
         go_ret
         exact ⟨by first | rfl | (simp [errW_none, errW_some] <;> rfl) | (simp [*, errW_none, errW_some] <;> rfl), by repeat (first | (with_reducible first | exact HB.out | apply below_alloc | apply pw_below_drewN | apply below_drew1 | refine below_set ?_ GE102.out) | exact HB.out)⟩
        replace c16 := Bool.eq_false_iff.mpr c16
        subst c16
        have H1 : (if x4_1 > 0 then (if 0 ≤ (wrap64 (x4_1 - 1)) then (if (wrap64 (x4_1 - 1)) < (l0.length : Int) then ((remoraref13_Less.f kj5 ((rd_T35 l0 x4_1).f0) ((rd_T35 l0 (wrap64 (x4_1 - 1))).f0)).bind fun t106 => (remoraref20_Check.j2 kj5 l0 x3_1 x4_1 t106 ((rd_T35 l0 x4_1).f0) ((rd_T35 l0 x4_1).f1) ((rd_T35 l0 x4_1).f2) ((rd_T35 l0 x4_1).f3.f0) ((rd_T35 l0 x4_1).f3.f1) ((rd_T35 l0 x4_1).f3.f2) ((rd_T35 l0 x4_1).f3.f3) ((rd_T35 l0 x4_1).f3.f4) ((rd_T35 l0 x4_1).f4) ((rd_T35 l0 x4_1).f5) ((rd_T35 l0 x4_1).f6))) else (none)) else (none)) else (remoraref20_Check.j2 kj5 l0 x3_1 x4_1 false ((rd_T35 l0 x4_1).f0) ((rd_T35 l0 x4_1).f1) ((rd_T35 l0 x4_1).f2) ((rd_T35 l0 x4_1).f3.f0) ((rd_T35 l0 x4_1).f3.f1) ((rd_T35 l0 x4_1).f3.f2) ((rd_T35 l0 x4_1).f3.f3) ((rd_T35 l0 x4_1).f3.f4) ((rd_T35 l0 x4_1).f4) ((rd_T35 l0 x4_1).f5) ((rd_T35 l0 x4_1).f6))) = some r := by rw [if_neg (show ¬ (false = true) by decide)] at H; exact H
        clear H
        have H := H1
        clear H1
        have HC17 := Aside0.mk H
        clear H
        go_upto_region 11 with (fail)
        go_cut [50] (fun v50 wc => ∃ (kq : Nat) (x50_16 : Bool), v50 = .bool x50_16 ∧ Aside0 (remoraref20_Check.j2 kq l0 x3_1 x4_1 x50_16 ((rd_T35 l0 x4_1).f0) ((rd_T35 l0 x4_1).f1) ((rd_T35 l0 x4_1).f2) ((rd_T35 l0 x4_1).f3.f0) ((rd_T35 l0 x4_1).f3.f1) ((rd_T35 l0 x4_1).f3.f2) ((rd_T35 l0 x4_1).f3.f3) ((rd_T35 l0 x4_1).f3.f4) ((rd_T35 l0 x4_1).f4) ((rd_T35 l0 x4_1).f5) ((rd_T35 l0 x4_1).f6) = some r) ∧ Aside0 (kq ≤ kj5) ∧ Aside0 (wc.heap[gb102]? = some (.cells #[.string ((rd_T35 l0 x4_1).f0), .int .i64 ((rd_T35 l0 x4_1).f1), .int .i64 ((rd_T35 l0 x4_1).f2), .int .i64 ((rd_T35 l0 x4_1).f3.f0), .int .i64 ((rd_T35 l0 x4_1).f3.f1), .int .i64 ((rd_T35 l0 x4_1).f3.f2), .int .i64 ((rd_T35 l0 x4_1).f3.f3), .int .i64 ((rd_T35 l0 x4_1).f3.f4), .string ((rd_T35 l0 x4_1).f4), .string ((rd_T35 l0 x4_1).f5), .int .i64 ((rd_T35 l0 x4_1).f6)] 35 (0, 0))) ∧ Aside0 (Below w.heap.size w wc))
        case first =>
         have H := HC17.out
         clear HC17
         by_cases c18 : x4_1 > 0
         ·rw [if_pos c18] at H
          have c18b0 : decide (0 < x4_1) = true := decide_eq_true c18
          clear c18
          (first | rw [c18b0] | (simp only [i64_w, i32_w]; rw [c18b0]) | skip)
          obtain ⟨ji19, hji19⟩ : ∃ j_ : Int, (wrap64 (x4_1 - 1)) = j_ := ⟨_, rfl⟩
          replace H : (if 0 ≤ (ji19) then (if (ji19) < (l0.length : Int) then ((remoraref13_Less.f kj5 ((rd_T35 l0 x4_1).f0) ((rd_T35 l0 (ji19)).f0)).bind fun t106 => (remoraref20_Check.j2 kj5 l0 x3_1 x4_1 t106 ((rd_T35 l0 x4_1).f0) ((rd_T35 l0 x4_1).f1) ((rd_T35 l0 x4_1).f2) ((rd_T35 l0 x4_1).f3.f0) ((rd_T35 l0 x4_1).f3.f1) ((rd_T35 l0 x4_1).f3.f2) ((rd_T35 l0 x4_1).f3.f3) ((rd_T35 l0 x4_1).f3.f4) ((rd_T35 l0 x4_1).f4) ((rd_T35 l0 x4_1).f5) ((rd_T35 l0 x4_1).f6))) else (none)) else (none)) = some r := by first | (rw [hji19] at H; exact H) | (simp only [hji19] at H ⊢; exact H)
          have hji19w : (IntKind.i64.wrap (x4_1 - 1)) = ji19 := (i64_w _).trans hji19
          by_cases c20 : 0 ≤ (ji19)
          ·rw [if_pos c20] at H
           have c20b0 : decide (0 ≤ (ji19)) = true := decide_eq_true c20
           clear c20
           by_cases c21 : (ji19) < (l0.length : Int)
           ·rw [if_pos c21] at H
            have c21b0 : decide ((ji19) < (l0.length : Int)) = true := decide_eq_true c21
            clear c21
            replace H := Option.bind_eq_some_iff.mp H
            obtain ⟨t106, A220, H⟩ := H
            replace H : (remoraref20_Check.j2 kj5 l0 x3_1 x4_1 t106 ((rd_T35 l0 x4_1).f0) ((rd_T35 l0 x4_1).f1) ((rd_T35 l0 x4_1).f2) ((rd_T35 l0 x4_1).f3.f0) ((rd_T35 l0 x4_1).f3.f1) ((rd_T35 l0 x4_1).f3.f2) ((rd_T35 l0 x4_1).f3.f3) ((rd_T35 l0 x4_1).f3.f4) ((rd_T35 l0 x4_1).f4) ((rd_T35 l0 x4_1).f5) ((rd_T35 l0 x4_1).f6)) = some r := H
            have A22 := Aside0.mk A220
            clear A220
            have H' := Aside0.mk H
            clear H
            try go_wp2
            have n0_ := Aside0.mk (blk_drew BK102.out)
            have n1_ := Aside0.mk (below_drew1 HB.out)
            clear BK102
            clear HB
            have BK102 := n0_
            have HB := n1_
            clear n0_ n1_
            have p105 : 0 ≤ ((ji19) : Int) := of_decide_eq_true (by first | (with_reducible assumption) | assumption)
            have q105 : (ji19) < (l0.length : Int) := of_decide_eq_true (by first | (with_reducible assumption) | assumption)
            obtain ⟨ad105, e105, hx105_0, hx105_1, hx105_2, hx105_3, hx105_4, hx105_5, hx105_6, hx105_7, hx105_8, hx105_9, hx105_10⟩ := at_T35 HR0.out (ji19) p105 q105
            have hw105_10 := hx105_10
            have hw105_9 := hx105_9
            have hw105_8 := hx105_8
            have hw105_7 := hx105_7
            have hw105_6 := hx105_6
            have hw105_5 := hx105_5
            have hw105_4 := hx105_4
            have hw105_3 := hx105_3
            have hw105_2 := hx105_2
            have hw105_1 := hx105_1
            have hw105_0 := hx105_0
            obtain rfl : ad101 = ad105 := (by injection e105)
            replace hx105_0 := (HB.out.cell (World.block_lt_of_cell? w _ hx105_0)).trans hx105_0
            replace hx105_1 := (HB.out.cell (World.block_lt_of_cell? w _ hx105_1)).trans hx105_1
            replace hx105_2 := (HB.out.cell (World.block_lt_of_cell? w _ hx105_2)).trans hx105_2
            replace hx105_3 := (HB.out.cell (World.block_lt_of_cell? w _ hx105_3)).trans hx105_3
            replace hx105_4 := (HB.out.cell (World.block_lt_of_cell? w _ hx105_4)).trans hx105_4
            replace hx105_5 := (HB.out.cell (World.block_lt_of_cell? w _ hx105_5)).trans hx105_5
            replace hx105_6 := (HB.out.cell (World.block_lt_of_cell? w _ hx105_6)).trans hx105_6
            replace hx105_7 := (HB.out.cell (World.block_lt_of_cell? w _ hx105_7)).trans hx105_7
            replace hx105_8 := (HB.out.cell (World.block_lt_of_cell? w _ hx105_8)).trans hx105_8
            replace hx105_9 := (HB.out.cell (World.block_lt_of_cell? w _ hx105_9)).trans hx105_9
            replace hx105_10 := (HB.out.cell (World.block_lt_of_cell? w _ hx105_10)).trans hx105_10
            replace p105 := eq_true p105
            replace q105 := eq_true q105
            refine start_ (n := 13) (S := fun w' => w'.cell? ⟨gb102, 0, none⟩ = some (.string ((rd_T35 l0 x4_1).f0)) ∧ w'.cell? ⟨gb102, 1, none⟩ = some (.int .i64 ((rd_T35 l0 x4_1).f1)) ∧ w'.cell? ⟨gb102, 2, none⟩ = some (.int .i64 ((rd_T35 l0 x4_1).f2)) ∧ w'.cell? ⟨gb102, 3, none⟩ = some (.int .i64 ((rd_T35 l0 x4_1).f3.f0)) ∧ w'.cell? ⟨gb102, 4, none⟩ = some (.int .i64 ((rd_T35 l0 x4_1).f3.f1)) ∧ w'.cell? ⟨gb102, 5, none⟩ = some (.int .i64 ((rd_T35 l0 x4_1).f3.f2)) ∧ w'.cell? ⟨gb102, 6, none⟩ = some (.int .i64 ((rd_T35 l0 x4_1).f3.f3)) ∧ w'.cell? ⟨gb102, 7, none⟩ = some (.int .i64 ((rd_T35 l0 x4_1).f3.f4)) ∧ w'.cell? ⟨gb102, 8, none⟩ = some (.string ((rd_T35 l0 x4_1).f4)) ∧ w'.cell? ⟨gb102, 9, none⟩ = some (.string ((rd_T35 l0 x4_1).f5)) ∧ w'.cell? ⟨gb102, 10, none⟩ = some (.int .i64 ((rd_T35 l0 x4_1).f6)) ∧ w'.cell? (ad101.add (((ji19)).toNat * 11)) = some (.string ((rd_T35 l0 (ji19)).f0)) ∧ w'.cell? ⟨(ad101.add (((ji19)).toNat * 11)).block, (ad101.add (((ji19)).toNat * 11)).off + 1, none⟩ = some (.int .i64 ((rd_T35 l0 (ji19)).f1)) ∧ w'.cell? ⟨(ad101.add (((ji19)).toNat * 11)).block, (ad101.add (((ji19)).toNat * 11)).off + 2, none⟩ = some (.int .i64 ((rd_T35 l0 (ji19)).f2)) ∧ w'.cell? ⟨(ad101.add (((ji19)).toNat * 11)).block, (ad101.add (((ji19)).toNat * 11)).off + 3, none⟩ = some (.int .i64 ((rd_T35 l0 (ji19)).f3.f0)) ∧ w'.cell? ⟨(ad101.add (((ji19)).toNat * 11)).block, (ad101.add (((ji19)).toNat * 11)).off + 4, none⟩ = some (.int .i64 ((rd_T35 l0 (ji19)).f3.f1)) ∧ w'.cell? ⟨(ad101.add (((ji19)).toNat * 11)).block, (ad101.add (((ji19)).toNat * 11)).off + 5, none⟩ = some (.int .i64 ((rd_T35 l0 (ji19)).f3.f2)) ∧ w'.cell? ⟨(ad101.add (((ji19)).toNat * 11)).block, (ad101.add (((ji19)).toNat * 11)).off + 6, none⟩ = some (.int .i64 ((rd_T35 l0 (ji19)).f3.f3)) ∧ w'.cell? ⟨(ad101.add (((ji19)).toNat * 11)).block, (ad101.add (((ji19)).toNat * 11)).off + 7, none⟩ = some (.int .i64 ((rd_T35 l0 (ji19)).f3.f4)) ∧ w'.cell? ⟨(ad101.add (((ji19)).toNat * 11)).block, (ad101.add (((ji19)).toNat * 11)).off + 8, none⟩ = some (.string ((rd_T35 l0 (ji19)).f4)) ∧ w'.cell? ⟨(ad101.add (((ji19)).toNat * 11)).block, (ad101.add (((ji19)).toNat * 11)).off + 9, none⟩ = some (.string ((rd_T35 l0 (ji19)).f5)) ∧ w'.cell? ⟨(ad101.add (((ji19)).toNat * 11)).block, (ad101.add (((ji19)).toNat * 11)).off + 10, none⟩ = some (.int .i64 ((rd_T35 l0 (ji19)).f6))) (ds := []) #[Z_,Z_,Z_,Z_,Z_,Z_,Z_,Z_,Z_,Z_,Z_,Z_,Z_] (by kernel_rfl) rfl rfl ⟨(blk_cell BK102.out 0).trans rfl, (blk_cell BK102.out 1).trans rfl, (blk_cell BK102.out 2).trans rfl, (blk_cell BK102.out 3).trans rfl, (blk_cell BK102.out 4).trans rfl, (blk_cell BK102.out 5).trans rfl, (blk_cell BK102.out 6).trans rfl, (blk_cell BK102.out 7).trans rfl, (blk_cell BK102.out 8).trans rfl, (blk_cell BK102.out 9).trans rfl, (blk_cell BK102.out 10).trans rfl, ((HB.out.cell (World.block_lt_of_cell? w _ hw105_0)).trans hw105_0), ((HB.out.cell (World.block_lt_of_cell? w _ hw105_1)).trans hw105_1), ((HB.out.cell (World.block_lt_of_cell? w _ hw105_2)).trans hw105_2), ((HB.out.cell (World.block_lt_of_cell? w _ hw105_3)).trans hw105_3), ((HB.out.cell (World.block_lt_of_cell? w _ hw105_4)).trans hw105_4), ((HB.out.cell (World.block_lt_of_cell? w _ hw105_5)).trans hw105_5), ((HB.out.cell (World.block_lt_of_cell? w _ hw105_6)).trans hw105_6), ((HB.out.cell (World.block_lt_of_cell? w _ hw105_7)).trans hw105_7), ((HB.out.cell (World.block_lt_of_cell? w _ hw105_8)).trans hw105_8), ((HB.out.cell (World.block_lt_of_cell? w _ hw105_9)).trans hw105_9), ((HB.out.cell (World.block_lt_of_cell? w _ hw105_10)).trans hw105_10)⟩ (fun hHeld => ?_); refine with_tabW remoraref20_Check.tab11 remoraref20_Check.bits11 (fun HT_ HW_ => ?_)
            generalize wc.drew = w23 at BK102 HB hx105_0 hx105_1 hx105_10 hx105_2 hx105_3 hx105_4 hx105_5 hx105_6 hx105_7 hx105_8 hx105_9 hHeld ⊢
            refine pure_ (i := 0) (N := some 38) (v := ?_) (a' := ?_) #[Y_,Z_,Z_,Z_,Z_,Z_,Z_,Z_,Z_,Z_,Z_,Z_,Z_] rfl rfl (any_of HT_.out (by kernel_rfl)) (fun _ _ _ h => h) (Or.inl ⟨by rfl, ?_⟩) ?_ ?_
            rotate_left
            ·intro w';go_simp;with_reducible rfl
            rotate_left
            ·simp only [Act.put, nS, i64_w, i32_w];rfl
            refine pure_ (i := 1) (N := some 39) (v := ?_) (a' := ?_) #[Y_,Y_,Z_,Z_,Z_,Z_,Z_,Z_,Z_,Z_,Z_,Z_,Z_] rfl rfl (any_of HT_.out (by kernel_rfl)) (fun _ _ _ h => h) (Or.inl ⟨by rfl, ?_⟩) ?_ ?_
            rotate_left
            ·intro w';go_simp;with_reducible rfl
            rotate_left
            ·simp only [Act.put, nS, i64_w, i32_w];rfl
            refine pure_ (i := 2) (N := some 40) (v := ?_) (a' := ?_) #[Y_,Y_,Y_,Z_,Z_,Z_,Z_,Z_,Z_,Z_,Z_,Z_,Z_] rfl rfl (any_of HT_.out (by kernel_rfl)) (fun _ _ _ h => h) (Or.inl ⟨by rfl, ?_⟩) ?_ ?_
            rotate_left
            ·intro w';go_simp;with_reducible rfl
            rotate_left
            ·simp only [Act.put, nS, i64_w, i32_w];rfl
            refine pure_ (i := 3) (N := some 41) (v := ?_) (a' := ?_) #[Y_,Y_,Y_,Y_,Z_,Z_,Z_,Z_,Z_,Z_,Z_,Z_,Z_] rfl rfl (any_of HT_.out (by kernel_rfl)) (fun _ _ _ h => h) (Or.inl ⟨by rfl, ?_⟩) ?_ ?_
            rotate_left
            ·intro w';go_simp;with_reducible rfl
            rotate_left
            ·simp only [Act.put, nS, i64_w, i32_w];rfl
            refine pure_ (i := 5) (N := some 43) (v := ?_) (a' := ?_) #[Y_,Y_,Y_,Y_,Z_,Y_,Z_,Z_,Z_,Z_,Z_,Z_,Z_] rfl rfl (any_of HT_.out (by kernel_rfl)) (fun _ _ _ h => h) (Or.inl ⟨by rfl, ?_⟩) ?_ ?_
            rotate_left
            ·intro w';go_simp;with_reducible rfl
            rotate_left
            ·simp only [Act.put, nS, i64_w, i32_w];rfl
            refine pure_ (i := 6) (N := some 44) (v := ?_) (a' := ?_) #[Y_,Y_,Y_,Y_,Z_,Y_,Y_,Z_,Z_,Z_,Z_,Z_,Z_] rfl rfl (any_of HT_.out (by kernel_rfl)) (fun _ _ _ h => h) (Or.inl ⟨by rfl, ?_⟩) ?_ ?_
            rotate_left
            ·intro w';go_simp;with_reducible rfl
            rotate_left
            ·simp only [Act.put, nS, i64_w, i32_w];rfl
            refine pure_ (i := 7) (N := some 45) (v := ?_) (a' := ?_) #[Y_,Y_,Y_,Y_,Z_,Y_,Y_,Y_,Z_,Z_,Z_,Z_,Z_] rfl rfl (any_of HT_.out (by kernel_rfl)) (fun _ _ _ h => h) (Or.inl ⟨by rfl, ?_⟩) ?_ ?_
            rotate_left
            ·intro w';go_simp;with_reducible rfl
            rotate_left
            ·simp only [Act.put, nS, i64_w, i32_w];rfl
            refine pure_ (i := 8) (N := some 46) (v := ?_) (a' := ?_) #[Y_,Y_,Y_,Y_,Z_,Y_,Y_,Y_,Y_,Z_,Z_,Z_,Z_] rfl rfl (any_of HT_.out (by kernel_rfl)) (fun _ _ _ h => h) (Or.inl ⟨by rfl, ?_⟩) ?_ ?_
            rotate_left
            ·intro w';go_simp;with_reducible rfl
            rotate_left
            ·simp only [Act.put, nS, i64_w, i32_w];rfl
            refine pure_ (i := 9) (N := some 47) (v := ?_) (a' := ?_) #[Y_,Y_,Y_,Y_,Z_,Y_,Y_,Y_,Y_,Y_,Z_,Z_,Z_] rfl rfl (any_of HT_.out (by kernel_rfl)) (fun _ _ _ h => h) (Or.inl ⟨by rfl, ?_⟩) ?_ ?_
            rotate_left
            ·intro w';go_simp;with_reducible rfl
            rotate_left
            ·simp only [Act.put, nS, i64_w, i32_w];rfl
            refine take_ (i := 4) (N := some 42) (v := ?_) (a' := ?_) #[Y_,Y_,Y_,Y_,Y_,Y_,Y_,Y_,Y_,Y_,Z_,Z_,Z_] rfl rfl (take_ofW HT_.out HW_.out (by kernel_rfl)) (fun _ _ _ h => h) (Or.inl ⟨by rfl, ?_⟩) hHeld ?_ ?_
            rotate_left
            ·rintro w' ⟨s0, s1, s2, s3, s4, s5, s6, s7, s8, s9, s10, s11, s12, s13, s14, s15, s16, s17, s18, s19, s20, s21⟩
             go_simp
             with_reducible rfl
            rotate_left
            ·simp only [Act.put, nS, i64_w, i32_w];rfl
            refine take_ (i := 10) (N := some 48) (v := ?_) (a' := ?_) #[Y_,Y_,Y_,Y_,Y_,Y_,Y_,Y_,Y_,Y_,Y_,Z_,Z_] rfl rfl (take_ofW HT_.out HW_.out (by kernel_rfl)) (fun _ _ _ h => h) (Or.inl ⟨by rfl, ?_⟩) hHeld ?_ ?_
            rotate_left
            ·rintro w' ⟨s0, s1, s2, s3, s4, s5, s6, s7, s8, s9, s10, s11, s12, s13, s14, s15, s16, s17, s18, s19, s20, s21⟩
             go_simp
             with_reducible rfl
            rotate_left
            ·simp only [Act.put, nS, i64_w, i32_w];rfl
            refine one_ (i := 11) (N := some 49) #[Y_,Y_,Y_,Y_,Y_,Y_,Y_,Y_,Y_,Y_,Y_,Y_,Z_] rfl rfl (one_of HT_.out (by kernel_rfl)) (by decide) (fun K hK => ?_)
            refine goes_ Tryd.func24 (by kernel_rfl) rfl #[.string ((rd_T35 l0 x4_1).f0), .string ((rd_T35 l0 (ji19)).f0)] (by rfl) rfl rfl (by (try simp only [List.map_toArray, List.map_cons, List.map_nil]); first | done | (simp only [hji19]; rfl) | rfl | (simp only [List.length_drop, List.length_take]; rfl)) ?_
            with_reducible refine (remoraref13_Less.calls kj5 ((rd_T35 l0 x4_1).f0) ((rd_T35 l0 (ji19)).f0) t106 _ A22.out).mono ?_
            rintro e w24 ⟨rfl, hb⟩
            refine ⟨_, rfl, ?_⟩
            have n0_ := Aside0.mk (blk_below (g := gb102) (o := .cells #[.string ((rd_T35 l0 x4_1).f0), .int .i64 ((rd_T35 l0 x4_1).f1), .int .i64 ((rd_T35 l0 x4_1).f2), .int .i64 ((rd_T35 l0 x4_1).f3.f0), .int .i64 ((rd_T35 l0 x4_1).f3.f1), .int .i64 ((rd_T35 l0 x4_1).f3.f2), .int .i64 ((rd_T35 l0 x4_1).f3.f3), .int .i64 ((rd_T35 l0 x4_1).f3.f4), .string ((rd_T35 l0 x4_1).f4), .string ((rd_T35 l0 x4_1).f5), .int .i64 ((rd_T35 l0 x4_1).f6)] 35 (0, 0)) (upK BK102.out) hb)
            have n1_ := Aside0.mk (below_step (by repeat (first | (with_reducible first | exact HB.out | apply below_alloc | apply pw_below_drewN | apply below_drew1 | refine below_set ?_ GE102.out) | exact HB.out)) hb)
            clear BK102
            clear HB
            have BK102 := n0_
            have HB := n1_
            clear n0_ n1_
            (try clear hb)
            (try clear hb2)
            (try clear hk)
            (try clear hi)
            refine hK.out _ _ ⟨(blk_cell BK102.out 0).trans rfl, (blk_cell BK102.out 1).trans rfl, (blk_cell BK102.out 2).trans rfl, (blk_cell BK102.out 3).trans rfl, (blk_cell BK102.out 4).trans rfl, (blk_cell BK102.out 5).trans rfl, (blk_cell BK102.out 6).trans rfl, (blk_cell BK102.out 7).trans rfl, (blk_cell BK102.out 8).trans rfl, (blk_cell BK102.out 9).trans rfl, (blk_cell BK102.out 10).trans rfl, ((HB.out.cell (World.block_lt_of_cell? w _ hw105_0)).trans hw105_0), ((HB.out.cell (World.block_lt_of_cell? w _ hw105_1)).trans hw105_1), ((HB.out.cell (World.block_lt_of_cell? w _ hw105_2)).trans hw105_2), ((HB.out.cell (World.block_lt_of_cell? w _ hw105_3)).trans hw105_3), ((HB.out.cell (World.block_lt_of_cell? w _ hw105_4)).trans hw105_4), ((HB.out.cell (World.block_lt_of_cell? w _ hw105_5)).trans hw105_5), ((HB.out.cell (World.block_lt_of_cell? w _ hw105_6)).trans hw105_6), ((HB.out.cell (World.block_lt_of_cell? w _ hw105_7)).trans hw105_7), ((HB.out.cell (World.block_lt_of_cell? w _ hw105_8)).trans hw105_8), ((HB.out.cell (World.block_lt_of_cell? w _ hw105_9)).trans hw105_9), ((HB.out.cell (World.block_lt_of_cell? w _ hw105_10)).trans hw105_10)⟩ (fun hHeld => ?_)
            clear hK K
            refine norm_ (a' := ?_) ?_ ?_
            rotate_left
            ·show Act.put _ (some 49) _ = _
             simp only [Act.put, nS, i64_w, i32_w]
             rfl
            refine pure_ (i := 12) (N := some 50) (v := ?_) (a' := ?_) #[Y_,Y_,Y_,Y_,Y_,Y_,Y_,Y_,Y_,Y_,Y_,Y_,Y_] rfl rfl (any_of HT_.out (by kernel_rfl)) (fun _ _ _ h => h) (Or.inl ⟨by rfl, ?_⟩) ?_ ?_
            rotate_left
            ·intro w';go_simp;with_reducible rfl
            rotate_left
            ·simp only [Act.put, nS, i64_w, i32_w];rfl
            refine done_ (done_of HT_.out (by kernel_rfl)) ?_
            try go_wp2
            go_meet
            case rel => exact ⟨_, (t106), (by first | rfl | (simp; done) | (simp [*]; done)), H', ⟨by have := HK1.out; have := HJ5.out; first | omega | exact Nat.le_refl _⟩, ⟨upK BK102.out⟩, ⟨by repeat (first | (with_reducible first | exact HB.out | apply below_alloc | apply pw_below_drewN | apply below_drew1 | refine below_set ?_ GE102.out) | exact HB.out)⟩⟩
           rw [if_neg c21] at H
           exact absurd H (by simp)
          rw [if_neg c20] at H
          exact absurd H (by simp)
         rw [if_neg c18] at H
         have c18b0 : decide (0 < x4_1) = false := decide_eq_false c18
         clear c18
         (first | rw [c18b0] | (simp only [i64_w, i32_w]; rw [c18b0]) | skip)
         have H' := Aside0.mk H
         clear H
         try go_wp2
         have n0_ := Aside0.mk (blk_drew BK102.out)
         have n1_ := Aside0.mk (below_drew1 HB.out)
         clear BK102
         clear HB
         have BK102 := n0_
         have HB := n1_
         clear n0_ n1_
         refine start_ (n := 13) (S := fun w' => True) (ds := []) #[Z_,Z_,Z_,Z_,Z_,Z_,Z_,Z_,Z_,Z_,Z_,Z_,Z_] (by kernel_rfl) rfl rfl trivial (fun hHeld => ?_); refine with_tabW remoraref20_Check.tab11 remoraref20_Check.bits11 (fun HT_ HW_ => ?_)
         generalize wc.drew = w25 at BK102 HB hHeld ⊢
         refine pure_ (i := 0) (N := some 38) (v := ?_) (a' := ?_) #[Y_,Z_,Z_,Z_,Z_,Z_,Z_,Z_,Z_,Z_,Z_,Z_,Z_] rfl rfl (any_of HT_.out (by kernel_rfl)) (fun _ _ _ h => h) (Or.inl ⟨by rfl, ?_⟩) ?_ ?_
         rotate_left
         ·intro w';go_simp;with_reducible rfl
         rotate_left
         ·simp only [Act.put, nS, i64_w, i32_w];rfl
         refine pure_ (i := 1) (N := some 39) (v := ?_) (a' := ?_) #[Y_,Y_,Z_,Z_,Z_,Z_,Z_,Z_,Z_,Z_,Z_,Z_,Z_] rfl rfl (any_of HT_.out (by kernel_rfl)) (fun _ _ _ h => h) (Or.inl ⟨by rfl, ?_⟩) ?_ ?_
         rotate_left
         ·intro w';go_simp;with_reducible rfl
         rotate_left
         ·simp only [Act.put, nS, i64_w, i32_w];rfl
         refine pure_ (i := 2) (N := some 40) (v := ?_) (a' := ?_) #[Y_,Y_,Y_,Z_,Z_,Z_,Z_,Z_,Z_,Z_,Z_,Z_,Z_] rfl rfl (any_of HT_.out (by kernel_rfl)) (fun _ _ _ h => h) (Or.inl ⟨by rfl, ?_⟩) ?_ ?_
         rotate_left
         ·intro w';go_simp;with_reducible rfl
         rotate_left
         ·simp only [Act.put, nS, i64_w, i32_w];rfl
         refine pure_ (i := 3) (N := some 41) (v := undef) (a' := ?_) #[Y_,Y_,Y_,Y_,Z_,Z_,Z_,Z_,Z_,Z_,Z_,Z_,Z_] rfl rfl (any_of HT_.out (by kernel_rfl)) (fun _ _ _ h => h) (Or.inr ⟨by rfl, rfl⟩) ?_ ?_
         rotate_left
         ·simp only [Act.put, nS, i64_w, i32_w];rfl
         refine pure_ (i := 4) (N := some 42) (v := undef) (a' := ?_) #[Y_,Y_,Y_,Y_,Y_,Z_,Z_,Z_,Z_,Z_,Z_,Z_,Z_] rfl rfl (any_of HT_.out (by kernel_rfl)) (fun _ _ _ h => h) (Or.inr ⟨by rfl, rfl⟩) ?_ ?_
         rotate_left
         ·simp only [Act.put, nS, i64_w, i32_w];rfl
         refine pure_ (i := 5) (N := some 43) (v := undef) (a' := ?_) #[Y_,Y_,Y_,Y_,Y_,Y_,Z_,Z_,Z_,Z_,Z_,Z_,Z_] rfl rfl (any_of HT_.out (by kernel_rfl)) (fun _ _ _ h => h) (Or.inr ⟨by rfl, rfl⟩) ?_ ?_
         rotate_left
         ·simp only [Act.put, nS, i64_w, i32_w];rfl
         refine pure_ (i := 6) (N := some 44) (v := undef) (a' := ?_) #[Y_,Y_,Y_,Y_,Y_,Y_,Y_,Z_,Z_,Z_,Z_,Z_,Z_] rfl rfl (any_of HT_.out (by kernel_rfl)) (fun _ _ _ h => h) (Or.inr ⟨by rfl, rfl⟩) ?_ ?_
         rotate_left
         ·simp only [Act.put, nS, i64_w, i32_w];rfl
         refine pure_ (i := 7) (N := some 45) (v := undef) (a' := ?_) #[Y_,Y_,Y_,Y_,Y_,Y_,Y_,Y_,Z_,Z_,Z_,Z_,Z_] rfl rfl (any_of HT_.out (by kernel_rfl)) (fun _ _ _ h => h) (Or.inr ⟨by rfl, rfl⟩) ?_ ?_
         rotate_left
         ·simp only [Act.put, nS, i64_w, i32_w];rfl
         refine pure_ (i := 8) (N := some 46) (v := undef) (a' := ?_) #[Y_,Y_,Y_,Y_,Y_,Y_,Y_,Y_,Y_,Z_,Z_,Z_,Z_] rfl rfl (any_of HT_.out (by kernel_rfl)) (fun _ _ _ h => h) (Or.inr ⟨by rfl, rfl⟩) ?_ ?_
         rotate_left
         ·simp only [Act.put, nS, i64_w, i32_w];rfl
         refine pure_ (i := 9) (N := some 47) (v := undef) (a' := ?_) #[Y_,Y_,Y_,Y_,Y_,Y_,Y_,Y_,Y_,Y_,Z_,Z_,Z_] rfl rfl (any_of HT_.out (by kernel_rfl)) (fun _ _ _ h => h) (Or.inr ⟨by rfl, rfl⟩) ?_ ?_
         rotate_left
         ·simp only [Act.put, nS, i64_w, i32_w];rfl
         refine pure_ (i := 10) (N := some 48) (v := undef) (a' := ?_) #[Y_,Y_,Y_,Y_,Y_,Y_,Y_,Y_,Y_,Y_,Y_,Z_,Z_] rfl rfl (any_of HT_.out (by kernel_rfl)) (fun _ _ _ h => h) (Or.inr ⟨by rfl, rfl⟩) ?_ ?_
         rotate_left
         ·simp only [Act.put, nS, i64_w, i32_w];rfl
         refine pure_ (i := 11) (N := some 49) (v := undef) (a' := ?_) #[Y_,Y_,Y_,Y_,Y_,Y_,Y_,Y_,Y_,Y_,Y_,Y_,Z_] rfl rfl (any_of HT_.out (by kernel_rfl)) (fun _ _ _ h => h) (Or.inr ⟨by rfl, rfl⟩) ?_ ?_
         rotate_left
         ·simp only [Act.put, nS, i64_w, i32_w];rfl
         refine pure_ (i := 12) (N := some 50) (v := ?_) (a' := ?_) #[Y_,Y_,Y_,Y_,Y_,Y_,Y_,Y_,Y_,Y_,Y_,Y_,Y_] rfl rfl (any_of HT_.out (by kernel_rfl)) (fun _ _ _ h => h) (Or.inl ⟨by rfl, ?_⟩) ?_ ?_
         rotate_left
         ·intro w';go_simp;with_reducible rfl
         rotate_left
         ·simp only [Act.put, nS, i64_w, i32_w];rfl
         refine done_ (done_of HT_.out (by kernel_rfl)) ?_
         try go_wp2
         go_meet
         case rel => exact ⟨_, (false), (by first | rfl | (simp; done) | (simp [*]; done)), H', ⟨by have := HK1.out; have := HJ5.out; first | omega | exact Nat.le_refl _⟩, ⟨upK BK102.out⟩, ⟨by repeat (first | (with_reducible first | exact HB.out | apply below_alloc | apply pw_below_drewN | apply below_drew1 | refine below_set ?_ GE102.out) | exact HB.out)⟩⟩
        case rest =>
         clear HC17
         try clear c1
         try clear p1
         try clear q1
         try clear hx1
         try clear c2
         try clear c2b0
         try clear p2
         try clear c3
         try clear c3b0
         try clear c5
         try clear c5b0
         try clear c5b1
         try clear p6
         try clear c10
         try clear c10b0
         try clear p10
         try clear q10
         try clear hx10
         try clear c12
         try clear c12b0
         try clear c13
         try clear c13b0
         try clear c16
         try clear c18
         try clear c18b0
         try clear c20
         try clear c20b0
         try clear c21
         try clear c21b0
         try clear c24
         try clear hcz8_0
         try clear hcz8_1
         try clear hcz8_10
         try clear hcz8_2
         try clear hcz8_3
         try clear hcz8_4
         try clear hcz8_5
         try clear hcz8_6
         try clear hcz8_7
         try clear hcz8_8
         try clear hcz8_9
         try clear hfz8_0
         try clear hfz8_1
         try clear hfz8_10
         try clear hfz8_2
         try clear hfz8_3
         try clear hfz8_4
         try clear hfz8_5
         try clear hfz8_6
         try clear hfz8_7
         try clear hfz8_8
         try clear hfz8_9
         try clear hx101_0
         try clear hx101_1
         try clear hx101_10
         try clear hx101_2
         try clear hx101_3
         try clear hx101_4
         try clear hx101_5
         try clear hx101_6
         try clear hx101_7
         try clear hx101_8
         try clear hx101_9
         try clear hx104_0
         try clear hx104_1
         try clear hx104_10
         try clear hx104_2
         try clear hx104_3
         try clear hx104_4
         try clear hx104_5
         try clear hx104_6
         try clear hx104_7
         try clear hx104_8
         try clear hx104_9
         try clear hx105_0
         try clear hx105_1
         try clear hx105_10
         try clear hx105_2
         try clear hx105_3
         try clear hx105_4
         try clear hx105_5
         try clear hx105_6
         try clear hx105_7
         try clear hx105_8
         try clear hx105_9
         try clear p1
         try clear p10
         try clear p101
         try clear p104
         try clear p105
         try clear p2
         try clear p6
         try clear q1
         try clear q10
         try clear q101
         try clear q104
         try clear q105
         obtain ⟨kq, x50_16, rfl, HA, HJ16, BK102, HB⟩ := hcut
         cases kq with
         | zero => exact absurd HA.out (by simp [remoraref20_Check.j2])
         | succ kj16 =>
          have H := HA.out
          clear HA
          simp only [remoraref20_Check.j2] at H
          by_cases c26 : x50_16 = true
          ·subst c26
           have H1 : (some 3) = some r := by rw [if_pos rfl] at H; exact H
           clear H
           have H := H1
           clear H1
           obtain rfl := Option.some.inj H
           go_wp2
           go_ret
           exact ⟨by first | rfl | (simp [errW_none, errW_some] <;> rfl) | (simp [*, errW_none, errW_some] <;> rfl), by repeat (first | (with_reducible first | exact HB.out | apply below_alloc | apply pw_below_drewN | apply below_drew1 | refine below_set ?_ GE102.out) | exact HB.out)⟩
          replace c26 := Bool.eq_false_iff.mpr c26
          subst c26
          have H1 : ((remoraref13_Parent.f kj16 ((rd_T35 l0 x4_1).f0)).bind fun t107 => (if 0 ≤ x4_1 then (if x4_1 ≤ (l0.length : Int) then ((remoraref20_Find.f kj16 (l0.take (x4_1 : Int).toNat) t107).bind fun bt112 => (if t107.toList = ([] : List UInt8) then (remoraref20_Check.j3 kj16 l0 x3_1 x4_1 false ((rd_T35 l0 x4_1).f0) ((rd_T35 l0 x4_1).f1) ((rd_T35 l0 x4_1).f2) ((rd_T35 l0 x4_1).f3.f0) ((rd_T35 l0 x4_1).f3.f1) ((rd_T35 l0 x4_1).f3.f2) ((rd_T35 l0 x4_1).f3.f3) ((rd_T35 l0 x4_1).f3.f4) ((rd_T35 l0 x4_1).f4) ((rd_T35 l0 x4_1).f5) ((rd_T35 l0 x4_1).f6)) else (if bt112.2 = true then (if 0 ≤ bt112.1 then (if bt112.1 < (l0.length : Int) then (remoraref20_Check.j3 kj16 l0 x3_1 x4_1 (((rd_T35 l0 bt112.1).f1) != 2) ((rd_T35 l0 x4_1).f0) ((rd_T35 l0 x4_1).f1) ((rd_T35 l0 x4_1).f2) ((rd_T35 l0 x4_1).f3.f0) ((rd_T35 l0 x4_1).f3.f1) ((rd_T35 l0 x4_1).f3.f2) ((rd_T35 l0 x4_1).f3.f3) ((rd_T35 l0 x4_1).f3.f4) ((rd_T35 l0 x4_1).f4) ((rd_T35 l0 x4_1).f5) ((rd_T35 l0 x4_1).f6)) else (none)) else (none)) else (remoraref20_Check.j3 kj16 l0 x3_1 x4_1 true ((rd_T35 l0 x4_1).f0) ((rd_T35 l0 x4_1).f1) ((rd_T35 l0 x4_1).f2) ((rd_T35 l0 x4_1).f3.f0) ((rd_T35 l0 x4_1).f3.f1) ((rd_T35 l0 x4_1).f3.f2) ((rd_T35 l0 x4_1).f3.f3) ((rd_T35 l0 x4_1).f3.f4) ((rd_T35 l0 x4_1).f4) ((rd_T35 l0 x4_1).f5) ((rd_T35 l0 x4_1).f6))))) else (none)) else (none))) = some r := by rw [if_neg (show ¬ (false = true) by decide)] at H; exact H
          clear H
          have H := H1
          clear H1
          replace H := Option.bind_eq_some_iff.mp H
          obtain ⟨t107, A270, H⟩ := H
          replace H : (if 0 ≤ x4_1 then (if x4_1 ≤ (l0.length : Int) then ((remoraref20_Find.f kj16 (l0.take (x4_1 : Int).toNat) t107).bind fun bt112 => (if t107.toList = ([] : List UInt8) then (remoraref20_Check.j3 kj16 l0 x3_1 x4_1 false ((rd_T35 l0 x4_1).f0) ((rd_T35 l0 x4_1).f1) ((rd_T35 l0 x4_1).f2) ((rd_T35 l0 x4_1).f3.f0) ((rd_T35 l0 x4_1).f3.f1) ((rd_T35 l0 x4_1).f3.f2) ((rd_T35 l0 x4_1).f3.f3) ((rd_T35 l0 x4_1).f3.f4) ((rd_T35 l0 x4_1).f4) ((rd_T35 l0 x4_1).f5) ((rd_T35 l0 x4_1).f6)) else (if bt112.2 = true then (if 0 ≤ bt112.1 then (if bt112.1 < (l0.length : Int) then (remoraref20_Check.j3 kj16 l0 x3_1 x4_1 (((rd_T35 l0 bt112.1).f1) != 2) ((rd_T35 l0 x4_1).f0) ((rd_T35 l0 x4_1).f1) ((rd_T35 l0 x4_1).f2) ((rd_T35 l0 x4_1).f3.f0) ((rd_T35 l0 x4_1).f3.f1) ((rd_T35 l0 x4_1).f3.f2) ((rd_T35 l0 x4_1).f3.f3) ((rd_T35 l0 x4_1).f3.f4) ((rd_T35 l0 x4_1).f4) ((rd_T35 l0 x4_1).f5) ((rd_T35 l0 x4_1).f6)) else (none)) else (none)) else (remoraref20_Check.j3 kj16 l0 x3_1 x4_1 true ((rd_T35 l0 x4_1).f0) ((rd_T35 l0 x4_1).f1) ((rd_T35 l0 x4_1).f2) ((rd_T35 l0 x4_1).f3.f0) ((rd_T35 l0 x4_1).f3.f1) ((rd_T35 l0 x4_1).f3.f2) ((rd_T35 l0 x4_1).f3.f3) ((rd_T35 l0 x4_1).f3.f4) ((rd_T35 l0 x4_1).f4) ((rd_T35 l0 x4_1).f5) ((rd_T35 l0 x4_1).f6))))) else (none)) else (none)) = some r := H
          have A27 := Aside0.mk A270
          clear A270
          by_cases c28 : 0 ≤ x4_1
          ·rw [if_pos c28] at H
           have c28b0 := eq_true c28
           have c28b1 : decide (0 ≤ x4_1) = true := decide_eq_true c28
           clear c28
           by_cases c29 : x4_1 ≤ (l0.length : Int)
           ·rw [if_pos c29] at H
            have c29b0 := eq_true c29
            have c29b1 : decide (x4_1 ≤ (l0.length : Int)) = true := decide_eq_true c29
            clear c29
            obtain ⟨y108, hy108⟩ : ∃ y_ : List (S35), y_ = (l0.take (x4_1 : Int).toNat) := ⟨_, rfl⟩
            replace H : ((remoraref20_Find.f kj16 y108 t107).bind fun bt112 => (if t107.toList = ([] : List UInt8) then (remoraref20_Check.j3 kj16 l0 x3_1 x4_1 false ((rd_T35 l0 x4_1).f0) ((rd_T35 l0 x4_1).f1) ((rd_T35 l0 x4_1).f2) ((rd_T35 l0 x4_1).f3.f0) ((rd_T35 l0 x4_1).f3.f1) ((rd_T35 l0 x4_1).f3.f2) ((rd_T35 l0 x4_1).f3.f3) ((rd_T35 l0 x4_1).f3.f4) ((rd_T35 l0 x4_1).f4) ((rd_T35 l0 x4_1).f5) ((rd_T35 l0 x4_1).f6)) else (if bt112.2 = true then (if 0 ≤ bt112.1 then (if bt112.1 < (l0.length : Int) then (remoraref20_Check.j3 kj16 l0 x3_1 x4_1 (((rd_T35 l0 bt112.1).f1) != 2) ((rd_T35 l0 x4_1).f0) ((rd_T35 l0 x4_1).f1) ((rd_T35 l0 x4_1).f2) ((rd_T35 l0 x4_1).f3.f0) ((rd_T35 l0 x4_1).f3.f1) ((rd_T35 l0 x4_1).f3.f2) ((rd_T35 l0 x4_1).f3.f3) ((rd_T35 l0 x4_1).f3.f4) ((rd_T35 l0 x4_1).f4) ((rd_T35 l0 x4_1).f5) ((rd_T35 l0 x4_1).f6)) else (none)) else (none)) else (remoraref20_Check.j3 kj16 l0 x3_1 x4_1 true ((rd_T35 l0 x4_1).f0) ((rd_T35 l0 x4_1).f1) ((rd_T35 l0 x4_1).f2) ((rd_T35 l0 x4_1).f3.f0) ((rd_T35 l0 x4_1).f3.f1) ((rd_T35 l0 x4_1).f3.f2) ((rd_T35 l0 x4_1).f3.f3) ((rd_T35 l0 x4_1).f3.f4) ((rd_T35 l0 x4_1).f4) ((rd_T35 l0 x4_1).f5) ((rd_T35 l0 x4_1).f6))))) = some r := by first | (rw [hy108]; with_reducible exact H) | (have H2_ := (Option.bind_some _ _).symm.trans H; rw [hy108]; with_reducible exact H2_) | (have H2_ := (Option.bind_some _ _).symm.trans H; with_reducible exact H2_) | with_reducible exact H | (rw [hy108]; exact H) | exact H
            have Ny108 := Aside0.mk hy108
            clear hy108
            replace H := Option.bind_eq_some_iff.mp H
            obtain ⟨⟨t112, t113⟩, A300, H⟩ := H
            replace H : (if t107.toList = ([] : List UInt8) then (remoraref20_Check.j3 kj16 l0 x3_1 x4_1 false ((rd_T35 l0 x4_1).f0) ((rd_T35 l0 x4_1).f1) ((rd_T35 l0 x4_1).f2) ((rd_T35 l0 x4_1).f3.f0) ((rd_T35 l0 x4_1).f3.f1) ((rd_T35 l0 x4_1).f3.f2) ((rd_T35 l0 x4_1).f3.f3) ((rd_T35 l0 x4_1).f3.f4) ((rd_T35 l0 x4_1).f4) ((rd_T35 l0 x4_1).f5) ((rd_T35 l0 x4_1).f6)) else (if t113 = true then (if 0 ≤ t112 then (if t112 < (l0.length : Int) then (remoraref20_Check.j3 kj16 l0 x3_1 x4_1 (((rd_T35 l0 t112).f1) != 2) ((rd_T35 l0 x4_1).f0) ((rd_T35 l0 x4_1).f1) ((rd_T35 l0 x4_1).f2) ((rd_T35 l0 x4_1).f3.f0) ((rd_T35 l0 x4_1).f3.f1) ((rd_T35 l0 x4_1).f3.f2) ((rd_T35 l0 x4_1).f3.f3) ((rd_T35 l0 x4_1).f3.f4) ((rd_T35 l0 x4_1).f4) ((rd_T35 l0 x4_1).f5) ((rd_T35 l0 x4_1).f6)) else (none)) else (none)) else (remoraref20_Check.j3 kj16 l0 x3_1 x4_1 true ((rd_T35 l0 x4_1).f0) ((rd_T35 l0 x4_1).f1) ((rd_T35 l0 x4_1).f2) ((rd_T35 l0 x4_1).f3.f0) ((rd_T35 l0 x4_1).f3.f1) ((rd_T35 l0 x4_1).f3.f2) ((rd_T35 l0 x4_1).f3.f3) ((rd_T35 l0 x4_1).f3.f4) ((rd_T35 l0 x4_1).f4) ((rd_T35 l0 x4_1).f5) ((rd_T35 l0 x4_1).f6)))) = some r := H
            have A30 := Aside0.mk A300
            clear A300
            have HC31 := Aside0.mk H
            clear H
            obtain ⟨hcz32_0, hcz32_1, hcz32_2, hcz32_3, hcz32_4, hcz32_5, hcz32_6, hcz32_7, hcz32_8, hcz32_9, hcz32_10⟩ := blkc11 BK102.out
            obtain ⟨hfz32_0, hfz32_1, hfz32_2, hfz32_3, hfz32_4, hfz32_5, hfz32_6, hfz32_7, hfz32_8, hfz32_9, hfz32_10⟩ := blkf11 BK102.out
            go_upto_region 15 with (first | ((with_reducible refine gate_callee (f := 32) rfl ?_); refine goesL_ (some 53) rfl rfl Tryd.func32 (by kernel_rfl) rfl #[.string ((rd_T35 l0 x4_1).f0)] rfl (by (try simp only [List.map_toArray, List.map_cons, List.map_nil]); first | done | rfl | (simp only [List.length_drop, List.length_take]; rfl)) ?_; (with_reducible refine (remoraref13_Parent.calls kj16 ((rd_T35 l0 x4_1).f0) t107 _ A27.out).mono ?_); rintro e w33 ⟨rfl, hb⟩; refine ⟨_, rfl, ?_⟩; have n0_ := Aside0.mk (blk_below (g := gb102) (o := .cells #[.string ((rd_T35 l0 x4_1).f0), .int .i64 ((rd_T35 l0 x4_1).f1), .int .i64 ((rd_T35 l0 x4_1).f2), .int .i64 ((rd_T35 l0 x4_1).f3.f0), .int .i64 ((rd_T35 l0 x4_1).f3.f1), .int .i64 ((rd_T35 l0 x4_1).f3.f2), .int .i64 ((rd_T35 l0 x4_1).f3.f3), .int .i64 ((rd_T35 l0 x4_1).f3.f4), .string ((rd_T35 l0 x4_1).f4), .string ((rd_T35 l0 x4_1).f5), .int .i64 ((rd_T35 l0 x4_1).f6)] 35 (0, 0)) (upK BK102.out) hb); have n1_ := Aside0.mk (below_step (by repeat (first | (with_reducible first | exact HB.out | apply below_alloc | apply pw_below_drewN | apply below_drew1 | refine below_set ?_ GE102.out) | exact HB.out)) hb); clear BK102; clear HB; have BK102 := n0_; have HB := n1_; clear n0_ n1_; (try clear hb); (try clear hb2); (try clear hk); (try clear hi); have q34 : (x4_1 : Int) ≤ ((l0.length : Int) : Int) := of_decide_eq_true (by first | (with_reducible assumption) | assumption); obtain ⟨i034, hi034, _, hsz34, _⟩ := info_parts info35; have hroom34 : l0.length ≤ c0 := HC0.out; have hC34 : Kd.C k35 _ (some ad101) l0.length l0 := HR0.out; have hcut34 := cut_to (P := Tryd.prog) 22 35 .i64 Tryd.underlying22 hi034 (some ad101) l0.length c0 x4_1 (of_decide_eq_true (by first | (with_reducible assumption) | assumption)) q34 hroom34; have hr34 := Kd.C_take (m := (x4_1 : Int).toNat) hC34 (by omega); have hy34 : y108.length = (x4_1 : Int).toNat := (by rw [Ny108.out, List.length_take]; omega); rw [← Ny108.out] at hr34; rw [← hy34] at hcut34; have HR111 := Aside0.mk hr34; have HC111 := Aside0.mk (show y108.length ≤ c0 from by omega); clear hr34 hC34 hroom34 hi034 hsz34; have KY34 := Aside0.mk hy34; clear hy34; replace q34 := eq_true q34) | ((with_reducible refine gate_callee (f := 25) rfl ?_); refine goesL_ (some 59) rfl rfl Tryd.func25 (by kernel_rfl) rfl #[.slice (some ad101) y108.length c0, .string t107] rfl (by (try simp only [List.map_toArray, List.map_cons, List.map_nil]); first | done | rfl | (simp only [List.length_drop, List.length_take]; rfl)) ?_; (with_reducible refine (remoraref20_Find.calls kj16 _ _ y108 t107 t112 t113 _ ?side1 ?side2 A30.out).mono ?_); (case side1 => repeat (first | exact (Kd.C_below HR111.out HB.out) | (with_reducible refine Kd.C_alloc ?_ _) | (with_reducible refine Kd.C_drewN ?_ _) | (with_reducible refine Kd.C_drew ?_))); (case side2 => exact HC111.out); rintro e w' ⟨rfl, ⟨nd, rfl⟩⟩; refine ⟨_, rfl, ?_⟩))
            (try simp only [Act.put, List.setIfInBounds_toArray, List.set_cons_zero, List.set_cons_succ])
            go_cut [75] (fun v75 wc => ∃ (kq : Nat) (x75_30 : Bool), v75 = .bool x75_30 ∧ Aside0 (remoraref20_Check.j3 kq l0 x3_1 x4_1 x75_30 ((rd_T35 l0 x4_1).f0) ((rd_T35 l0 x4_1).f1) ((rd_T35 l0 x4_1).f2) ((rd_T35 l0 x4_1).f3.f0) ((rd_T35 l0 x4_1).f3.f1) ((rd_T35 l0 x4_1).f3.f2) ((rd_T35 l0 x4_1).f3.f3) ((rd_T35 l0 x4_1).f3.f4) ((rd_T35 l0 x4_1).f4) ((rd_T35 l0 x4_1).f5) ((rd_T35 l0 x4_1).f6) = some r) ∧ Aside0 (kq ≤ kj16) ∧ Aside0 (wc.heap[gb102]? = some (.cells #[.string ((rd_T35 l0 x4_1).f0), .int .i64 ((rd_T35 l0 x4_1).f1), .int .i64 ((rd_T35 l0 x4_1).f2), .int .i64 ((rd_T35 l0 x4_1).f3.f0), .int .i64 ((rd_T35 l0 x4_1).f3.f1), .int .i64 ((rd_T35 l0 x4_1).f3.f2), .int .i64 ((rd_T35 l0 x4_1).f3.f3), .int .i64 ((rd_T35 l0 x4_1).f3.f4), .string ((rd_T35 l0 x4_1).f4), .string ((rd_T35 l0 x4_1).f5), .int .i64 ((rd_T35 l0 x4_1).f6)] 35 (0, 0))) ∧ Aside0 (Below w.heap.size w wc))
            case first =>
             have H := HC31.out
             clear HC31
             by_cases c35 : t107.toList = ([] : List UInt8)
             ·rw [if_pos c35] at H
              have c35b0 : (t107.toList == ([] : List UInt8)) = true := beq_iff_eq.mpr c35
              have c35b1 : (t107.toList != ([] : List UInt8)) = false := bne_eq_false_iff_eq.mpr c35
              clear c35
              (first | rw [c35b0] | (simp only [i64_w, i32_w]; rw [c35b0]) | skip)
              have H' := Aside0.mk H
              clear H
              go_wp2
              go_meet
              case rel => exact ⟨_, (false), (by first | rfl | (simp; done) | (simp [*]; done)), H', ⟨by have := HK1.out; have := HJ5.out; have := HJ16.out; first | omega | exact Nat.le_refl _⟩, ⟨upK BK102.out⟩, ⟨by repeat (first | (with_reducible first | exact HB.out | apply below_alloc | apply pw_below_drewN | apply below_drew1 | refine below_set ?_ GE102.out) | exact HB.out)⟩⟩
             rw [if_neg c35] at H
             have c35b0 : (t107.toList == ([] : List UInt8)) = false := beq_eq_false_iff_ne.mpr c35
             have c35b1 : (t107.toList != ([] : List UInt8)) = true := bne_iff_ne.mpr c35
             (first | rw [c35b0] | (simp only [i64_w, i32_w]; rw [c35b0]) | skip)
             by_cases c36 : t113 = true
             ·subst c36
              have H1 : (if 0 ≤ t112 then (if t112 < (l0.length : Int) then (remoraref20_Check.j3 kj16 l0 x3_1 x4_1 (((rd_T35 l0 t112).f1) != 2) ((rd_T35 l0 x4_1).f0) ((rd_T35 l0 x4_1).f1) ((rd_T35 l0 x4_1).f2) ((rd_T35 l0 x4_1).f3.f0) ((rd_T35 l0 x4_1).f3.f1) ((rd_T35 l0 x4_1).f3.f2) ((rd_T35 l0 x4_1).f3.f3) ((rd_T35 l0 x4_1).f3.f4) ((rd_T35 l0 x4_1).f4) ((rd_T35 l0 x4_1).f5) ((rd_T35 l0 x4_1).f6)) else (none)) else (none)) = some r := by rw [if_pos rfl] at H; exact H
              clear H
              have H := H1
              clear H1
              by_cases c37 : 0 ≤ t112
              ·rw [if_pos c37] at H
               have c37b0 : decide (0 ≤ t112) = true := decide_eq_true c37
               clear c37
               by_cases c38 : t112 < (l0.length : Int)
               ·rw [if_pos c38] at H
                have c38b0 : decide (t112 < (l0.length : Int)) = true := decide_eq_true c38
                clear c38
                have H' := Aside0.mk H
                clear H
                have p114 : 0 ≤ (t112 : Int) := of_decide_eq_true (by first | (with_reducible assumption) | assumption)
                have q114 : t112 < (l0.length : Int) := of_decide_eq_true (by first | (with_reducible assumption) | assumption)
                obtain ⟨ad114, e114, hx114_0, hx114_1, hx114_2, hx114_3, hx114_4, hx114_5, hx114_6, hx114_7, hx114_8, hx114_9, hx114_10⟩ := at_T35 HR0.out t112 p114 q114
                obtain rfl : ad101 = ad114 := (by injection e114)
                replace hx114_0 := (HB.out.cell (World.block_lt_of_cell? w _ hx114_0)).trans hx114_0
                replace hx114_1 := (HB.out.cell (World.block_lt_of_cell? w _ hx114_1)).trans hx114_1
                replace hx114_2 := (HB.out.cell (World.block_lt_of_cell? w _ hx114_2)).trans hx114_2
                replace hx114_3 := (HB.out.cell (World.block_lt_of_cell? w _ hx114_3)).trans hx114_3
                replace hx114_4 := (HB.out.cell (World.block_lt_of_cell? w _ hx114_4)).trans hx114_4
                replace hx114_5 := (HB.out.cell (World.block_lt_of_cell? w _ hx114_5)).trans hx114_5
                replace hx114_6 := (HB.out.cell (World.block_lt_of_cell? w _ hx114_6)).trans hx114_6
                replace hx114_7 := (HB.out.cell (World.block_lt_of_cell? w _ hx114_7)).trans hx114_7
                replace hx114_8 := (HB.out.cell (World.block_lt_of_cell? w _ hx114_8)).trans hx114_8
                replace hx114_9 := (HB.out.cell (World.block_lt_of_cell? w _ hx114_9)).trans hx114_9
                replace hx114_10 := (HB.out.cell (World.block_lt_of_cell? w _ hx114_10)).trans hx114_10
                replace p114 := eq_true p114
                replace q114 := eq_true q114
                go_wp2
                go_meet
                case rel => exact ⟨_, ((((rd_T35 l0 t112).f1) != 2)), (by first | rfl | (simp; done) | (simp [*]; done)), H', ⟨by have := HK1.out; have := HJ5.out; have := HJ16.out; first | omega | exact Nat.le_refl _⟩, ⟨upK BK102.out⟩, ⟨by repeat (first | (with_reducible first | exact HB.out | apply below_alloc | apply pw_below_drewN | apply below_drew1 | refine below_set ?_ GE102.out) | exact HB.out)⟩⟩
               rw [if_neg c38] at H
               exact absurd H (by simp)
              rw [if_neg c37] at H
              exact absurd H (by simp)
             replace c36 := Bool.eq_false_iff.mpr c36
             subst c36
             have H1 : (remoraref20_Check.j3 kj16 l0 x3_1 x4_1 true ((rd_T35 l0 x4_1).f0) ((rd_T35 l0 x4_1).f1) ((rd_T35 l0 x4_1).f2) ((rd_T35 l0 x4_1).f3.f0) ((rd_T35 l0 x4_1).f3.f1) ((rd_T35 l0 x4_1).f3.f2) ((rd_T35 l0 x4_1).f3.f3) ((rd_T35 l0 x4_1).f3.f4) ((rd_T35 l0 x4_1).f4) ((rd_T35 l0 x4_1).f5) ((rd_T35 l0 x4_1).f6)) = some r := by rw [if_neg (show ¬ (false = true) by decide)] at H; exact H
             clear H
             have H := H1
             clear H1
             have H' := Aside0.mk H
             clear H
             go_wp2
             go_meet
             case rel => exact ⟨_, (true), (by first | rfl | (simp; done) | (simp [*]; done)), H', ⟨by have := HK1.out; have := HJ5.out; have := HJ16.out; first | omega | exact Nat.le_refl _⟩, ⟨upK BK102.out⟩, ⟨by repeat (first | (with_reducible first | exact HB.out | apply below_alloc | apply pw_below_drewN | apply below_drew1 | refine below_set ?_ GE102.out) | exact HB.out)⟩⟩
            case rest =>
             clear HC31
             try clear c1
             try clear p1
             try clear q1
             try clear hx1
             try clear c2
             try clear c2b0
             try clear p2
             try clear c3
             try clear c3b0
             try clear q3
             try clear c5
             try clear c5b0
             try clear c5b1
             try clear p6
             try clear c10
             try clear c10b0
             try clear p10
             try clear q10
             try clear hx10
             try clear p11
             try clear q11
             try clear hx11
             try clear c12
             try clear c12b0
             try clear c13
             try clear c13b0
             try clear c16
             try clear c18
             try clear c18b0
             try clear c20
             try clear c20b0
             try clear c21
             try clear c21b0
             try clear c24
             try clear c25
             try clear c26
             try clear c28
             try clear c28b0
             try clear c28b1
             try clear c29
             try clear c29b0
             try clear c29b1
             try clear c32
             try clear q34
             try clear c35
             try clear c35b0
             try clear c35b1
             try clear c36
             try clear c37
             try clear c37b0
             try clear c38
             try clear c38b0
             try clear hcz32_0
             try clear hcz32_1
             try clear hcz32_10
             try clear hcz32_2
             try clear hcz32_3
             try clear hcz32_4
             try clear hcz32_5
             try clear hcz32_6
             try clear hcz32_7
             try clear hcz32_8
             try clear hcz32_9
             try clear hcz8_0
             try clear hcz8_1
             try clear hcz8_10
             try clear hcz8_2
             try clear hcz8_3
             try clear hcz8_4
             try clear hcz8_5
             try clear hcz8_6
             try clear hcz8_7
             try clear hcz8_8
             try clear hcz8_9
             try clear hfz32_0
             try clear hfz32_1
             try clear hfz32_10
             try clear hfz32_2
             try clear hfz32_3
             try clear hfz32_4
             try clear hfz32_5
             try clear hfz32_6
             try clear hfz32_7
             try clear hfz32_8
             try clear hfz32_9
             try clear hfz8_0
             try clear hfz8_1
             try clear hfz8_10
             try clear hfz8_2
             try clear hfz8_3
             try clear hfz8_4
             try clear hfz8_5
             try clear hfz8_6
             try clear hfz8_7
             try clear hfz8_8
             try clear hfz8_9
             try clear hx101_0
             try clear hx101_1
             try clear hx101_10
             try clear hx101_2
             try clear hx101_3
             try clear hx101_4
             try clear hx101_5
             try clear hx101_6
             try clear hx101_7
             try clear hx101_8
             try clear hx101_9
             try clear hx104_0
             try clear hx104_1
             try clear hx104_10
             try clear hx104_2
             try clear hx104_3
             try clear hx104_4
             try clear hx104_5
             try clear hx104_6
             try clear hx104_7
             try clear hx104_8
             try clear hx104_9
             try clear hx105_0
             try clear hx105_1
             try clear hx105_10
             try clear hx105_2
             try clear hx105_3
             try clear hx105_4
             try clear hx105_5
             try clear hx105_6
             try clear hx105_7
             try clear hx105_8
             try clear hx105_9
             try clear hx114_0
             try clear hx114_1
             try clear hx114_10
             try clear hx114_2
             try clear hx114_3
             try clear hx114_4
             try clear hx114_5
             try clear hx114_6
             try clear hx114_7
             try clear hx114_8
             try clear hx114_9
             try clear p1
             try clear p10
             try clear p101
             try clear p104
             try clear p105
             try clear p114
             try clear p2
             try clear p6
             try clear q1
             try clear q10
             try clear q101
             try clear q104
             try clear q105
             try clear q114
             try clear q34
             obtain ⟨kq, x75_30, rfl, HA, HJ30, BK102, HB⟩ := hcut
             cases kq with
             | zero => exact absurd HA.out (by simp [remoraref20_Check.j3])
             | succ kj30 =>
              have H := HA.out
              clear HA
              simp only [remoraref20_Check.j3] at H
              by_cases c39 : x75_30 = true
              ·subst c39
               have H1 : (some 12) = some r := by rw [if_pos rfl] at H; exact H
               clear H
               have H := H1
               clear H1
               obtain rfl := Option.some.inj H
               go_wp2
               go_ret
               exact ⟨by first | rfl | (simp [errW_none, errW_some] <;> rfl) | (simp [*, errW_none, errW_some] <;> rfl), by repeat (first | (with_reducible first | exact HB.out | apply below_alloc | apply pw_below_drewN | apply below_drew1 | refine below_set ?_ GE102.out) | exact HB.out)⟩
              replace c39 := Bool.eq_false_iff.mpr c39
              subst c39
              have H1 : (if ((rd_T35 l0 x4_1).f6) > (wrap64 (x3_1 + 1)) then (some 5) else (remoraref20_Check.l0 kj30 l0 (mx x3_1 ((rd_T35 l0 x4_1).f6)) (wrap64 (x4_1 + 1)))) = some r := by rw [if_neg (show ¬ (false = true) by decide)] at H; exact H
              clear H
              have H := H1
              clear H1
              by_cases c40 : ((rd_T35 l0 x4_1).f6) > (wrap64 (x3_1 + 1))
              ·rw [if_pos c40] at H
               have c40b0 : decide ((wrap64 (x3_1 + 1)) < ((rd_T35 l0 x4_1).f6)) = true := decide_eq_true c40
               clear c40
               obtain rfl := Option.some.inj H
               obtain ⟨hcz41_0, hcz41_1, hcz41_2, hcz41_3, hcz41_4, hcz41_5, hcz41_6, hcz41_7, hcz41_8, hcz41_9, hcz41_10⟩ := blkc11 BK102.out
               obtain ⟨hfz41_0, hfz41_1, hfz41_2, hfz41_3, hfz41_4, hfz41_5, hfz41_6, hfz41_7, hfz41_8, hfz41_9, hfz41_10⟩ := blkf11 BK102.out
               go_wp2
               go_ret
               exact ⟨by first | rfl | (simp [errW_none, errW_some] <;> rfl) | (simp [*, errW_none, errW_some] <;> rfl), by repeat (first | (with_reducible first | exact HB.out | apply below_alloc | apply pw_below_drewN | apply below_drew1 | refine below_set ?_ GE102.out) | exact HB.out)⟩
              rw [if_neg c40] at H
              have c40b0 : decide ((wrap64 (x3_1 + 1)) < ((rd_T35 l0 x4_1).f6)) = false := decide_eq_false c40
              clear c40
              obtain ⟨ji42, hji42⟩ : ∃ j_ : Int, (mx x3_1 ((rd_T35 l0 x4_1).f6)) = j_ := ⟨_, rfl⟩
              replace H : (remoraref20_Check.l0 kj30 l0 ji42 (wrap64 (x4_1 + 1))) = some r := by first | (rw [hji42] at H; exact H) | (simp only [hji42] at H ⊢; exact H)
              have hji42_ : (if x3_1 < ((rd_T35 l0 x4_1).f6) then ((rd_T35 l0 x4_1).f6) else x3_1) = ji42 := hji42
              have H' := Aside0.mk H
              clear H
              obtain ⟨hcz43_0, hcz43_1, hcz43_2, hcz43_3, hcz43_4, hcz43_5, hcz43_6, hcz43_7, hcz43_8, hcz43_9, hcz43_10⟩ := blkc11 BK102.out
              obtain ⟨hfz43_0, hfz43_1, hfz43_2, hfz43_3, hfz43_4, hfz43_5, hfz43_6, hfz43_7, hfz43_8, hfz43_9, hfz43_10⟩ := blkf11 BK102.out
              go_wp2
              go_roundg kj30
              case measure => have := HK1.out; have := HJ5.out; have := HJ16.out; have := HJ30.out; omega
              case rel => exact ⟨(ji42), (wrap64 (x4_1 + 1)), (by first | rfl | (simp; done) | (simp only [← hji42] <;> (first | rfl | simp)) | (simp [*]; done)), (by first | rfl | (simp; done) | (simp [*]; done)), H', ⟨by have := HK1.out; have := HJ5.out; have := HJ16.out; have := HJ30.out; omega⟩, ⟨by repeat (first | (with_reducible first | exact HB.out | apply below_alloc | apply pw_below_drewN | apply below_drew1 | refine below_set ?_ GE102.out) | exact HB.out)⟩⟩
           rw [if_neg c29] at H
           exact absurd H (by simp)
          rw [if_neg c28] at H
          exact absurd H (by simp)
     rw [if_neg c5] at H
     have c5b0 : (t103 == 0) = false := beq_eq_false_iff_ne.mpr c5
     have c5b1 : (t103 != 0) = true := bne_iff_ne.mpr c5
     obtain rfl := Option.some.inj H
     have p101 : 0 ≤ (x4_1 : Int) := of_decide_eq_true (by first | (with_reducible assumption) | assumption)
     have q101 : x4_1 < (l0.length : Int) := of_decide_eq_true (by first | (with_reducible assumption) | assumption)
     obtain ⟨ad101, e101, hx101_0, hx101_1, hx101_2, hx101_3, hx101_4, hx101_5, hx101_6, hx101_7, hx101_8, hx101_9, hx101_10⟩ := at_T35 HR0.out x4_1 p101 q101
     cases e101
     replace hx101_0 := (HB.out.cell (World.block_lt_of_cell? w _ hx101_0)).trans hx101_0
     replace hx101_1 := (HB.out.cell (World.block_lt_of_cell? w _ hx101_1)).trans hx101_1
     replace hx101_2 := (HB.out.cell (World.block_lt_of_cell? w _ hx101_2)).trans hx101_2
     replace hx101_3 := (HB.out.cell (World.block_lt_of_cell? w _ hx101_3)).trans hx101_3
     replace hx101_4 := (HB.out.cell (World.block_lt_of_cell? w _ hx101_4)).trans hx101_4
     replace hx101_5 := (HB.out.cell (World.block_lt_of_cell? w _ hx101_5)).trans hx101_5
     replace hx101_6 := (HB.out.cell (World.block_lt_of_cell? w _ hx101_6)).trans hx101_6
     replace hx101_7 := (HB.out.cell (World.block_lt_of_cell? w _ hx101_7)).trans hx101_7
     replace hx101_8 := (HB.out.cell (World.block_lt_of_cell? w _ hx101_8)).trans hx101_8
     replace hx101_9 := (HB.out.cell (World.block_lt_of_cell? w _ hx101_9)).trans hx101_9
     replace hx101_10 := (HB.out.cell (World.block_lt_of_cell? w _ hx101_10)).trans hx101_10
     replace p101 := eq_true p101
     replace q101 := eq_true q101
     go_wp2_with (first | ((with_reducible refine gate_dst (N := 5) rfl ?_); refine box_event ?hg (N := 5) ?hd (cs := #[.string (⟨#[]⟩ : ByteArray), .int .i64 0, .int .i64 0, .int .i64 0, .int .i64 0, .int .i64 0, .int .i64 0, .int .i64 0, .string (⟨#[]⟩ : ByteArray), .string (⟨#[]⟩ : ByteArray), .int .i64 0]) (t := 35) ?hr ?_; (case hd => rfl); (case hg => rfl); (case hr => first | (go_simp; done) | (go_simp; rfl)); intro gb102 hg w44 hbox hb; have n0_ := Aside0.mk (below_step (upB HB.out) hb); have n1_ := Aside0.mk (hbox); have n2_ := Aside0.mk ((by rw [hg]; exact (below_size (upB HB.out)) : w.heap.size ≤ gb102)); have n3_ := Aside0.mk ((by rw [hg]; exact (below_size (upB HB.out)) : w.heap.size ≤ gb102)); clear HB; have HB := n0_; have BK102 := n1_; have GW102 := n2_; have GE102 := n3_; clear n0_ n1_ n2_ n3_; clear hb hbox hg; have hcz45_0 : w44.cell? ⟨gb102, 0, none⟩ = some (.string (⟨#[]⟩ : ByteArray)) := (blk_cell BK102.out 0).trans rfl; have hcz45_1 : w44.cell? ⟨gb102, 1, none⟩ = some (.int .i64 0) := (blk_cell BK102.out 1).trans rfl; have hcz45_2 : w44.cell? ⟨gb102, 2, none⟩ = some (.int .i64 0) := (blk_cell BK102.out 2).trans rfl; have hcz45_3 : w44.cell? ⟨gb102, 3, none⟩ = some (.int .i64 0) := (blk_cell BK102.out 3).trans rfl; have hcz45_4 : w44.cell? ⟨gb102, 4, none⟩ = some (.int .i64 0) := (blk_cell BK102.out 4).trans rfl; have hcz45_5 : w44.cell? ⟨gb102, 5, none⟩ = some (.int .i64 0) := (blk_cell BK102.out 5).trans rfl; have hcz45_6 : w44.cell? ⟨gb102, 6, none⟩ = some (.int .i64 0) := (blk_cell BK102.out 6).trans rfl; have hcz45_7 : w44.cell? ⟨gb102, 7, none⟩ = some (.int .i64 0) := (blk_cell BK102.out 7).trans rfl; have hcz45_8 : w44.cell? ⟨gb102, 8, none⟩ = some (.string (⟨#[]⟩ : ByteArray)) := (blk_cell BK102.out 8).trans rfl; have hcz45_9 : w44.cell? ⟨gb102, 9, none⟩ = some (.string (⟨#[]⟩ : ByteArray)) := (blk_cell BK102.out 9).trans rfl; have hcz45_10 : w44.cell? ⟨gb102, 10, none⟩ = some (.int .i64 0) := (blk_cell BK102.out 10).trans rfl; have hfz45_0 := blk_frozen BK102.out 0; have hfz45_1 := blk_frozen BK102.out 1; have hfz45_2 := blk_frozen BK102.out 2; have hfz45_3 := blk_frozen BK102.out 3; have hfz45_4 := blk_frozen BK102.out 4; have hfz45_5 := blk_frozen BK102.out 5; have hfz45_6 := blk_frozen BK102.out 6; have hfz45_7 := blk_frozen BK102.out 7; have hfz45_8 := blk_frozen BK102.out 8; have hfz45_9 := blk_frozen BK102.out 9; have hfz45_10 := blk_frozen BK102.out 10) | ((with_reducible refine gate_callee (f := 31) rfl ?_); refine goesL_ (some 21) rfl rfl Tryd.func31 (by kernel_rfl) rfl #[.agg #[.string ((rd_T35 l0 x4_1).f0), .int .i64 ((rd_T35 l0 x4_1).f1), .int .i64 ((rd_T35 l0 x4_1).f2), .int .i64 ((rd_T35 l0 x4_1).f3.f0), .int .i64 ((rd_T35 l0 x4_1).f3.f1), .int .i64 ((rd_T35 l0 x4_1).f3.f2), .int .i64 ((rd_T35 l0 x4_1).f3.f3), .int .i64 ((rd_T35 l0 x4_1).f3.f4), .string ((rd_T35 l0 x4_1).f4), .string ((rd_T35 l0 x4_1).f5), .int .i64 ((rd_T35 l0 x4_1).f6)]] rfl (by (try simp only [List.map_toArray, List.map_cons, List.map_nil]); first | done | rfl | (simp only [List.length_drop, List.length_take]; rfl)) ?_; (with_reducible refine (remoraref20_May.calls k1 ((rd_T35 l0 x4_1).f0) ((rd_T35 l0 x4_1).f1) ((rd_T35 l0 x4_1).f2) ((rd_T35 l0 x4_1).f3.f0) ((rd_T35 l0 x4_1).f3.f1) ((rd_T35 l0 x4_1).f3.f2) ((rd_T35 l0 x4_1).f3.f3) ((rd_T35 l0 x4_1).f3.f4) ((rd_T35 l0 x4_1).f4) ((rd_T35 l0 x4_1).f5) ((rd_T35 l0 x4_1).f6) t103 _ A4.out).mono ?_); rintro e w46 ⟨rfl, hb⟩; refine ⟨_, rfl, ?_⟩; have n0_ := Aside0.mk (blk_below (g := gb102) (o := .cells #[.string ((rd_T35 l0 x4_1).f0), .int .i64 ((rd_T35 l0 x4_1).f1), .int .i64 ((rd_T35 l0 x4_1).f2), .int .i64 ((rd_T35 l0 x4_1).f3.f0), .int .i64 ((rd_T35 l0 x4_1).f3.f1), .int .i64 ((rd_T35 l0 x4_1).f3.f2), .int .i64 ((rd_T35 l0 x4_1).f3.f3), .int .i64 ((rd_T35 l0 x4_1).f3.f4), .string ((rd_T35 l0 x4_1).f4), .string ((rd_T35 l0 x4_1).f5), .int .i64 ((rd_T35 l0 x4_1).f6)] 35 (0, 0)) (by (with_reducible repeat (first | refine blk_drewN ?_ _ | refine blk_drew ?_ | refine blk_alloc ?_ _)); refine blk_put (cs := #[.string ((rd_T35 l0 x4_1).f0), .int .i64 ((rd_T35 l0 x4_1).f1), .int .i64 ((rd_T35 l0 x4_1).f2), .int .i64 ((rd_T35 l0 x4_1).f3.f0), .int .i64 ((rd_T35 l0 x4_1).f3.f1), .int .i64 ((rd_T35 l0 x4_1).f3.f2), .int .i64 ((rd_T35 l0 x4_1).f3.f3), .int .i64 ((rd_T35 l0 x4_1).f3.f4), .string ((rd_T35 l0 x4_1).f4), .string ((rd_T35 l0 x4_1).f5), .int .i64 0]) ?_ 10 _ rfl; (with_reducible repeat (first | refine blk_drewN ?_ _ | refine blk_drew ?_ | refine blk_alloc ?_ _)); refine blk_put (cs := #[.string ((rd_T35 l0 x4_1).f0), .int .i64 ((rd_T35 l0 x4_1).f1), .int .i64 ((rd_T35 l0 x4_1).f2), .int .i64 ((rd_T35 l0 x4_1).f3.f0), .int .i64 ((rd_T35 l0 x4_1).f3.f1), .int .i64 ((rd_T35 l0 x4_1).f3.f2), .int .i64 ((rd_T35 l0 x4_1).f3.f3), .int .i64 ((rd_T35 l0 x4_1).f3.f4), .string ((rd_T35 l0 x4_1).f4), .string (⟨#[]⟩ : ByteArray), .int .i64 0]) ?_ 9 _ rfl; (with_reducible repeat (first | refine blk_drewN ?_ _ | refine blk_drew ?_ | refine blk_alloc ?_ _)); refine blk_put (cs := #[.string ((rd_T35 l0 x4_1).f0), .int .i64 ((rd_T35 l0 x4_1).f1), .int .i64 ((rd_T35 l0 x4_1).f2), .int .i64 ((rd_T35 l0 x4_1).f3.f0), .int .i64 ((rd_T35 l0 x4_1).f3.f1), .int .i64 ((rd_T35 l0 x4_1).f3.f2), .int .i64 ((rd_T35 l0 x4_1).f3.f3), .int .i64 ((rd_T35 l0 x4_1).f3.f4), .string (⟨#[]⟩ : ByteArray), .string (⟨#[]⟩ : ByteArray), .int .i64 0]) ?_ 8 _ rfl; (with_reducible repeat (first | refine blk_drewN ?_ _ | refine blk_drew ?_ | refine blk_alloc ?_ _)); refine blk_put (cs := #[.string ((rd_T35 l0 x4_1).f0), .int .i64 ((rd_T35 l0 x4_1).f1), .int .i64 ((rd_T35 l0 x4_1).f2), .int .i64 ((rd_T35 l0 x4_1).f3.f0), .int .i64 ((rd_T35 l0 x4_1).f3.f1), .int .i64 ((rd_T35 l0 x4_1).f3.f2), .int .i64 ((rd_T35 l0 x4_1).f3.f3), .int .i64 0, .string (⟨#[]⟩ : ByteArray), .string (⟨#[]⟩ : ByteArray), .int .i64 0]) ?_ 7 _ rfl; (with_reducible repeat (first | refine blk_drewN ?_ _ | refine blk_drew ?_ | refine blk_alloc ?_ _)); refine blk_put (cs := #[.string ((rd_T35 l0 x4_1).f0), .int .i64 ((rd_T35 l0 x4_1).f1), .int .i64 ((rd_T35 l0 x4_1).f2), .int .i64 ((rd_T35 l0 x4_1).f3.f0), .int .i64 ((rd_T35 l0 x4_1).f3.f1), .int .i64 ((rd_T35 l0 x4_1).f3.f2), .int .i64 0, .int .i64 0, .string (⟨#[]⟩ : ByteArray), .string (⟨#[]⟩ : ByteArray), .int .i64 0]) ?_ 6 _ rfl; (with_reducible repeat (first | refine blk_drewN ?_ _ | refine blk_drew ?_ | refine blk_alloc ?_ _)); refine blk_put (cs := #[.string ((rd_T35 l0 x4_1).f0), .int .i64 ((rd_T35 l0 x4_1).f1), .int .i64 ((rd_T35 l0 x4_1).f2), .int .i64 ((rd_T35 l0 x4_1).f3.f0), .int .i64 ((rd_T35 l0 x4_1).f3.f1), .int .i64 0, .int .i64 0, .int .i64 0, .string (⟨#[]⟩ : ByteArray), .string (⟨#[]⟩ : ByteArray), .int .i64 0]) ?_ 5 _ rfl; (with_reducible repeat (first | refine blk_drewN ?_ _ | refine blk_drew ?_ | refine blk_alloc ?_ _)); refine blk_put (cs := #[.string ((rd_T35 l0 x4_1).f0), .int .i64 ((rd_T35 l0 x4_1).f1), .int .i64 ((rd_T35 l0 x4_1).f2), .int .i64 ((rd_T35 l0 x4_1).f3.f0), .int .i64 0, .int .i64 0, .int .i64 0, .int .i64 0, .string (⟨#[]⟩ : ByteArray), .string (⟨#[]⟩ : ByteArray), .int .i64 0]) ?_ 4 _ rfl; (with_reducible repeat (first | refine blk_drewN ?_ _ | refine blk_drew ?_ | refine blk_alloc ?_ _)); refine blk_put (cs := #[.string ((rd_T35 l0 x4_1).f0), .int .i64 ((rd_T35 l0 x4_1).f1), .int .i64 ((rd_T35 l0 x4_1).f2), .int .i64 0, .int .i64 0, .int .i64 0, .int .i64 0, .int .i64 0, .string (⟨#[]⟩ : ByteArray), .string (⟨#[]⟩ : ByteArray), .int .i64 0]) ?_ 3 _ rfl; (with_reducible repeat (first | refine blk_drewN ?_ _ | refine blk_drew ?_ | refine blk_alloc ?_ _)); refine blk_put (cs := #[.string ((rd_T35 l0 x4_1).f0), .int .i64 ((rd_T35 l0 x4_1).f1), .int .i64 0, .int .i64 0, .int .i64 0, .int .i64 0, .int .i64 0, .int .i64 0, .string (⟨#[]⟩ : ByteArray), .string (⟨#[]⟩ : ByteArray), .int .i64 0]) ?_ 2 _ rfl; (with_reducible repeat (first | refine blk_drewN ?_ _ | refine blk_drew ?_ | refine blk_alloc ?_ _)); refine blk_put (cs := #[.string ((rd_T35 l0 x4_1).f0), .int .i64 0, .int .i64 0, .int .i64 0, .int .i64 0, .int .i64 0, .int .i64 0, .int .i64 0, .string (⟨#[]⟩ : ByteArray), .string (⟨#[]⟩ : ByteArray), .int .i64 0]) ?_ 1 _ rfl; (with_reducible repeat (first | refine blk_drewN ?_ _ | refine blk_drew ?_ | refine blk_alloc ?_ _)); refine blk_put (cs := #[.string (⟨#[]⟩ : ByteArray), .int .i64 0, .int .i64 0, .int .i64 0, .int .i64 0, .int .i64 0, .int .i64 0, .int .i64 0, .string (⟨#[]⟩ : ByteArray), .string (⟨#[]⟩ : ByteArray), .int .i64 0]) ?_ 0 _ rfl; (with_reducible repeat (first | refine blk_drewN ?_ _ | refine blk_drew ?_ | refine blk_alloc ?_ _)); exact BK102.out) hb); have n1_ := Aside0.mk (below_step (by repeat (first | (with_reducible first | exact HB.out | apply below_alloc | apply pw_below_drewN | apply below_drew1 | refine below_set ?_ GE102.out) | exact HB.out)) hb); clear BK102; clear HB; have BK102 := n0_; have HB := n1_; clear n0_ n1_; (try clear hb); (try clear hb2); (try clear hk); (try clear hi)))
     go_ret
     exact ⟨by first | rfl | (simp [errW_none, errW_some] <;> rfl) | (simp [*, errW_none, errW_some] <;> rfl), by repeat (first | (with_reducible first | exact HB.out | apply below_alloc | apply pw_below_drewN | apply below_drew1 | refine below_set ?_ GE102.out) | exact HB.out)⟩
    rw [if_neg c3] at H
    exact absurd H (by simp)
   rw [if_neg c2] at H
   have c2b0 : decide (x4_1 < (l0.length : Int)) = false := decide_eq_false c2
   clear c2
   obtain rfl := Option.some.inj H
   go_wp2
   go_ret
   exact ⟨by first | rfl | (simp [errW_none, errW_some] <;> rfl) | (simp [*, errW_none, errW_some] <;> rfl), upB HB.out⟩
end Go.Proofs.YtcdmgdegohcmhaaDoor.PA
namespace Go.Proofs.YtcdmgdegohcmhaaDoor.PA
open Go.RowKit Go.Proofs.YtcdmgdegohcmhaaDoorW.PrintWords Go.Proofs.YtcdmgdegohcmhaaDoorW.PrintLast Go.Proofs.YtcdmgdegohcmhaaDoorW.PrintMore
attribute [local go_sem] max2_int min2_int max_two min_two max_three min_three max_four min_four
set_option linter.unusedVariables false
set_option linter.unusedSimpArgs false
theorem u8_lt (a b : UInt8) : a < b ↔ a.toNat < b.toNat := UInt8.lt_iff_toNat_lt
theorem u8_eq (a b : UInt8) : a = b ↔ a.toNat = b.toNat := UInt8.toNat_inj.symm
theorem bl_cons (a b : UInt8) (x y : List UInt8) : Op.bytesLess (a :: x) (b :: y) = true ↔ a.toNat < b.toNat ∨ (a = b ∧ Op.bytesLess x y = true) := by
 rw [Op.bytesLess, Bool.or_eq_true, Bool.and_eq_true, decide_eq_true_iff, u8_lt, beq_iff_eq]
theorem bl_trans : ∀ x y z : List UInt8, Op.bytesLess x y = true → Op.bytesLess y z = true → Op.bytesLess x z = true
 | _, [], _, h, _ => by simp [Op.bytesLess] at h
 | _, _ :: _, [], _, h => by simp [Op.bytesLess] at h
 | [], _ :: _, _ :: _, _, _ => rfl
 | a :: x, b :: y, d :: z, h1, h2 => by
  rw [bl_cons] at h1 h2 ⊢
  rcases h1 with h1 | ⟨rfl, h1⟩
  ·rcases h2 with h2 | ⟨rfl, h2⟩
   ·exact Or.inl (by omega)
   exact Or.inl h1
  rcases h2 with h2 | ⟨rfl, h2⟩
  ·exact Or.inl h2
  exact Or.inr ⟨rfl, bl_trans x y z h1 h2⟩
theorem bl_tri : ∀ x y : List UInt8, ¬ Op.bytesLess x y = true → ¬ Op.bytesLess y x = true → x = y
 | [], [], _, _ => rfl
 | [], _ :: _, h, _ => absurd rfl h
 | _ :: _, [], _, h => absurd rfl h
 | a :: x, b :: y, h1, h2 => by
  rw [bl_cons] at h1 h2
  have hab : a = b := by
   rw [u8_eq]
   have := fun h => h1 (Or.inl h)
   have := fun h => h2 (Or.inl h)
   omega
  subst hab
  rw [bl_tri x y (fun h => h1 (Or.inr ⟨rfl, h⟩)) (fun h => h2 (Or.inr ⟨rfl, h⟩))]
theorem cmp_cons (a b : ByteArray) (s t : List ByteArray) : cmpL (a :: s) (b :: t) < 0 ↔ Op.bytesLess a.toList b.toList = true ∨ (a = b ∧ cmpL s t < 0) := by
 rw [cmpL]
 by_cases h1 : Op.bytesLess a.toList b.toList = true
 ·rw [if_pos h1]
  exact ⟨fun _ => Or.inl h1, fun _ => by decide⟩
 rw [if_neg h1]
 by_cases h2 : a = b
 ·rw [if_pos h2]
  exact ⟨fun h => Or.inr ⟨h2, h⟩, fun h => h.elim (fun h => absurd h h1) (fun h => h.2)⟩
 rw [if_neg h2]
 exact ⟨fun h => absurd h (by decide), fun h => h.elim (fun h => absurd h h1) (fun h => absurd h.1 h2)⟩
theorem cmp_trans : ∀ x y z, cmpL x y < 0 → cmpL y z < 0 → cmpL x z < 0
 | [], [], _, h, _ => absurd h (by decide)
 | _ :: _, [], _, h, _ => absurd h (by simp [cmpL])
 | _, _ :: _, [], _, h => absurd h (by simp [cmpL])
 | [], _ :: _, _ :: _, _, _ => by simp [cmpL]
 | a :: s, b :: t, d :: u, h1, h2 => by
  rw [cmp_cons] at h1 h2 ⊢
  rcases h1 with h1 | ⟨rfl, h1⟩
  ·rcases h2 with h2 | ⟨rfl, h2⟩
   ·exact Or.inl (bl_trans _ _ _ h1 h2)
   exact Or.inl h1
  rcases h2 with h2 | ⟨rfl, h2⟩
  ·exact Or.inl h2
  exact Or.inr ⟨rfl, cmp_trans s t u h1 h2⟩
theorem cmp_irr : ∀ x, ¬ cmpL x x < 0
 | [] => by decide
 | a :: s => by
  rw [cmp_cons, bl_irr]
  intro h
  rcases h with h | ⟨_, h⟩
  ·exact absurd h (by decide)
  exact cmp_irr s h
theorem cmp_tri : ∀ x y, ¬ cmpL x y < 0 → ¬ cmpL y x < 0 → x = y
 | [], [], _, _ => rfl
 | [], _ :: _, h, _ => absurd (by simp [cmpL]) h
 | _ :: _, [], _, h => absurd (by simp [cmpL]) h
 | a :: s, b :: t, h1, h2 => by
  rw [cmp_cons] at h1 h2
  have hab : a = b := (tl_eq a b).1 (bl_tri _ _ (fun h => h1 (Or.inl h)) (fun h => h2 (Or.inl h)))
  subst hab
  rw [cmp_tri s t (fun h => h1 (Or.inr ⟨rfl, h⟩)) (fun h => h2 (Or.inr ⟨rfl, h⟩))]
end Go.Proofs.YtcdmgdegohcmhaaDoor.PA
namespace Go.Proofs.YtcdmgdegohcmhaaDoor.PA
open Go.RowKit Go.Proofs.YtcdmgdegohcmhaaDoorW.PrintWords Go.Proofs.YtcdmgdegohcmhaaDoorW.PrintLast Go.Proofs.YtcdmgdegohcmhaaDoorW.PrintMore
attribute [local go_sem] max2_int min2_int max_two min_two max_three min_three max_four min_four
set_option linter.unusedVariables false
set_option linter.unusedSimpArgs false
theorem rright_l (l : List ByteArray) (hsz : ∀ s ∈ l, s.size < 4398046511104) (hl : l.length < 9223372036854775807) : ∀ k j : Nat, j ≤ l.length → l.length - j + 50 < k → remoraref13_Right.l0 k l (j : Int) = some ((l.drop j).all partB)
 | 0, j, _, h => by omega
 | k + 1, j, hj, h => by
  unfold remoraref13_Right.l0
  by_cases hlt : j < l.length
  ·rw [if_pos (show (j : Int) < (l.length : Int) by omega), if_pos (show 0 ≤ (j : Int) by omega)]
   have e : rdOf ByteArray.empty l (j : Int) = l[j]'hlt := by
    simp [rdOf, hlt]
   have hs := hsz _ (List.getElem_mem hlt)
   rw [e, List.drop_eq_getElem_cons hlt, List.all_cons]
   have ih := rright_l l hsz hl k (j + 1) (by omega) (by omega)
   have e2 : wrap64 ((j : Int) + 1) = ((j + 1 : Nat) : Int) := by rw [wr64 _ (by omega) (by omega)]; rfl
   rw [e2]
   generalize l[j]'hlt = s at *
   unfold partB
   by_cases h1 : s.toList = ([] : List UInt8)
   ·rw [if_pos h1, beq_iff_eq.mpr h1]
    rfl
   rw [if_neg h1, beq_eq_false_iff_ne.mpr h1]
   by_cases h3 : s.toList = ([46] : List UInt8)
   ·rw [if_pos h3, beq_iff_eq.mpr h3]
    simp
   rw [if_neg h3, beq_eq_false_iff_ne.mpr h3]
   by_cases h4 : s.toList = ([46, 46] : List UInt8)
   ·rw [if_pos h4, beq_iff_eq.mpr h4]
    simp
   rw [if_neg h4, beq_eq_false_iff_ne.mpr h4]
   by_cases h2 : (s.size : Int) > 48
   ·rw [if_pos h2, decide_eq_false (show ¬ (s.size : Int) ≤ 48 by omega)]
    rfl
   rw [if_neg h2, decide_eq_true (show (s.size : Int) ≤ 48 by omega), rnought_f s hs k (by omega), Option.bind_some]
   by_cases hn : 0 ≤ Lib.indexByte s.data.toList 0
   ·rw [decide_eq_true hn, if_pos rfl, decide_eq_false (show ¬ Lib.indexByte s.data.toList 0 < 0 by omega)]
    rfl
   rw [decide_eq_false hn, if_neg (by decide), decide_eq_true (show Lib.indexByte s.data.toList 0 < 0 by omega), ih]
   rfl
  obtain rfl : j = l.length := by omega
  rw [if_neg (by omega), List.drop_length]
  rfl
theorem extract_le (s : ByteArray) (a b : Nat) : (s.extract a b).size ≤ s.size := by
 rw [ByteArray.size_extract]
 omega
theorem splitTo_sizes (s : ByteArray) : ∀ k, ∀ t ∈ (splitTo s k).1, t.size ≤ s.size
 | 0 => by simp [splitTo]
 | k + 1 => by
  have ih := splitTo_sizes s k
  unfold splitTo
  split
  ·intro t ht
   rcases List.mem_append.1 ht with h | h
   ·exact ih t h
   rw [List.mem_singleton.1 h]
   exact extract_le _ _ _
  exact ih
theorem splitL_sizes (s : ByteArray) : ∀ t ∈ splitL s, t.size ≤ s.size := by
 unfold splitL
 split
 ·simp
 intro t ht
 rcases List.mem_append.1 ht with h | h
 ·exact splitTo_sizes s _ t h
 rw [List.mem_singleton.1 h]
 exact extract_le _ _ _
theorem rright_f (s : ByteArray) (hs : s.size < 4398046511104) (k : Nat) (hk : s.size + 60 < k) : remoraref13_Right.f k s = some (rightB s) := by
 unfold remoraref13_Right.f
 rw [rsplit_f s hs k (by omega), Option.bind_some]
 have hl := splitL_len s
 have hz := splitL_sizes s
 unfold rightB
 cases k with
 | zero => omega
 | succ k =>
  have hj : ∀ b, remoraref13_Right.j0 (k + 1) (splitL s) b = if b = true then some false else remoraref13_Right.l0 k (splitL s) 0 := fun _ => rfl
  have hr := rright_l (splitL s) (fun t ht => by have := hz t ht; omega) (by omega) k 0 (by omega) (by omega)
  rw [List.drop_zero] at hr
  by_cases h1 : ((splitL s).length : Int) > 12
  ·rw [if_pos h1, hj, if_pos rfl, decide_eq_false (show ¬ ((splitL s).length : Int) ≤ 12 by omega)]
   simp
  rw [if_neg h1, hj, decide_eq_true (show ((splitL s).length : Int) ≤ 12 by omega)]
  by_cases h2 : (s.size : Int) > 200
  ·rw [decide_eq_true h2, if_pos rfl, decide_eq_false (show ¬ (s.size : Int) ≤ 200 by omega)]
   simp
  rw [decide_eq_false h2, if_neg (by decide), decide_eq_true (show (s.size : Int) ≤ 200 by omega)]
  rw [show ((0 : Nat) : Int) = 0 from rfl] at hr
  rw [hr]
  simp
end Go.Proofs.YtcdmgdegohcmhaaDoor.PA
namespace Go.Proofs.YtcdmgdegohcmhaaDoor.PA
open Go.RowKit Go.Proofs.YtcdmgdegohcmhaaDoorW.PrintWords Go.Proofs.YtcdmgdegohcmhaaDoorW.PrintLast Go.Proofs.YtcdmgdegohcmhaaDoorW.PrintMore
attribute [local go_sem] max2_int min2_int max_two min_two max_three min_three max_four min_four
set_option linter.unusedVariables false
set_option linter.unusedSimpArgs false
theorem size_tl20 (p : ByteArray) : p.toList = ([] : List UInt8) ↔ p.size = 0 := by
 constructor
 ·intro h
  have := congrArg List.length h
  rw [ByteArray.toList_eq, Array.length_toList] at this
  exact this
 intro h
 rw [ByteArray.toList_eq]
 exact List.eq_nil_of_length_eq_zero (by rw [Array.length_toList]; exact h)
theorem tl_bne20 (p : ByteArray) : (p.toList != ([] : List UInt8)) = decide (p.size ≠ 0) := by
 by_cases h : p.size = 0
 ·rw [(size_tl20 p).2 h, decide_eq_false (by omega)]
  rfl
 have : p.toList ≠ [] := fun e => h ((size_tl20 p).1 e)
 rw [decide_eq_true h]
 exact bne_iff_ne.2 this
theorem tl_beq20 (p : ByteArray) : (p.toList == ([] : List UInt8)) = decide (p.size = 0) := by
 by_cases h : p.size = 0
 ·rw [(size_tl20 p).2 h, decide_eq_true h]
  rfl
 have : p.toList ≠ [] := fun e => h ((size_tl20 p).1 e)
 rw [decide_eq_false h]
 exact beq_eq_false_iff_ne.2 this
theorem if_tl {α : Type} (p : ByteArray) (a b : α) : (if p.toList = ([] : List UInt8) then a else b) = if p.size = 0 then a else b := by
 by_cases h : p.size = 0
 ·rw [if_pos h, if_pos ((size_tl20 p).2 h)]
 rw [if_neg h, if_neg (fun e => h ((size_tl20 p).1 e))]
theorem meta16_f (a b c d e : Int) : remoraref16_Check.f a b c d e = some (if metaOk a b c d e = true then 0 else 2) := by
 have hin : ∀ x lo hi : Int, remoraref16_in.f x lo hi = some (metaIn x lo hi) := fun x lo hi => by
  unfold remoraref16_in.f metaIn
  by_cases h : x ≥ lo
  ·rw [if_pos h, decide_eq_true (show lo ≤ x from h), Bool.true_and]
  rw [if_neg h, decide_eq_false (show ¬ lo ≤ x from h), Bool.false_and]
 unfold remoraref16_Check.f metaOk
 simp only [hin, Option.bind_some]
 cases metaIn a 0 4095 <;> cases metaIn b (-1099511627776) 1099511627776 <;> cases metaIn c 0 999999999 <;> cases metaIn d 0 2147483647 <;> cases metaIn e 0 2147483647 <;> rfl
def badE (k sz : Int) (m : Bool) (t s : Nat) (g : Int) : Bool :=
 !m || decide (sz < 0) || (decide (k = 1) && decide (sz > 65536)) || (decide (k = 2) && decide (sz > 2147483647)) || (decide (k ≠ 3) && decide (t ≠ 0)) || (decide (k = 3) && (decide (t = 0) || decide (t > 200) || decide (sz ≠ (t : Int)))) || (decide (s ≠ 0) && (decide (k ≠ 1) || decide (s ≠ 32))) || decide (g < 0) || (decide (g > 0) && decide (k ≠ 1))
def metaS (x : S35) : Bool := metaOk x.f3.f0 x.f3.f1 x.f3.f2 x.f3.f3 x.f3.f4
def aloneI (x : S35) : Int := if rightB x.f0 = true ∧ x.f0.size ≠ 0 then (if 1 ≤ x.f1 ∧ x.f1 ≤ 3 then (if badE x.f1 x.f2 (metaS x) x.f4.size x.f5.size x.f6 = true then 2 else 0) else 17) else 9
set_option maxHeartbeats 4000000 in
theorem alone_f (x : S35) (hs : x.f0.size < 4398046511104) (k : Nat) (hk : x.f0.size + 60 < k) : flist_alone.f k x.f0 x.f1 x.f2 x.f3.f0 x.f3.f1 x.f3.f2 x.f3.f3 x.f3.f4 x.f4 x.f5 x.f6 = some (aloneI x) := by
 obtain ⟨k, rfl⟩ : ∃ j, k = j + 6 := ⟨k - 6, by omega⟩
 unfold flist_alone.f aloneI
 rw [right_f x.f0 hs _ (by omega), Option.bind_some, tl_beq20]
 have jt : ∀ q1 q2 q3 q4 q5 q6 q7 q8 q9 q10 q11, flist_alone.j0 (k + 6) true q1 q2 q3 q4 q5 q6 q7 q8 q9 q10 q11 = some 9 := fun _ _ _ _ _ _ _ _ _ _ _ => by rw [flist_alone.j0, if_pos rfl]
 by_cases hr : rightB x.f0 = true
 ·rw [if_pos hr]
  by_cases h0 : x.f0.size = 0
  ·rw [decide_eq_true h0, jt, if_neg (fun h => h.2 h0)]
  rw [decide_eq_false h0, if_pos ⟨hr, h0⟩]
  have hm : meta_Check.f x.f3.f0 x.f3.f1 x.f3.f2 x.f3.f3 x.f3.f4 = some (if metaS x = true then 0 else 2) := rfl
  simp only [flist_alone.j0, flist_alone.j1, flist_alone.j2, flist_alone.j3, flist_alone.j4, flist_alone.j5, hm, Option.bind_some, if_tl, tl_bne20]
  generalize x.f4.size = t
  generalize x.f5.size = s
  generalize x.f6 = g
  generalize x.f2 = sz
  generalize metaS x = m
  generalize x.f1 = q
  unfold badE
  by_cases q1 : q = 1
  ·subst q1
   cases m <;> simp <;> (repeat' split) <;> simp_all <;> omega
  by_cases q2 : q = 2
  ·subst q2
   cases m <;> simp <;> (repeat' split) <;> simp_all <;> omega
  by_cases q3 : q = 3
  ·subst q3
   cases m <;> simp <;> (repeat' split) <;> simp_all <;> omega
  have e1 : (q == 1) = false := beq_eq_false_iff_ne.2 q1
  have e2 : (q != 2) = true := bne_iff_ne.2 q2
  have e3 : (q == 3) = false := beq_eq_false_iff_ne.2 q3
  rw [if_neg (show ¬ (false = true) by decide), if_neg q1, if_neg q3, e2, if_pos rfl, if_neg (by omega)]
 rw [if_neg hr, jt, if_neg (fun h => hr h.1)]
set_option maxHeartbeats 4000000 in
theorem may20_f (x : S35) (hs : x.f0.size < 4398046511104) (k : Nat) (hk : x.f0.size + 70 < k) : remoraref20_May.f k x.f0 x.f1 x.f2 x.f3.f0 x.f3.f1 x.f3.f2 x.f3.f3 x.f3.f4 x.f4 x.f5 x.f6 = some (aloneI x) := by
 obtain ⟨k, rfl⟩ : ∃ j, k = j + 6 := ⟨k - 6, by omega⟩
 unfold remoraref20_May.f aloneI
 rw [rright_f x.f0 hs _ (by omega), Option.bind_some, tl_beq20]
 have jt : ∀ q1 q2 q3 q4 q5 q6 q7 q8 q9 q10 q11, remoraref20_May.j0 (k + 6) true q1 q2 q3 q4 q5 q6 q7 q8 q9 q10 q11 = some 9 := fun _ _ _ _ _ _ _ _ _ _ _ => by rw [remoraref20_May.j0, if_pos rfl]
 by_cases hr : rightB x.f0 = true
 ·rw [if_pos hr]
  by_cases h0 : x.f0.size = 0
  ·rw [decide_eq_true h0, jt, if_neg (fun h => h.2 h0)]
  rw [decide_eq_false h0, if_pos ⟨hr, h0⟩]
  have hm : remoraref16_Check.f x.f3.f0 x.f3.f1 x.f3.f2 x.f3.f3 x.f3.f4 = some (if metaS x = true then 0 else 2) := meta16_f _ _ _ _ _
  simp only [remoraref20_May.j0, remoraref20_May.j1, remoraref20_May.j2, remoraref20_May.j3, hm, Option.bind_some, if_tl, tl_bne20]
  generalize x.f4.size = t
  generalize x.f5.size = s
  generalize x.f6 = g
  generalize x.f2 = sz
  generalize metaS x = m
  generalize x.f1 = q
  unfold badE
  by_cases q1 : q = 1
  ·subst q1
   cases m <;> simp <;> (repeat' split) <;> simp_all <;> omega
  by_cases q2 : q = 2
  ·subst q2
   cases m <;> simp <;> (repeat' split) <;> simp_all <;> omega
  by_cases q3 : q = 3
  ·subst q3
   cases m <;> simp <;> (repeat' split) <;> simp_all <;> omega
  rw [if_neg (show ¬ (false = true) by decide), if_neg (show ¬ (1 ≤ q ∧ q ≤ 3) by omega)]
  by_cases hq : q < 1
  ·rw [if_pos hq, if_pos trivial]
  rw [if_neg hq, decide_eq_true (show q > 3 by omega), if_pos rfl]
 rw [if_neg hr, jt, if_neg (fun h => hr h.1)]
end Go.Proofs.YtcdmgdegohcmhaaDoor.PA
namespace Go.Proofs.YtcdmgdegohcmhaaDoor.PA
open Go.RowKit Go.Proofs.YtcdmgdegohcmhaaDoorW.PrintWords Go.Proofs.YtcdmgdegohcmhaaDoorW.PrintLast Go.Proofs.YtcdmgdegohcmhaaDoorW.PrintMore
attribute [local go_sem] max2_int min2_int max_two min_two max_three min_three max_four min_four
set_option linter.unusedVariables false
set_option linter.unusedSimpArgs false
theorem rd35_get (L : List S35) (i : Nat) (h : i < L.length) : rd_T35 L (i : Int) = L[i] := by simp [rd_T35, rdOf, h]
def dirsB (P : List S35) (up : ByteArray) : Bool := decide (up.size = 0) || P.any (fun y => decide (y.f0 = up) && decide (y.f1 = 2))
def prev (P : List S35) : S35 := P.getLastD z35
def stepC (P : List S35) (last : Int) (x : S35) : Int :=
 if aloneI x ≠ 0 then aloneI x else
 if P ≠ [] ∧ x.f0 = (prev P).f0 then 11 else
 if P ≠ [] ∧ cmpL (splitL x.f0) (splitL (prev P).f0) < 0 then 3 else
 if dirsB P (parB x.f0) = false then 12 else
 if x.f6 > last + 1 then 5 else 0
def maxI (a b : Int) : Int := if a < b then b else a
def checkG : List S35 → Int → List S35 → Int
 | _, _, [] => 0
 | P, last, x :: l => if stepC P last x ≠ 0 then stepC P last x else checkG (P ++ [x]) (maxI last x.f6) l
theorem checkG_cons (P : List S35) (last : Int) (x : S35) (l : List S35) : checkG P last (x :: l) = if stepC P last x ≠ 0 then stepC P last x else checkG (P ++ [x]) (maxI last x.f6) l := rfl
def checkL20 (L : List S35) : Int := checkG [] 0 L
def light20 (L : List S35) : Prop := L.length ≤ 1000 ∧ ∀ x ∈ L, x.f0.size ≤ 1000
def srt (P : List S35) : Prop := P.Pairwise (fun a b => cmpL (splitL a.f0) (splitL b.f0) < 0)
theorem find_l (M : List S35) (p : ByteArray) (hM : M.length ≤ 1000) : ∀ (m i k : Nat), M.length - i = m → i ≤ M.length → m + 1 ≤ k →
  (∃ j, i ≤ j ∧ ∃ hj : j < M.length, M[j].f0 = p ∧ (∀ t, ∀ ht : t < M.length, i ≤ t → t < j → M[t].f0 ≠ p) ∧ remoraref20_Find.l0 k M p (i : Int) = some ((j : Int), true)) ∨
  ((∀ t, ∀ ht : t < M.length, i ≤ t → M[t].f0 ≠ p) ∧ remoraref20_Find.l0 k M p (i : Int) = some (0, false)) := by
 intro m
 induction m with
 | zero =>
  intro i k hm hi hk
  obtain ⟨k, rfl⟩ : ∃ j, k = j + 1 := ⟨k - 1, by omega⟩
  right
  rw [remoraref20_Find.l0, if_neg (by omega)]
  exact ⟨fun t ht h => by omega, rfl⟩
 | succ m ih =>
  intro i k hm hi hk
  obtain ⟨k, rfl⟩ : ∃ j, k = j + 1 := ⟨k - 1, by omega⟩
  have hlt : i < M.length := by omega
  have e1 : wrap64 ((i : Int) + 1) = ((i + 1 : Nat) : Int) := by rw [wr64 _ (by omega) (by omega)]; rfl
  rw [remoraref20_Find.l0, if_pos (by omega), if_pos (by omega), rd35_get M i hlt, e1]
  by_cases h : M[i].f0 = p
  ·left
   rw [if_pos (by rw [h])]
   exact ⟨i, Nat.le_refl _, hlt, h, fun t ht h1 h2 => by omega, rfl⟩
  rw [if_neg (fun e => h ((tl_eq _ _).1 e))]
  rcases ih (i + 1) k (by omega) (by omega) (by omega) with ⟨j, hj1, hj, h2, h3, h4⟩ | ⟨h3, h4⟩
  ·left
   refine ⟨j, by omega, hj, h2, fun t ht ht1 ht2 => ?_, h4⟩
   by_cases e : t = i
   ·subst e
    exact h
   exact h3 t ht (by omega) ht2
  right
  refine ⟨fun t ht ht1 => ?_, h4⟩
  by_cases e : t = i
  ·subst e
   exact h
  exact h3 t ht (by omega)
theorem split_same20 (a b : ByteArray) (h : splitL a = splitL b) : a = b := by
 rw [← joinB_split a, ← joinB_split b, h]
theorem srt_distinct {P : List S35} (h : srt P) (i j : Nat) (hi : i < P.length) (hj : j < P.length) (e : P[i].f0 = P[j].f0) : i = j := by
 have hp := List.pairwise_iff_getElem.1 h
 by_cases hlt : i < j
 ·have := hp i j hi hj hlt
  rw [e] at this
  exact absurd this (cmp_irr _)
 by_cases hgt : j < i
 ·have := hp j i hj hi hgt
  rw [e] at this
  exact absurd this (cmp_irr _)
 omega
theorem prev_eq (L : List S35) (i : Nat) (h0 : 0 < i) (hi : i ≤ L.length) : prev (L.take i) = L[i - 1]'(by omega) ∧ L.take i ≠ [] := by
 have hl : (L.take i).length = i := by rw [List.length_take]; omega
 have hne : L.take i ≠ [] := fun e => by rw [e] at hl; simp at hl; omega
 refine ⟨?_, hne⟩
 unfold prev
 rw [List.getLastD_eq_getLast?, List.getLast?_eq_getElem?, hl, List.getElem?_take_of_lt (by omega), List.getElem?_eq_getElem (by omega)]
 rfl
theorem step_srt (L : List S35) (i : Nat) (hi : i < L.length) (hs : srt (L.take i)) (h1 : ¬ (L.take i ≠ [] ∧ L[i].f0 = (prev (L.take i)).f0)) (h2 : ¬ (L.take i ≠ [] ∧ cmpL (splitL L[i].f0) (splitL (prev (L.take i)).f0) < 0)) : srt (L.take (i + 1)) := by
 rw [List.take_succ_eq_append_getElem hi]
 unfold srt
 rw [List.pairwise_append]
 refine ⟨hs, List.pairwise_singleton _ _, fun a ha b hb => ?_⟩
 rw [List.mem_singleton.1 hb]
 have hpos : 0 < i := by
  by_cases h : i = 0
  ·subst h
   simp at ha
  omega
 obtain ⟨hp, hne⟩ := prev_eq L i hpos (by omega)
 have hlast : cmpL (splitL (L[i - 1]'(by omega)).f0) (splitL L[i].f0) < 0 := by
  rw [← hp]
  apply Classical.not_not.1
  intro hn
  have := cmp_tri _ _ hn (fun h => h2 ⟨hne, h⟩)
  exact h1 ⟨hne, (split_same20 _ _ this).symm⟩
 obtain ⟨t, ht, rfl⟩ := List.getElem_of_mem ha
 have htl : (L.take i).length = i := by rw [List.length_take]; omega
 by_cases e : t = i - 1
 ·subst e
  rw [List.getElem_take]
  exact hlast
 have h3 := List.pairwise_iff_getElem.1 hs t (i - 1) ht (by omega) (by omega)
 rw [List.getElem_take] at h3 ⊢
 rw [List.getElem_take] at h3
 exact cmp_trans _ _ _ h3 hlast
theorem dirs_find (P : List S35) (hs : srt P) (up : ByteArray) (h0 : up.size ≠ 0) : (∀ j, ∀ hj : j < P.length, P[j].f0 = up → dirsB P up = decide (P[j].f1 = 2)) ∧ ((∀ t, ∀ ht : t < P.length, P[t].f0 ≠ up) → dirsB P up = false) := by
 unfold dirsB
 rw [decide_eq_false h0, Bool.false_or]
 constructor
 ·intro j hj e
  by_cases h2 : P[j].f1 = 2
  ·rw [decide_eq_true h2, List.any_eq_true]
   exact ⟨P[j], List.getElem_mem hj, by rw [decide_eq_true e, decide_eq_true h2]; rfl⟩
  rw [decide_eq_false h2, List.any_eq_false]
  intro y hy
  obtain ⟨t, ht, rfl⟩ := List.getElem_of_mem hy
  by_cases e2 : P[t].f0 = up
  ·have := srt_distinct hs t j ht hj (e2.trans e.symm)
   subst this
   rw [decide_eq_false h2]
   simp
  rw [decide_eq_false e2]
  simp
 intro h
 rw [List.any_eq_false]
 intro y hy
 obtain ⟨t, ht, rfl⟩ := List.getElem_of_mem hy
 rw [decide_eq_false (h t ht)]
 simp
theorem rcheck_l (L : List S35) (hL : light20 L) : ∀ (m i k : Nat) (last : Int), L.length - i = m → i ≤ L.length → 4 * m + 3000100 ≤ k → srt (L.take i) → 0 ≤ last → last ≤ i → remoraref20_Check.l0 k L last (i : Int) = some (checkG (L.take i) last (L.drop i)) := by
 obtain ⟨hn, hz⟩ := hL
 intro m
 induction m with
 | zero =>
  intro i k last hm hi hk hs h0 h1
  obtain ⟨k, rfl⟩ : ∃ j, k = j + 1 := ⟨k - 1, by omega⟩
  obtain rfl : i = L.length := by omega
  rw [remoraref20_Check.l0, if_neg (by omega), List.drop_length]
  rfl
 | succ m ih =>
  intro i k last hm hi hk hs h0 h1
  obtain ⟨k, rfl⟩ : ∃ j, k = j + 4 := ⟨k - 4, by omega⟩
  have hlt : i < L.length := by omega
  have e1 : wrap64 ((i : Int) + 1) = ((i + 1 : Nat) : Int) := by rw [wr64 _ (by omega) (by omega)]; rfl
  have e2 : wrap64 (last + 1) = last + 1 := wr64 _ (by omega) (by omega)
  have hx : (L[i]).f0.size ≤ 1000 := hz _ (List.getElem_mem hlt)
  have htl : (L.take i).length = i := by rw [List.length_take]; omega
  rw [remoraref20_Check.l0, if_pos (by omega), if_pos (by omega), rd35_get L i hlt, may20_f (L[i]) (by omega) (k + 3) (by omega), Option.bind_some, List.drop_eq_getElem_cons hlt, checkG_cons]
  by_cases ha : aloneI (L[i]) = 0
  ·rw [if_pos ha]
   have j3f : stepC (L.take i) last (L[i]) = (if L[i].f6 > last + 1 then 5 else 0) → (¬ (L.take i ≠ [] ∧ L[i].f0 = (prev (L.take i)).f0)) → (¬ (L.take i ≠ [] ∧ cmpL (splitL L[i].f0) (splitL (prev (L.take i)).f0) < 0)) → remoraref20_Check.j3 (k + 1) L last (i : Int) false L[i].f0 L[i].f1 L[i].f2 L[i].f3.f0 L[i].f3.f1 L[i].f3.f2 L[i].f3.f3 L[i].f3.f4 L[i].f4 L[i].f5 L[i].f6 = some (if stepC (L.take i) last (L[i]) ≠ 0 then stepC (L.take i) last (L[i]) else checkG (L.take i ++ [L[i]]) (maxI last (L[i]).f6) (L.drop (i + 1))) := fun hst n1 n2 => by
    rw [remoraref20_Check.j3, if_neg (by decide), e2, e1, hst]
    by_cases hg : L[i].f6 > last + 1
    ·rw [if_pos hg, if_pos hg, if_pos (by decide)]
    rw [if_neg hg, if_neg hg, if_neg (by decide), ← List.take_succ_eq_append_getElem hlt]
    have hmx : mx last L[i].f6 = maxI last L[i].f6 := rfl
    rw [hmx]
    refine ih (i + 1) k _ (by omega) (by omega) (by omega) (step_srt L i hlt hs n1 n2) ?_ ?_
    ·unfold maxI; split <;> omega
    unfold maxI; split <;> omega
   have j3t : stepC (L.take i) last (L[i]) = 12 → remoraref20_Check.j3 (k + 1) L last (i : Int) true L[i].f0 L[i].f1 L[i].f2 L[i].f3.f0 L[i].f3.f1 L[i].f3.f2 L[i].f3.f3 L[i].f3.f4 L[i].f4 L[i].f5 L[i].f6 = some (if stepC (L.take i) last (L[i]) ≠ 0 then stepC (L.take i) last (L[i]) else checkG (L.take i ++ [L[i]]) (maxI last (L[i]).f6) (L.drop (i + 1))) := fun hst => by
    rw [remoraref20_Check.j3, if_pos rfl, hst, if_pos (by decide)]
   have j2f : (¬ (L.take i ≠ [] ∧ L[i].f0 = (prev (L.take i)).f0)) → (¬ (L.take i ≠ [] ∧ cmpL (splitL L[i].f0) (splitL (prev (L.take i)).f0) < 0)) → remoraref20_Check.j2 (k + 2) L last (i : Int) false L[i].f0 L[i].f1 L[i].f2 L[i].f3.f0 L[i].f3.f1 L[i].f3.f2 L[i].f3.f3 L[i].f3.f4 L[i].f4 L[i].f5 L[i].f6 = some (if stepC (L.take i) last (L[i]) ≠ 0 then stepC (L.take i) last (L[i]) else checkG (L.take i ++ [L[i]]) (maxI last (L[i]).f6) (L.drop (i + 1))) := fun n1 n2 => by
    have hst0 : stepC (L.take i) last (L[i]) = if dirsB (L.take i) (parB L[i].f0) = false then 12 else if L[i].f6 > last + 1 then 5 else 0 := by
     unfold stepC
     rw [if_neg (fun h => h ha), if_neg n1, if_neg n2]
    rw [remoraref20_Check.j2, if_neg (by decide), rparent_f L[i].f0 (by unfold sml; omega) (k + 1) (by omega), Option.bind_some, if_pos (by omega), if_pos (by omega), Int.toNat_natCast]
    have hfind := find_l (L.take i) (parB L[i].f0) (by omega) (L.take i).length 0 (k + 1) (by omega) (by omega) (by omega)
    have ef : remoraref20_Find.f (k + 1) (L.take i) (parB L[i].f0) = remoraref20_Find.l0 (k + 1) (L.take i) (parB L[i].f0) ((0 : Nat) : Int) := rfl
    rw [ef]
    by_cases hup : (parB L[i].f0).size = 0
    ·have hd : dirsB (L.take i) (parB L[i].f0) = true := by unfold dirsB; rw [decide_eq_true hup]; rfl
     have hst := hst0
     rw [hd, if_neg (by decide)] at hst
     have hbind : ∀ (o : Option (Int × Bool)) (v : Option Int), (∃ q, o = some q) → (o.bind fun _ => v) = v := fun o v ⟨q, hq⟩ => by rw [hq]; rfl
     have hq : ∃ q, remoraref20_Find.l0 (k + 1) (L.take i) (parB L[i].f0) ((0 : Nat) : Int) = some q := by
      rcases hfind with ⟨j, _, _, _, _, h⟩ | ⟨_, h⟩
      ·exact ⟨_, h⟩
      exact ⟨_, h⟩
     obtain ⟨q, hq⟩ := hq
     rw [hq, Option.bind_some, if_pos ((size_tl20 _).2 hup)]
     exact j3f hst n1 n2
    have hup' : ¬ (parB L[i].f0).toList = ([] : List UInt8) := fun e => hup ((size_tl20 _).1 e)
    obtain ⟨d1, d2⟩ := dirs_find (L.take i) hs (parB L[i].f0) hup
    rcases hfind with ⟨j, _, hj, hjp, _, h⟩ | ⟨hno, h⟩
    ·have hjl : j < L.length := by omega
     rw [h, Option.bind_some, if_neg hup', if_pos rfl, if_pos (show (0 : Int) ≤ ((j : Int), true).1 by show (0 : Int) ≤ (j : Int); omega), if_pos (show ((j : Int), true).1 < (L.length : Int) by show (j : Int) < (L.length : Int); omega)]
     show remoraref20_Check.j3 (k + 1) L last (i : Int) ((rd_T35 L (j : Int)).f1 != 2) _ _ _ _ _ _ _ _ _ _ _ = _
     rw [rd35_get L j hjl]
     have hdj := d1 j hj hjp
     rw [List.getElem_take] at hdj
     by_cases h2 : L[j].f1 = 2
     ·have hb : (L[j].f1 != 2) = false := by rw [h2]; rfl
      rw [decide_eq_true h2] at hdj
      have hst := hst0
      rw [hdj, if_neg (by decide)] at hst
      rw [hb]
      exact j3f hst n1 n2
     have hb : (L[j].f1 != 2) = true := bne_iff_ne.2 h2
     rw [decide_eq_false h2] at hdj
     have hst := hst0
     rw [hdj, if_pos rfl] at hst
     rw [hb]
     exact j3t hst
    have hst := hst0
    rw [d2 (fun t ht => hno t ht (Nat.zero_le _)), if_pos rfl] at hst
    rw [h, Option.bind_some, if_neg hup', if_neg (by decide)]
    exact j3t hst
   have j2t : (L.take i ≠ [] ∧ ¬ L[i].f0 = (prev (L.take i)).f0 ∧ cmpL (splitL L[i].f0) (splitL (prev (L.take i)).f0) < 0) → remoraref20_Check.j2 (k + 2) L last (i : Int) true L[i].f0 L[i].f1 L[i].f2 L[i].f3.f0 L[i].f3.f1 L[i].f3.f2 L[i].f3.f3 L[i].f3.f4 L[i].f4 L[i].f5 L[i].f6 = some (if stepC (L.take i) last (L[i]) ≠ 0 then stepC (L.take i) last (L[i]) else checkG (L.take i ++ [L[i]]) (maxI last (L[i]).f6) (L.drop (i + 1))) := fun ⟨n1, n2, n3⟩ => by
    have hst : stepC (L.take i) last (L[i]) = 3 := by
     unfold stepC
     rw [if_neg (fun h => h ha), if_neg (fun h => n2 h.2), if_pos ⟨n1, n3⟩]
    rw [remoraref20_Check.j2, if_pos rfl, hst, if_pos (by decide)]
   by_cases hi0 : 0 < i
   ·obtain ⟨hpv, hne⟩ := prev_eq L i hi0 (by omega)
    have e3 : wrap64 ((i : Int) - 1) = ((i - 1 : Nat) : Int) := by rw [wr64 _ (by omega) (by omega)]; omega
    have hpl : (L[i - 1]'(by omega)).f0.size ≤ 1000 := hz _ (List.getElem_mem _)
    rw [if_pos (by omega), e3, if_pos (by omega), if_pos (by omega), rd35_get L (i - 1) (by omega), ← hpv, tl_beq]
    rw [← hpv] at hpl
    by_cases hq : L[i].f0 = (prev (L.take i)).f0
    ·have hst : stepC (L.take i) last (L[i]) = 11 := by
      unfold stepC
      rw [if_neg (fun h => h ha), if_pos ⟨hne, hq⟩]
     rw [decide_eq_true hq, remoraref20_Check.j1, if_pos rfl, hst, if_pos (by decide)]
    rw [decide_eq_false hq, remoraref20_Check.j1, if_neg (by decide), if_pos (by omega), e3, if_pos (by omega), if_pos (by omega), rd35_get L (i - 1) (by omega), ← hpv, rless_f _ _ (by unfold sml; omega) (by unfold sml; omega) (k + 2) (by omega), Option.bind_some]
    by_cases hc : cmpL (splitL L[i].f0) (splitL (prev (L.take i)).f0) < 0
    ·rw [decide_eq_true hc]
     exact j2t ⟨hne, hq, hc⟩
    rw [decide_eq_false hc]
    exact j2f (fun h => hq h.2) (fun h => hc h.2)
   obtain rfl : i = 0 := by omega
   rw [if_neg (by omega), remoraref20_Check.j1, if_neg (by decide), if_neg (by omega)]
   exact j2f (fun h => h.1 rfl) (fun h => h.1 rfl)
  have hst : stepC (L.take i) last (L[i]) = aloneI (L[i]) := by
   unfold stepC
   rw [if_pos ha]
  rw [if_neg ha, hst, if_pos ha]
theorem rcheck20_f (L : List S35) (hL : light20 L) (k : Nat) (hk : 3010000 ≤ k) : remoraref20_Check.f k L = some (checkL20 L) := by
 have hn := hL.1
 exact rcheck_l L hL L.length 0 k 0 (by omega) (by omega) (by omega) List.Pairwise.nil (by omega) (by omega)
end Go.Proofs.YtcdmgdegohcmhaaDoor.PA
namespace Go.Proofs.YtcdmgdegohcmhaaDoor.PA
open Go.RowKit Go.Proofs.YtcdmgdegohcmhaaDoorW.PrintWords Go.Proofs.YtcdmgdegohcmhaaDoorW.PrintLast Go.Proofs.YtcdmgdegohcmhaaDoorW.PrintMore
attribute [local go_sem] max2_int min2_int max_two min_two max_three min_three max_four min_four
set_option linter.unusedVariables false
set_option linter.unusedSimpArgs false
open Go.Maps in
structure MapB (w wr : World) (mb : Nat) (P : List S35) : Prop where
 base : w.heap.size ≤ mb
 own : ∃ n, ∃ D : DataW Unit, wr.ownsMap Tryd.prog 9 (plainElem Tryd.prog 4) mb n D ∧ n ≤ P.length + 1 ∧ ∀ s : ByteArray, D.atKey (.string s.data.toList) (.lit (.bool false)) = .lit (.bool (dirsB P s))
theorem plainElem_bool_inv {Q : Program} {e : TypeId} (he : Q.underlying e = some .bool) {v : Value} {z : DataW Unit × List MemPlace} (h : plainElem Q e v = some z) : ∃ b, v = .bool b ∧ z = (.lit (.bool b), []) := by
 unfold plainElem at h
 rw [he] at h
 cases v <;> simp at h
 exact ⟨_, rfl, h.symm⟩
theorem dirs_put (P : List S35) (x : S35) (h : x.f1 = 2) (s : ByteArray) : dirsB (P ++ [x]) s = (decide (x.f0 = s) || dirsB P s) := by
 unfold dirsB
 rw [List.any_append, List.any_cons, List.any_nil, decide_eq_true h, Bool.and_true, Bool.or_false]
 cases decide (s.size = 0) <;> cases P.any (fun y => decide (y.f0 = s) && decide (y.f1 = 2)) <;> cases decide (x.f0 = s) <;> rfl
theorem dirs_same (P : List S35) (x : S35) (h : x.f1 ≠ 2) (s : ByteArray) : dirsB (P ++ [x]) s = dirsB P s := by
 unfold dirsB
 rw [List.any_append, List.any_cons, List.any_nil, decide_eq_false h, Bool.and_false, Bool.or_false, Bool.or_false]
theorem MapB.step {w wr w2 : World} {mb : Nat} {P : List S35} (h : MapB w wr mb P) (hb : Below wr.heap.size wr w2) : MapB w w2 mb P := by
 obtain ⟨h1, n, D, ⟨es, clock, hh, F, hs, hD⟩, h2, h3⟩ := h
 exact ⟨h1, n, D, ⟨es, clock, blk_below hh hb, F, hs, hD⟩, h2, h3⟩
theorem MapB.heap {w wr w2 : World} {mb : Nat} {P : List S35} (h : MapB w wr mb P) (hh : w2.heap[mb]? = wr.heap[mb]?) : MapB w w2 mb P := by
 obtain ⟨h1, n, D, ⟨es, clock, hb, F, hs, hD⟩, h2, h3⟩ := h
 exact ⟨h1, n, D, ⟨es, clock, hh.trans hb, F, hs, hD⟩, h2, h3⟩
theorem MapB.set {w wr : World} {mb g j : Nat} {P : List S35} {u : Value} (h : MapB w wr mb P) (hne : mb ≠ g) : MapB w (wr.setCell ⟨g, j, none⟩ u) mb P := h.heap (Below.heap_setCell wr ⟨g, j, none⟩ u mb hne)
theorem MapB.lt {w wr : World} {mb : Nat} {P : List S35} (h : MapB w wr mb P) : mb < wr.heap.size := by
 obtain ⟨h1, n, D, ho, h2, h3⟩ := h
 exact ho.lt
theorem MapB.same {w wr : World} {mb : Nat} {P : List S35} (h : MapB w wr mb P) (x : S35) (hx : x.f1 ≠ 2) : MapB w wr mb (P ++ [x]) := by
 obtain ⟨h1, n, D, ho, h2, h3⟩ := h
 exact ⟨h1, n, D, ho, by rw [List.length_append]; omega, fun s => by rw [dirs_same P x hx]; exact h3 s⟩
theorem MapB.look {w wr : World} {mb : Nat} {P : List S35} (h : MapB w wr mb P) (s : ByteArray) (hs : s.size ≤ maxLen) : (Instr.lookup 48 (.map (some mb)) (.string s) false).run Tryd.prog wr = .ok (.bool (dirsB P s)) wr := by
 obtain ⟨h1, n, D, ho, h2, h3⟩ := h
 obtain ⟨v, ps, hrun, hv⟩ := ho.lookup (z := .bool false) (zd := .lit (.bool false)) (zp := []) (Go.Maps.string_keyed Tryd.underlying9) Tryd.underlying48 (by kernel_rfl) (plainElem_bool Tryd.underlying4 false) (Go.WideMaps.keyOf_string_mk Tryd.underlying9 hs)
 rw [h3 s] at hv
 obtain ⟨b, hvb, hb⟩ := plainElem_bool_inv Tryd.underlying4 hv
 have hb4 : dirsB P s = b := Lit.bool.inj (DataW.lit.inj (Prod.mk.inj hb).1)
 rw [hvb] at hrun
 exact hb4 ▸ hrun
theorem MapB.put {w wr : World} {mb : Nat} {P : List S35} (h : MapB w wr mb P) (hB : Below w.heap.size w wr) (x : S35) (hx : x.f1 = 2) (hs : x.f0.size ≤ maxLen) (hP : P.length ≤ 1000) : ∃ w', (Instr.mapUpdate 48 (.map (some mb)) (.string x.f0) (.bool true)).run Tryd.prog wr = .ok () w' ∧ MapB w w' mb (P ++ [x]) ∧ Below w.heap.size w w' := by
 obtain ⟨h1, n, D, ho, h2, h3⟩ := h
 obtain ⟨w', hrun, ho2, hg⟩ := ho.update (Go.Maps.string_keyed Tryd.underlying9) Tryd.underlying48 (by simp [maxLen]; omega) (Go.WideMaps.keyOf_string_mk Tryd.underlying9 hs) (plainElem_bool Tryd.underlying4 true)
 refine ⟨w', hrun, ⟨h1, n + 1, _, ho2, by rw [List.length_append]; simp; omega, fun s => ?_⟩, ?_⟩
 ·rw [dirs_put P x hx]
  by_cases e : x.f0 = s
  ·subst e
   rw [decide_eq_true rfl, Bool.true_or]
   exact Go.Maps.atKey_put_same ho.isMap (show WideAt.IsKeyLit (.string _) from trivial) _ _
  rw [decide_eq_false e, Bool.false_or, Go.Maps.atKey_put_other, h3 s]
  intro h
  injection h with h
  exact e (ByteArray.ext (Array.toList_inj.1 h)).symm
 exact hB.grown hg (Nat.le_of_lt (Nat.lt_of_le_of_lt h1 ho.lt)) (fun k hk => by simp at hk; omega)
theorem MapB.start (w : World) : ∃ w1, (Instr.mapUpdate 48 (.map (some w.heap.size)) (.string ⟨#[]⟩) (.bool true)).run Tryd.prog (w.alloc (.map #[] 0)) = .ok () w1 ∧ MapB w w1 w.heap.size [] ∧ Below w.heap.size w w1 := by
 have ho := World.ownsMap_made (H := Unit) w Tryd.prog 9 (plainElem Tryd.prog 4)
 obtain ⟨w', hrun, ho2, hg⟩ := ho.update (Go.Maps.string_keyed Tryd.underlying9) Tryd.underlying48 (by decide) (Go.WideMaps.keyOf_string_mk Tryd.underlying9 (s := ⟨#[]⟩) (by decide)) (plainElem_bool Tryd.underlying4 true)
 refine ⟨w', hrun, ⟨Nat.le_refl _, 1, _, ho2, by simp, fun s => ?_⟩, ?_⟩
 ·by_cases e : s.size = 0
  ·obtain rfl := size_zero e
   have : dirsB [] (⟨#[]⟩ : ByteArray) = true := rfl
   rw [this]
   exact Go.Maps.atKey_put_same ho.isMap (show WideAt.IsKeyLit (.string _) from trivial) _ _
  have hd : dirsB [] s = false := by unfold dirsB; rw [decide_eq_false e]; rfl
  rw [hd, Go.Maps.atKey_put_other]
  ·rfl
  intro h
  injection h with h
  refine e ?_
  have := congrArg List.length h
  rw [Array.length_toList] at this
  exact this
 exact (below_alloc (Below.refl _ _) _).grown hg (by simp) (fun k hk => by simp at hk; omega)
end Go.Proofs.YtcdmgdegohcmhaaDoor.PA
namespace Go.Proofs.YtcdmgdegohcmhaaDoor.PA
open Go.RowKit Go.Proofs.YtcdmgdegohcmhaaDoorW.PrintWords Go.Proofs.YtcdmgdegohcmhaaDoorW.PrintLast Go.Proofs.YtcdmgdegohcmhaaDoorW.PrintMore
attribute [local go_sem] max2_int min2_int max_two min_two max_three min_three max_four min_four
set_option linter.unusedVariables false
set_option linter.unusedSimpArgs false
mutual
def flist_Check_h.l0 : Nat → List (S35) → Int → Int → Option (Int)
 | 0, _, _, _ => none
 | k + 1, x0, x3, x4 => if x4 < (x0.length : Int) then (if 0 ≤ x4 then ((flist_alone.f k ((rd_T35 x0 x4).f0) ((rd_T35 x0 x4).f1) ((rd_T35 x0 x4).f2) ((rd_T35 x0 x4).f3.f0) ((rd_T35 x0 x4).f3.f1) ((rd_T35 x0 x4).f3.f2) ((rd_T35 x0 x4).f3.f3) ((rd_T35 x0 x4).f3.f4) ((rd_T35 x0 x4).f4) ((rd_T35 x0 x4).f5) ((rd_T35 x0 x4).f6)).bind fun t103 => (if t103 = 0 then (if x4 > 0 then (if 0 ≤ (wrap64 (x4 - 1)) then (if (wrap64 (x4 - 1)) < (x0.length : Int) then (flist_Check_h.j1 k x0 x3 x4 (((rd_T35 x0 x4).f0).toList == ((rd_T35 x0 (wrap64 (x4 - 1))).f0).toList) ((rd_T35 x0 x4).f0) ((rd_T35 x0 x4).f1) ((rd_T35 x0 x4).f2) ((rd_T35 x0 x4).f3.f0) ((rd_T35 x0 x4).f3.f1) ((rd_T35 x0 x4).f3.f2) ((rd_T35 x0 x4).f3.f3) ((rd_T35 x0 x4).f3.f4) ((rd_T35 x0 x4).f4) ((rd_T35 x0 x4).f5) ((rd_T35 x0 x4).f6)) else (none)) else (none)) else (flist_Check_h.j1 k x0 x3 x4 false ((rd_T35 x0 x4).f0) ((rd_T35 x0 x4).f1) ((rd_T35 x0 x4).f2) ((rd_T35 x0 x4).f3.f0) ((rd_T35 x0 x4).f3.f1) ((rd_T35 x0 x4).f3.f2) ((rd_T35 x0 x4).f3.f3) ((rd_T35 x0 x4).f3.f4) ((rd_T35 x0 x4).f4) ((rd_T35 x0 x4).f5) ((rd_T35 x0 x4).f6))) else (some t103))) else (none)) else (some 0)
def flist_Check_h.j1 : Nat → List (S35) → Int → Int → Bool → ByteArray → Int → Int → Int → Int → Int → Int → Int → ByteArray → ByteArray → Int → Option (Int)
 | 0, _, _, _, _, _, _, _, _, _, _, _, _, _, _, _ => none
 | k + 1, x0, x3, x4, x37, x103000, x103001, x103002, x103003, x103004, x103005, x103006, x103007, x103008, x103009, x103010 => if x37 = true then (some 11) else (if x4 > 0 then (if 0 ≤ (wrap64 (x4 - 1)) then (if (wrap64 (x4 - 1)) < (x0.length : Int) then ((path_Less.f k x103000 ((rd_T35 x0 (wrap64 (x4 - 1))).f0)).bind fun t106 => (flist_Check_h.j2 k x0 x3 x4 t106 x103000 x103001 x103002 x103003 x103004 x103005 x103006 x103007 x103008 x103009 x103010)) else (none)) else (none)) else (flist_Check_h.j2 k x0 x3 x4 false x103000 x103001 x103002 x103003 x103004 x103005 x103006 x103007 x103008 x103009 x103010))
def flist_Check_h.j2 : Nat → List (S35) → Int → Int → Bool → ByteArray → Int → Int → Int → Int → Int → Int → Int → ByteArray → ByteArray → Int → Option (Int)
 | 0, _, _, _, _, _, _, _, _, _, _, _, _, _, _, _ => none
 | k + 1, x0, x3, x4, x50, x103000, x103001, x103002, x103003, x103004, x103005, x103006, x103007, x103008, x103009, x103010 => if x50 = true then (some 3) else ((path_Parent.f k x103000).bind fun t107 => (if dirsB (x0.take x4.toNat) t107 = false then (some 12) else (if x103010 > (wrap64 (x3 + 1)) then (some 5) else (flist_Check_h.l0 k x0 (mx x3 x103010) (wrap64 (x4 + 1))))))
end
theorem parent_size (k : Nat) (a t : ByteArray) (h : path_Parent.f k a = some t) : t.size ≤ a.size := by
 unfold path_Parent.f at h
 obtain ⟨t101, _, h⟩ := Option.bind_eq_some_iff.mp h
 by_cases h1 : 0 ≤ mx t101 0
 ·rw [if_pos h1] at h
  by_cases h2 : mx t101 0 ≤ (a.size : Int)
  ·rw [if_pos h2] at h
   obtain rfl := Option.some.inj h
   rw [ByteArray.size_extract]
   omega
  rw [if_neg h2] at h
  exact absurd h (by simp)
 rw [if_neg h1] at h
 exact absurd h (by simp)
theorem take_rd35 (L : List S35) (i : Int) (h0 : 0 ≤ i) (h1 : i < (L.length : Int)) (h2 : L.length ≤ 1000) : L.take (wrap64 (i + 1)).toNat = L.take i.toNat ++ [rd_T35 L i] := by
 obtain ⟨n, rfl⟩ : ∃ n : Nat, i = (n : Int) := ⟨i.toNat, by omega⟩
 have hn : n < L.length := by omega
 rw [show wrap64 ((n : Int) + 1) = ((n + 1 : Nat) : Int) by rw [wr64 _ (by omega) (by omega)]; rfl, Int.toNat_natCast, Int.toNat_natCast, rd35_get L n hn, List.take_succ_eq_append_getElem hn]
theorem rd35_mem (L : List S35) (i : Int) (h0 : 0 ≤ i) (h1 : i < (L.length : Int)) : rd_T35 L i ∈ L := by
 obtain ⟨n, rfl⟩ : ∃ n : Nat, i = (n : Int) := ⟨i.toNat, by omega⟩
 rw [rd35_get L n (by omega)]
 exact List.getElem_mem _
theorem MapB.drew {w wr : World} {mb : Nat} {P : List S35} (h : MapB w wr mb P) : MapB w wr.drew mb P := h.heap rfl
def flist_Check_h.T9 : Bool × List (List Nat × List Nat) := (true, [([], []), ([0], [0]), ([1], [1]), ([2], [2]), ([3, 2], [2, 3]), ([2], [2]), ([2], [2]), ([6, 2], [2, 6]), ([5, 7, 2], [2, 5, 7]), ([8, 2], [2, 8]), ([9, 2], [2, 9]), ([4, 10, 2], [2, 4, 10]), ([2, 11], [2, 11])])
def flist_Check_h.B9 : List Nat := [0, 1, 3, 7, 15, 7, 7, 71, 231, 487, 999, 2047, 4095]
theorem flist_Check_h.tab9 : rtab .any (opsOf Tryd.f12 9) = flist_Check_h.T9 := by kernel_rfl
theorem flist_Check_h.bits9 : waitsOk flist_Check_h.T9.2 flist_Check_h.B9 = true := by kernel_rfl
def flist_Check_h.T11 : Bool × List (List Nat × List Nat) := (true, [([], []), ([0], [0]), ([1], [1]), ([2], [2]), ([3, 2], [2, 3]), ([2], [2]), ([2], [2]), ([6, 2], [2, 6]), ([5, 7, 2], [2, 5, 7]), ([8, 2], [2, 8]), ([9, 2], [2, 9]), ([4, 10, 2, 2], [2, 4, 10]), ([2, 11], [2, 11])])
def flist_Check_h.B11 : List Nat := [0, 1, 3, 7, 15, 7, 7, 71, 231, 487, 999, 2047, 4095]
theorem flist_Check_h.tab11 : rtab .any (opsOf Tryd.f12 11) = flist_Check_h.T11 := by kernel_rfl
theorem flist_Check_h.bits11 : waitsOk flist_Check_h.T11.2 flist_Check_h.B11 = true := by kernel_rfl
set_option maxHeartbeats 4000000 in
set_option maxRecDepth 100000 in
theorem flist_Check_h.calls (k : Nat) (A0 : Option Addr) (c0 : Nat) (l0 : List (S35)) (r : Int) (w : World) (hr0 : Kd.C k35 w A0 l0.length l0) (hL : light20 l0) (h : flist_Check_h.l0 k l0 0 0 = some r) :
  Calls Tryd.prog 12 #[.slice A0 l0.length c0] w fun e w' => e = .returned (.int .i64 r) ∧ Below w.heap.size w w' := by
 have hu35 := Tryd.underlying35
 have HR0 := Aside0.mk hr0
 have HL := Aside0.mk hL
 clear hr0 hL
 have H' := Aside0.mk h
 clear h
 obtain ⟨w1, hput, hm, hb⟩ := MapB.start w
 have HB := Aside0.mk hb
 have HM := Aside0.mk hm
 clear hb hm
 have hmk : ∀ W : World, (Instr.makeMap 48 none).run Tryd.prog W = .ok (.map (some W.heap.size)) (W.alloc (.map #[] 0)) := fun W => run_makeMap 48 W
 go_enter Tryd.func12, Tryd.ntmps12
 go_wp2
 go_loopg [4, 12] k (fun kq v4 v12 w' => ∃ (x3_1 : Int) (x4_1 : Int), v4 = .int .i64 x3_1 ∧ v12 = .int .i64 x4_1 ∧ Aside0 (flist_Check_h.l0 kq l0 x3_1 x4_1 = some r) ∧ Aside0 (kq ≤ k) ∧ Aside0 (Below w.heap.size w w') ∧ Aside0 (MapB w w' w.heap.size (l0.take x4_1.toNat)))
 case atStart => exact ⟨(0), (0), (by first | rfl | (simp; done)), (by first | rfl | (simp; done)), H', ⟨Nat.le_refl _⟩, ⟨HB.out⟩, ⟨HM.out⟩⟩
 case round =>
  clear H'
  try clear c1
  obtain ⟨x3_1, x4_1, rfl, rfl, HA, HK1, HB, HM⟩ := hrel
  cases gk with
  | zero => exact absurd HA.out (by simp [flist_Check_h.l0])
  | succ k1 =>
   have H := HA.out
   clear HA
   simp only [flist_Check_h.l0] at H
   by_cases c2 : x4_1 < (l0.length : Int)
   ·rw [if_pos c2] at H
    have c2b0 : decide (x4_1 < (l0.length : Int)) = true := decide_eq_true c2
    clear c2
    by_cases c3 : 0 ≤ x4_1
    ·rw [if_pos c3] at H
     have c3b0 : decide (0 ≤ x4_1) = true := decide_eq_true c3
     clear c3
     replace H := Option.bind_eq_some_iff.mp H
     obtain ⟨t103, A40, H⟩ := H
     replace H : (if t103 = 0 then (if x4_1 > 0 then (if 0 ≤ (wrap64 (x4_1 - 1)) then (if (wrap64 (x4_1 - 1)) < (l0.length : Int) then (flist_Check_h.j1 k1 l0 x3_1 x4_1 (((rd_T35 l0 x4_1).f0).toList == ((rd_T35 l0 (wrap64 (x4_1 - 1))).f0).toList) ((rd_T35 l0 x4_1).f0) ((rd_T35 l0 x4_1).f1) ((rd_T35 l0 x4_1).f2) ((rd_T35 l0 x4_1).f3.f0) ((rd_T35 l0 x4_1).f3.f1) ((rd_T35 l0 x4_1).f3.f2) ((rd_T35 l0 x4_1).f3.f3) ((rd_T35 l0 x4_1).f3.f4) ((rd_T35 l0 x4_1).f4) ((rd_T35 l0 x4_1).f5) ((rd_T35 l0 x4_1).f6)) else (none)) else (none)) else (flist_Check_h.j1 k1 l0 x3_1 x4_1 false ((rd_T35 l0 x4_1).f0) ((rd_T35 l0 x4_1).f1) ((rd_T35 l0 x4_1).f2) ((rd_T35 l0 x4_1).f3.f0) ((rd_T35 l0 x4_1).f3.f1) ((rd_T35 l0 x4_1).f3.f2) ((rd_T35 l0 x4_1).f3.f3) ((rd_T35 l0 x4_1).f3.f4) ((rd_T35 l0 x4_1).f4) ((rd_T35 l0 x4_1).f5) ((rd_T35 l0 x4_1).f6))) else (some t103)) = some r := H
     have A4 := Aside0.mk A40
     clear A40
     by_cases c5 : t103 = 0
     ·rw [if_pos c5] at H
      have c5b0 : (t103 == 0) = true := beq_iff_eq.mpr c5
      have c5b1 : (t103 != 0) = false := bne_eq_false_iff_eq.mpr c5
      clear c5
      have HC6 := Aside0.mk H
      clear H
      have p101 : 0 ≤ (x4_1 : Int) := of_decide_eq_true (by first | (with_reducible assumption) | assumption)
      have q101 : x4_1 < (l0.length : Int) := of_decide_eq_true (by first | (with_reducible assumption) | assumption)
      obtain ⟨ad101, e101, hx101_0, hx101_1, hx101_2, hx101_3, hx101_4, hx101_5, hx101_6, hx101_7, hx101_8, hx101_9, hx101_10⟩ := at_T35 HR0.out x4_1 p101 q101
      cases e101
      replace hx101_0 := (HB.out.cell (World.block_lt_of_cell? w _ hx101_0)).trans hx101_0
      replace hx101_1 := (HB.out.cell (World.block_lt_of_cell? w _ hx101_1)).trans hx101_1
      replace hx101_2 := (HB.out.cell (World.block_lt_of_cell? w _ hx101_2)).trans hx101_2
      replace hx101_3 := (HB.out.cell (World.block_lt_of_cell? w _ hx101_3)).trans hx101_3
      replace hx101_4 := (HB.out.cell (World.block_lt_of_cell? w _ hx101_4)).trans hx101_4
      replace hx101_5 := (HB.out.cell (World.block_lt_of_cell? w _ hx101_5)).trans hx101_5
      replace hx101_6 := (HB.out.cell (World.block_lt_of_cell? w _ hx101_6)).trans hx101_6
      replace hx101_7 := (HB.out.cell (World.block_lt_of_cell? w _ hx101_7)).trans hx101_7
      replace hx101_8 := (HB.out.cell (World.block_lt_of_cell? w _ hx101_8)).trans hx101_8
      replace hx101_9 := (HB.out.cell (World.block_lt_of_cell? w _ hx101_9)).trans hx101_9
      replace hx101_10 := (HB.out.cell (World.block_lt_of_cell? w _ hx101_10)).trans hx101_10
      have hIN := Aside0.mk (And.intro p101 q101)
      replace p101 := eq_true p101
      replace q101 := eq_true q101
      go_upto_region 9 with (first | ((with_reducible refine gate_dst (N := 6) rfl ?_); refine box_event ?hg (N := 6) ?hd (cs := #[.string (⟨#[]⟩ : ByteArray), .int .i64 0, .int .i64 0, .int .i64 0, .int .i64 0, .int .i64 0, .int .i64 0, .int .i64 0, .string (⟨#[]⟩ : ByteArray), .string (⟨#[]⟩ : ByteArray), .int .i64 0]) (t := 35) ?hr ?_; (case hd => rfl); (case hg => rfl); (case hr => first | (go_simp; done) | (go_simp; rfl)); intro gb102 hg w7 hbox hb; have n0_ := Aside0.mk (below_step (upB HB.out) hb); have n1_ := Aside0.mk (hbox); have n8_ := Aside0.mk ((by rw [hg]; exact Nat.ne_of_lt HM.out.lt) : w.heap.size ≠ gb102); have n9_ := Aside0.mk (MapB.step HM.out hb); clear HM; have HM := n9_; have NE102 := n8_; clear n8_ n9_; have n2_ := Aside0.mk ((by rw [hg]; exact (below_size (upB HB.out)) : w.heap.size ≤ gb102)); have n3_ := Aside0.mk ((by rw [hg]; exact (below_size (upB HB.out)) : w.heap.size ≤ gb102)); clear HB; have HB := n0_; have BK102 := n1_; have GW102 := n2_; have GE102 := n3_; clear n0_ n1_ n2_ n3_; clear hb hbox hg; have hcz8_0 : w7.cell? ⟨gb102, 0, none⟩ = some (.string (⟨#[]⟩ : ByteArray)) := (blk_cell BK102.out 0).trans rfl; have hcz8_1 : w7.cell? ⟨gb102, 1, none⟩ = some (.int .i64 0) := (blk_cell BK102.out 1).trans rfl; have hcz8_2 : w7.cell? ⟨gb102, 2, none⟩ = some (.int .i64 0) := (blk_cell BK102.out 2).trans rfl; have hcz8_3 : w7.cell? ⟨gb102, 3, none⟩ = some (.int .i64 0) := (blk_cell BK102.out 3).trans rfl; have hcz8_4 : w7.cell? ⟨gb102, 4, none⟩ = some (.int .i64 0) := (blk_cell BK102.out 4).trans rfl; have hcz8_5 : w7.cell? ⟨gb102, 5, none⟩ = some (.int .i64 0) := (blk_cell BK102.out 5).trans rfl; have hcz8_6 : w7.cell? ⟨gb102, 6, none⟩ = some (.int .i64 0) := (blk_cell BK102.out 6).trans rfl; have hcz8_7 : w7.cell? ⟨gb102, 7, none⟩ = some (.int .i64 0) := (blk_cell BK102.out 7).trans rfl; have hcz8_8 : w7.cell? ⟨gb102, 8, none⟩ = some (.string (⟨#[]⟩ : ByteArray)) := (blk_cell BK102.out 8).trans rfl; have hcz8_9 : w7.cell? ⟨gb102, 9, none⟩ = some (.string (⟨#[]⟩ : ByteArray)) := (blk_cell BK102.out 9).trans rfl; have hcz8_10 : w7.cell? ⟨gb102, 10, none⟩ = some (.int .i64 0) := (blk_cell BK102.out 10).trans rfl; have hfz8_0 := blk_frozen BK102.out 0; have hfz8_1 := blk_frozen BK102.out 1; have hfz8_2 := blk_frozen BK102.out 2; have hfz8_3 := blk_frozen BK102.out 3; have hfz8_4 := blk_frozen BK102.out 4; have hfz8_5 := blk_frozen BK102.out 5; have hfz8_6 := blk_frozen BK102.out 6; have hfz8_7 := blk_frozen BK102.out 7; have hfz8_8 := blk_frozen BK102.out 8; have hfz8_9 := blk_frozen BK102.out 9; have hfz8_10 := blk_frozen BK102.out 10) | ((with_reducible refine gate_callee (f := 28) rfl ?_); refine goesL_ (some 18) rfl rfl Tryd.func28 (by kernel_rfl) rfl #[.agg #[.string ((rd_T35 l0 x4_1).f0), .int .i64 ((rd_T35 l0 x4_1).f1), .int .i64 ((rd_T35 l0 x4_1).f2), .int .i64 ((rd_T35 l0 x4_1).f3.f0), .int .i64 ((rd_T35 l0 x4_1).f3.f1), .int .i64 ((rd_T35 l0 x4_1).f3.f2), .int .i64 ((rd_T35 l0 x4_1).f3.f3), .int .i64 ((rd_T35 l0 x4_1).f3.f4), .string ((rd_T35 l0 x4_1).f4), .string ((rd_T35 l0 x4_1).f5), .int .i64 ((rd_T35 l0 x4_1).f6)]] rfl (by (try simp only [List.map_toArray, List.map_cons, List.map_nil]); first | done | rfl | (simp only [List.length_drop, List.length_take]; rfl)) ?_; (with_reducible refine (flist_alone.calls k1 ((rd_T35 l0 x4_1).f0) ((rd_T35 l0 x4_1).f1) ((rd_T35 l0 x4_1).f2) ((rd_T35 l0 x4_1).f3.f0) ((rd_T35 l0 x4_1).f3.f1) ((rd_T35 l0 x4_1).f3.f2) ((rd_T35 l0 x4_1).f3.f3) ((rd_T35 l0 x4_1).f3.f4) ((rd_T35 l0 x4_1).f4) ((rd_T35 l0 x4_1).f5) ((rd_T35 l0 x4_1).f6) t103 _ A4.out).mono ?_); rintro e w9 ⟨rfl, hb⟩; refine ⟨_, rfl, ?_⟩; have n0_ := Aside0.mk (blk_below (g := gb102) (o := .cells #[.string ((rd_T35 l0 x4_1).f0), .int .i64 ((rd_T35 l0 x4_1).f1), .int .i64 ((rd_T35 l0 x4_1).f2), .int .i64 ((rd_T35 l0 x4_1).f3.f0), .int .i64 ((rd_T35 l0 x4_1).f3.f1), .int .i64 ((rd_T35 l0 x4_1).f3.f2), .int .i64 ((rd_T35 l0 x4_1).f3.f3), .int .i64 ((rd_T35 l0 x4_1).f3.f4), .string ((rd_T35 l0 x4_1).f4), .string ((rd_T35 l0 x4_1).f5), .int .i64 ((rd_T35 l0 x4_1).f6)] 35 (0, 0)) (by (with_reducible repeat (first | refine blk_drewN ?_ _ | refine blk_drew ?_ | refine blk_alloc ?_ _)); refine blk_put (cs := #[.string ((rd_T35 l0 x4_1).f0), .int .i64 ((rd_T35 l0 x4_1).f1), .int .i64 ((rd_T35 l0 x4_1).f2), .int .i64 ((rd_T35 l0 x4_1).f3.f0), .int .i64 ((rd_T35 l0 x4_1).f3.f1), .int .i64 ((rd_T35 l0 x4_1).f3.f2), .int .i64 ((rd_T35 l0 x4_1).f3.f3), .int .i64 ((rd_T35 l0 x4_1).f3.f4), .string ((rd_T35 l0 x4_1).f4), .string ((rd_T35 l0 x4_1).f5), .int .i64 0]) ?_ 10 _ rfl; (with_reducible repeat (first | refine blk_drewN ?_ _ | refine blk_drew ?_ | refine blk_alloc ?_ _)); refine blk_put (cs := #[.string ((rd_T35 l0 x4_1).f0), .int .i64 ((rd_T35 l0 x4_1).f1), .int .i64 ((rd_T35 l0 x4_1).f2), .int .i64 ((rd_T35 l0 x4_1).f3.f0), .int .i64 ((rd_T35 l0 x4_1).f3.f1), .int .i64 ((rd_T35 l0 x4_1).f3.f2), .int .i64 ((rd_T35 l0 x4_1).f3.f3), .int .i64 ((rd_T35 l0 x4_1).f3.f4), .string ((rd_T35 l0 x4_1).f4), .string (⟨#[]⟩ : ByteArray), .int .i64 0]) ?_ 9 _ rfl; (with_reducible repeat (first | refine blk_drewN ?_ _ | refine blk_drew ?_ | refine blk_alloc ?_ _)); refine blk_put (cs := #[.string ((rd_T35 l0 x4_1).f0), .int .i64 ((rd_T35 l0 x4_1).f1), .int .i64 ((rd_T35 l0 x4_1).f2), .int .i64 ((rd_T35 l0 x4_1).f3.f0), .int .i64 ((rd_T35 l0 x4_1).f3.f1), .int .i64 ((rd_T35 l0 x4_1).f3.f2), .int .i64 ((rd_T35 l0 x4_1).f3.f3), .int .i64 ((rd_T35 l0 x4_1).f3.f4), .string (⟨#[]⟩ : ByteArray), .string (⟨#[]⟩ : ByteArray), .int .i64 0]) ?_ 8 _ rfl; (with_reducible repeat (first | refine blk_drewN ?_ _ | refine blk_drew ?_ | refine blk_alloc ?_ _)); refine blk_put (cs := #[.string ((rd_T35 l0 x4_1).f0), .int .i64 ((rd_T35 l0 x4_1).f1), .int .i64 ((rd_T35 l0 x4_1).f2), .int .i64 ((rd_T35 l0 x4_1).f3.f0), .int .i64 ((rd_T35 l0 x4_1).f3.f1), .int .i64 ((rd_T35 l0 x4_1).f3.f2), .int .i64 ((rd_T35 l0 x4_1).f3.f3), .int .i64 0, .string (⟨#[]⟩ : ByteArray), .string (⟨#[]⟩ : ByteArray), .int .i64 0]) ?_ 7 _ rfl; (with_reducible repeat (first | refine blk_drewN ?_ _ | refine blk_drew ?_ | refine blk_alloc ?_ _)); refine blk_put (cs := #[.string ((rd_T35 l0 x4_1).f0), .int .i64 ((rd_T35 l0 x4_1).f1), .int .i64 ((rd_T35 l0 x4_1).f2), .int .i64 ((rd_T35 l0 x4_1).f3.f0), .int .i64 ((rd_T35 l0 x4_1).f3.f1), .int .i64 ((rd_T35 l0 x4_1).f3.f2), .int .i64 0, .int .i64 0, .string (⟨#[]⟩ : ByteArray), .string (⟨#[]⟩ : ByteArray), .int .i64 0]) ?_ 6 _ rfl; (with_reducible repeat (first | refine blk_drewN ?_ _ | refine blk_drew ?_ | refine blk_alloc ?_ _)); refine blk_put (cs := #[.string ((rd_T35 l0 x4_1).f0), .int .i64 ((rd_T35 l0 x4_1).f1), .int .i64 ((rd_T35 l0 x4_1).f2), .int .i64 ((rd_T35 l0 x4_1).f3.f0), .int .i64 ((rd_T35 l0 x4_1).f3.f1), .int .i64 0, .int .i64 0, .int .i64 0, .string (⟨#[]⟩ : ByteArray), .string (⟨#[]⟩ : ByteArray), .int .i64 0]) ?_ 5 _ rfl; (with_reducible repeat (first | refine blk_drewN ?_ _ | refine blk_drew ?_ | refine blk_alloc ?_ _)); refine blk_put (cs := #[.string ((rd_T35 l0 x4_1).f0), .int .i64 ((rd_T35 l0 x4_1).f1), .int .i64 ((rd_T35 l0 x4_1).f2), .int .i64 ((rd_T35 l0 x4_1).f3.f0), .int .i64 0, .int .i64 0, .int .i64 0, .int .i64 0, .string (⟨#[]⟩ : ByteArray), .string (⟨#[]⟩ : ByteArray), .int .i64 0]) ?_ 4 _ rfl; (with_reducible repeat (first | refine blk_drewN ?_ _ | refine blk_drew ?_ | refine blk_alloc ?_ _)); refine blk_put (cs := #[.string ((rd_T35 l0 x4_1).f0), .int .i64 ((rd_T35 l0 x4_1).f1), .int .i64 ((rd_T35 l0 x4_1).f2), .int .i64 0, .int .i64 0, .int .i64 0, .int .i64 0, .int .i64 0, .string (⟨#[]⟩ : ByteArray), .string (⟨#[]⟩ : ByteArray), .int .i64 0]) ?_ 3 _ rfl; (with_reducible repeat (first | refine blk_drewN ?_ _ | refine blk_drew ?_ | refine blk_alloc ?_ _)); refine blk_put (cs := #[.string ((rd_T35 l0 x4_1).f0), .int .i64 ((rd_T35 l0 x4_1).f1), .int .i64 0, .int .i64 0, .int .i64 0, .int .i64 0, .int .i64 0, .int .i64 0, .string (⟨#[]⟩ : ByteArray), .string (⟨#[]⟩ : ByteArray), .int .i64 0]) ?_ 2 _ rfl; (with_reducible repeat (first | refine blk_drewN ?_ _ | refine blk_drew ?_ | refine blk_alloc ?_ _)); refine blk_put (cs := #[.string ((rd_T35 l0 x4_1).f0), .int .i64 0, .int .i64 0, .int .i64 0, .int .i64 0, .int .i64 0, .int .i64 0, .int .i64 0, .string (⟨#[]⟩ : ByteArray), .string (⟨#[]⟩ : ByteArray), .int .i64 0]) ?_ 1 _ rfl; (with_reducible repeat (first | refine blk_drewN ?_ _ | refine blk_drew ?_ | refine blk_alloc ?_ _)); refine blk_put (cs := #[.string (⟨#[]⟩ : ByteArray), .int .i64 0, .int .i64 0, .int .i64 0, .int .i64 0, .int .i64 0, .int .i64 0, .int .i64 0, .string (⟨#[]⟩ : ByteArray), .string (⟨#[]⟩ : ByteArray), .int .i64 0]) ?_ 0 _ rfl; (with_reducible repeat (first | refine blk_drewN ?_ _ | refine blk_drew ?_ | refine blk_alloc ?_ _)); exact BK102.out) hb); have n1_ := Aside0.mk (below_step (by repeat (first | (with_reducible first | exact HB.out | apply below_alloc | apply pw_below_drewN | apply below_drew1 | refine below_set ?_ GE102.out) | exact HB.out)) hb); have n9_ := Aside0.mk (MapB.step (w := w) (mb := w.heap.size) (P := l0.take x4_1.toNat) (by (with_reducible repeat (refine MapB.set ?_ NE102.out)); with_reducible exact HM.out) hb); clear HM; have HM := n9_; clear n9_; clear BK102; clear HB; have BK102 := n0_; have HB := n1_; clear n0_ n1_; (try clear hb); (try clear hb2); (try clear hk); (try clear hi)))
      (try simp only [Act.put, List.setIfInBounds_toArray, List.set_cons_zero, List.set_cons_succ])
      go_cut [34] (fun v34 wc => ∃ (kq : Nat) (x37_5 : Bool), v34 = .bool x37_5 ∧ Aside0 (flist_Check_h.j1 kq l0 x3_1 x4_1 x37_5 ((rd_T35 l0 x4_1).f0) ((rd_T35 l0 x4_1).f1) ((rd_T35 l0 x4_1).f2) ((rd_T35 l0 x4_1).f3.f0) ((rd_T35 l0 x4_1).f3.f1) ((rd_T35 l0 x4_1).f3.f2) ((rd_T35 l0 x4_1).f3.f3) ((rd_T35 l0 x4_1).f3.f4) ((rd_T35 l0 x4_1).f4) ((rd_T35 l0 x4_1).f5) ((rd_T35 l0 x4_1).f6) = some r) ∧ Aside0 (kq ≤ k1) ∧ Aside0 (wc.heap[gb102]? = some (.cells #[.string ((rd_T35 l0 x4_1).f0), .int .i64 ((rd_T35 l0 x4_1).f1), .int .i64 ((rd_T35 l0 x4_1).f2), .int .i64 ((rd_T35 l0 x4_1).f3.f0), .int .i64 ((rd_T35 l0 x4_1).f3.f1), .int .i64 ((rd_T35 l0 x4_1).f3.f2), .int .i64 ((rd_T35 l0 x4_1).f3.f3), .int .i64 ((rd_T35 l0 x4_1).f3.f4), .string ((rd_T35 l0 x4_1).f4), .string ((rd_T35 l0 x4_1).f5), .int .i64 ((rd_T35 l0 x4_1).f6)] 35 (0, 0))) ∧ Aside0 (Below w.heap.size w wc) ∧ Aside0 (MapB w wc w.heap.size (l0.take x4_1.toNat)))
      case first =>
       have H := HC6.out
       clear HC6
       by_cases c10 : x4_1 > 0
       ·rw [if_pos c10] at H
        have c10b0 : decide (0 < x4_1) = true := decide_eq_true c10
        clear c10
        (first | rw [c10b0] | (simp only [i64_w, i32_w]; rw [c10b0]) | skip)
        obtain ⟨ji11, hji11⟩ : ∃ j_ : Int, (wrap64 (x4_1 - 1)) = j_ := ⟨_, rfl⟩
        replace H : (if 0 ≤ (ji11) then (if (ji11) < (l0.length : Int) then (flist_Check_h.j1 k1 l0 x3_1 x4_1 (((rd_T35 l0 x4_1).f0).toList == ((rd_T35 l0 (ji11)).f0).toList) ((rd_T35 l0 x4_1).f0) ((rd_T35 l0 x4_1).f1) ((rd_T35 l0 x4_1).f2) ((rd_T35 l0 x4_1).f3.f0) ((rd_T35 l0 x4_1).f3.f1) ((rd_T35 l0 x4_1).f3.f2) ((rd_T35 l0 x4_1).f3.f3) ((rd_T35 l0 x4_1).f3.f4) ((rd_T35 l0 x4_1).f4) ((rd_T35 l0 x4_1).f5) ((rd_T35 l0 x4_1).f6)) else (none)) else (none)) = some r := by first | (rw [hji11] at H; exact H) | (simp only [hji11] at H ⊢; exact H)
        have hji11w : (IntKind.i64.wrap (x4_1 - 1)) = ji11 := (i64_w _).trans hji11
        by_cases c12 : 0 ≤ (ji11)
        ·rw [if_pos c12] at H
         have c12b0 : decide (0 ≤ (ji11)) = true := decide_eq_true c12
         clear c12
         by_cases c13 : (ji11) < (l0.length : Int)
         ·rw [if_pos c13] at H
          have c13b0 : decide ((ji11) < (l0.length : Int)) = true := decide_eq_true c13
          clear c13
          have H' := Aside0.mk H
          clear H
          try go_wp2
          have n0_ := Aside0.mk (blk_drew BK102.out)
          have n1_ := Aside0.mk (below_drew1 HB.out)
          have n9_ := Aside0.mk (MapB.drew HM.out)
          clear BK102
          clear HB
          have BK102 := n0_
          have HB := n1_
          clear HM
          have HM := n9_
          clear n9_
          clear n0_ n1_
          have p104 : 0 ≤ ((ji11) : Int) := of_decide_eq_true (by first | (with_reducible assumption) | assumption)
          have q104 : (ji11) < (l0.length : Int) := of_decide_eq_true (by first | (with_reducible assumption) | assumption)
          obtain ⟨ad104, e104, hx104_0, hx104_1, hx104_2, hx104_3, hx104_4, hx104_5, hx104_6, hx104_7, hx104_8, hx104_9, hx104_10⟩ := at_T35 HR0.out (ji11) p104 q104
          have hw104_10 := hx104_10
          have hw104_9 := hx104_9
          have hw104_8 := hx104_8
          have hw104_7 := hx104_7
          have hw104_6 := hx104_6
          have hw104_5 := hx104_5
          have hw104_4 := hx104_4
          have hw104_3 := hx104_3
          have hw104_2 := hx104_2
          have hw104_1 := hx104_1
          have hw104_0 := hx104_0
          obtain rfl : ad101 = ad104 := (by injection e104)
          replace hx104_0 := (HB.out.cell (World.block_lt_of_cell? w _ hx104_0)).trans hx104_0
          replace hx104_1 := (HB.out.cell (World.block_lt_of_cell? w _ hx104_1)).trans hx104_1
          replace hx104_2 := (HB.out.cell (World.block_lt_of_cell? w _ hx104_2)).trans hx104_2
          replace hx104_3 := (HB.out.cell (World.block_lt_of_cell? w _ hx104_3)).trans hx104_3
          replace hx104_4 := (HB.out.cell (World.block_lt_of_cell? w _ hx104_4)).trans hx104_4
          replace hx104_5 := (HB.out.cell (World.block_lt_of_cell? w _ hx104_5)).trans hx104_5
          replace hx104_6 := (HB.out.cell (World.block_lt_of_cell? w _ hx104_6)).trans hx104_6
          replace hx104_7 := (HB.out.cell (World.block_lt_of_cell? w _ hx104_7)).trans hx104_7
          replace hx104_8 := (HB.out.cell (World.block_lt_of_cell? w _ hx104_8)).trans hx104_8
          replace hx104_9 := (HB.out.cell (World.block_lt_of_cell? w _ hx104_9)).trans hx104_9
          replace hx104_10 := (HB.out.cell (World.block_lt_of_cell? w _ hx104_10)).trans hx104_10
          replace p104 := eq_true p104
          replace q104 := eq_true q104
          refine start_ (n := 13) (S := fun w' => w'.cell? ⟨gb102, 0, none⟩ = some (.string ((rd_T35 l0 x4_1).f0)) ∧ w'.cell? ⟨gb102, 1, none⟩ = some (.int .i64 ((rd_T35 l0 x4_1).f1)) ∧ w'.cell? ⟨gb102, 2, none⟩ = some (.int .i64 ((rd_T35 l0 x4_1).f2)) ∧ w'.cell? ⟨gb102, 3, none⟩ = some (.int .i64 ((rd_T35 l0 x4_1).f3.f0)) ∧ w'.cell? ⟨gb102, 4, none⟩ = some (.int .i64 ((rd_T35 l0 x4_1).f3.f1)) ∧ w'.cell? ⟨gb102, 5, none⟩ = some (.int .i64 ((rd_T35 l0 x4_1).f3.f2)) ∧ w'.cell? ⟨gb102, 6, none⟩ = some (.int .i64 ((rd_T35 l0 x4_1).f3.f3)) ∧ w'.cell? ⟨gb102, 7, none⟩ = some (.int .i64 ((rd_T35 l0 x4_1).f3.f4)) ∧ w'.cell? ⟨gb102, 8, none⟩ = some (.string ((rd_T35 l0 x4_1).f4)) ∧ w'.cell? ⟨gb102, 9, none⟩ = some (.string ((rd_T35 l0 x4_1).f5)) ∧ w'.cell? ⟨gb102, 10, none⟩ = some (.int .i64 ((rd_T35 l0 x4_1).f6)) ∧ w'.cell? (ad101.add (((ji11)).toNat * 11)) = some (.string ((rd_T35 l0 (ji11)).f0)) ∧ w'.cell? ⟨(ad101.add (((ji11)).toNat * 11)).block, (ad101.add (((ji11)).toNat * 11)).off + 1, none⟩ = some (.int .i64 ((rd_T35 l0 (ji11)).f1)) ∧ w'.cell? ⟨(ad101.add (((ji11)).toNat * 11)).block, (ad101.add (((ji11)).toNat * 11)).off + 2, none⟩ = some (.int .i64 ((rd_T35 l0 (ji11)).f2)) ∧ w'.cell? ⟨(ad101.add (((ji11)).toNat * 11)).block, (ad101.add (((ji11)).toNat * 11)).off + 3, none⟩ = some (.int .i64 ((rd_T35 l0 (ji11)).f3.f0)) ∧ w'.cell? ⟨(ad101.add (((ji11)).toNat * 11)).block, (ad101.add (((ji11)).toNat * 11)).off + 4, none⟩ = some (.int .i64 ((rd_T35 l0 (ji11)).f3.f1)) ∧ w'.cell? ⟨(ad101.add (((ji11)).toNat * 11)).block, (ad101.add (((ji11)).toNat * 11)).off + 5, none⟩ = some (.int .i64 ((rd_T35 l0 (ji11)).f3.f2)) ∧ w'.cell? ⟨(ad101.add (((ji11)).toNat * 11)).block, (ad101.add (((ji11)).toNat * 11)).off + 6, none⟩ = some (.int .i64 ((rd_T35 l0 (ji11)).f3.f3)) ∧ w'.cell? ⟨(ad101.add (((ji11)).toNat * 11)).block, (ad101.add (((ji11)).toNat * 11)).off + 7, none⟩ = some (.int .i64 ((rd_T35 l0 (ji11)).f3.f4)) ∧ w'.cell? ⟨(ad101.add (((ji11)).toNat * 11)).block, (ad101.add (((ji11)).toNat * 11)).off + 8, none⟩ = some (.string ((rd_T35 l0 (ji11)).f4)) ∧ w'.cell? ⟨(ad101.add (((ji11)).toNat * 11)).block, (ad101.add (((ji11)).toNat * 11)).off + 9, none⟩ = some (.string ((rd_T35 l0 (ji11)).f5)) ∧ w'.cell? ⟨(ad101.add (((ji11)).toNat * 11)).block, (ad101.add (((ji11)).toNat * 11)).off + 10, none⟩ = some (.int .i64 ((rd_T35 l0 (ji11)).f6))) (ds := []) #[Z_,Z_,Z_,Z_,Z_,Z_,Z_,Z_,Z_,Z_,Z_,Z_,Z_] (by kernel_rfl) rfl rfl ⟨(blk_cell BK102.out 0).trans rfl, (blk_cell BK102.out 1).trans rfl, (blk_cell BK102.out 2).trans rfl, (blk_cell BK102.out 3).trans rfl, (blk_cell BK102.out 4).trans rfl, (blk_cell BK102.out 5).trans rfl, (blk_cell BK102.out 6).trans rfl, (blk_cell BK102.out 7).trans rfl, (blk_cell BK102.out 8).trans rfl, (blk_cell BK102.out 9).trans rfl, (blk_cell BK102.out 10).trans rfl, ((HB.out.cell (World.block_lt_of_cell? w _ hw104_0)).trans hw104_0), ((HB.out.cell (World.block_lt_of_cell? w _ hw104_1)).trans hw104_1), ((HB.out.cell (World.block_lt_of_cell? w _ hw104_2)).trans hw104_2), ((HB.out.cell (World.block_lt_of_cell? w _ hw104_3)).trans hw104_3), ((HB.out.cell (World.block_lt_of_cell? w _ hw104_4)).trans hw104_4), ((HB.out.cell (World.block_lt_of_cell? w _ hw104_5)).trans hw104_5), ((HB.out.cell (World.block_lt_of_cell? w _ hw104_6)).trans hw104_6), ((HB.out.cell (World.block_lt_of_cell? w _ hw104_7)).trans hw104_7), ((HB.out.cell (World.block_lt_of_cell? w _ hw104_8)).trans hw104_8), ((HB.out.cell (World.block_lt_of_cell? w _ hw104_9)).trans hw104_9), ((HB.out.cell (World.block_lt_of_cell? w _ hw104_10)).trans hw104_10)⟩ (fun hHeld => ?_); refine with_tabW flist_Check_h.tab9 flist_Check_h.bits9 (fun HT_ HW_ => ?_)
          generalize w9.drew = w14 at BK102 HB HM hx104_0 hx104_1 hx104_10 hx104_2 hx104_3 hx104_4 hx104_5 hx104_6 hx104_7 hx104_8 hx104_9 hHeld ⊢
          refine pure_ (i := 0) (N := some 22) (v := ?_) (a' := ?_) #[Y_,Z_,Z_,Z_,Z_,Z_,Z_,Z_,Z_,Z_,Z_,Z_,Z_] rfl rfl (any_of HT_.out (by kernel_rfl)) (fun _ _ _ h => h) (Or.inl ⟨by rfl, ?_⟩) ?_ ?_
          rotate_left
          ·intro w';go_simp;with_reducible rfl
          rotate_left
          ·simp only [Act.put, nS, i64_w, i32_w];rfl
          refine pure_ (i := 1) (N := some 23) (v := ?_) (a' := ?_) #[Y_,Y_,Z_,Z_,Z_,Z_,Z_,Z_,Z_,Z_,Z_,Z_,Z_] rfl rfl (any_of HT_.out (by kernel_rfl)) (fun _ _ _ h => h) (Or.inl ⟨by rfl, ?_⟩) ?_ ?_
          rotate_left
          ·intro w';go_simp;with_reducible rfl
          rotate_left
          ·simp only [Act.put, nS, i64_w, i32_w];rfl
          refine pure_ (i := 2) (N := some 24) (v := ?_) (a' := ?_) #[Y_,Y_,Y_,Z_,Z_,Z_,Z_,Z_,Z_,Z_,Z_,Z_,Z_] rfl rfl (any_of HT_.out (by kernel_rfl)) (fun _ _ _ h => h) (Or.inl ⟨by rfl, ?_⟩) ?_ ?_
          rotate_left
          ·intro w';go_simp;with_reducible rfl
          rotate_left
          ·simp only [Act.put, nS, i64_w, i32_w];rfl
          refine pure_ (i := 3) (N := some 25) (v := ?_) (a' := ?_) #[Y_,Y_,Y_,Y_,Z_,Z_,Z_,Z_,Z_,Z_,Z_,Z_,Z_] rfl rfl (any_of HT_.out (by kernel_rfl)) (fun _ _ _ h => h) (Or.inl ⟨by rfl, ?_⟩) ?_ ?_
          rotate_left
          ·intro w';go_simp;with_reducible rfl
          rotate_left
          ·simp only [Act.put, nS, i64_w, i32_w];rfl
          refine pure_ (i := 5) (N := some 27) (v := ?_) (a' := ?_) #[Y_,Y_,Y_,Y_,Z_,Y_,Z_,Z_,Z_,Z_,Z_,Z_,Z_] rfl rfl (any_of HT_.out (by kernel_rfl)) (fun _ _ _ h => h) (Or.inl ⟨by rfl, ?_⟩) ?_ ?_
          rotate_left
          ·intro w';go_simp;with_reducible rfl
          rotate_left
          ·simp only [Act.put, nS, i64_w, i32_w];rfl
          refine pure_ (i := 6) (N := some 28) (v := ?_) (a' := ?_) #[Y_,Y_,Y_,Y_,Z_,Y_,Y_,Z_,Z_,Z_,Z_,Z_,Z_] rfl rfl (any_of HT_.out (by kernel_rfl)) (fun _ _ _ h => h) (Or.inl ⟨by rfl, ?_⟩) ?_ ?_
          rotate_left
          ·intro w';go_simp;with_reducible rfl
          rotate_left
          ·simp only [Act.put, nS, i64_w, i32_w];rfl
          refine pure_ (i := 7) (N := some 29) (v := ?_) (a' := ?_) #[Y_,Y_,Y_,Y_,Z_,Y_,Y_,Y_,Z_,Z_,Z_,Z_,Z_] rfl rfl (any_of HT_.out (by kernel_rfl)) (fun _ _ _ h => h) (Or.inl ⟨by rfl, ?_⟩) ?_ ?_
          rotate_left
          ·intro w';go_simp;with_reducible rfl
          rotate_left
          ·simp only [Act.put, nS, i64_w, i32_w];rfl
          refine pure_ (i := 8) (N := some 30) (v := ?_) (a' := ?_) #[Y_,Y_,Y_,Y_,Z_,Y_,Y_,Y_,Y_,Z_,Z_,Z_,Z_] rfl rfl (any_of HT_.out (by kernel_rfl)) (fun _ _ _ h => h) (Or.inl ⟨by rfl, ?_⟩) ?_ ?_
          rotate_left
          ·intro w';go_simp;with_reducible rfl
          rotate_left
          ·simp only [Act.put, nS, i64_w, i32_w];rfl
          refine pure_ (i := 9) (N := some 31) (v := ?_) (a' := ?_) #[Y_,Y_,Y_,Y_,Z_,Y_,Y_,Y_,Y_,Y_,Z_,Z_,Z_] rfl rfl (any_of HT_.out (by kernel_rfl)) (fun _ _ _ h => h) (Or.inl ⟨by rfl, ?_⟩) ?_ ?_
          rotate_left
          ·intro w';go_simp;with_reducible rfl
          rotate_left
          ·simp only [Act.put, nS, i64_w, i32_w];rfl
          refine take_ (i := 4) (N := some 26) (v := ?_) (a' := ?_) #[Y_,Y_,Y_,Y_,Y_,Y_,Y_,Y_,Y_,Y_,Z_,Z_,Z_] rfl rfl (take_ofW HT_.out HW_.out (by kernel_rfl)) (fun _ _ _ h => h) (Or.inl ⟨by rfl, ?_⟩) hHeld ?_ ?_
          rotate_left
          ·rintro w' ⟨s0, s1, s2, s3, s4, s5, s6, s7, s8, s9, s10, s11, s12, s13, s14, s15, s16, s17, s18, s19, s20, s21⟩
           go_simp
           with_reducible rfl
          rotate_left
          ·simp only [Act.put, nS, i64_w, i32_w];rfl
          refine take_ (i := 10) (N := some 32) (v := ?_) (a' := ?_) #[Y_,Y_,Y_,Y_,Y_,Y_,Y_,Y_,Y_,Y_,Y_,Z_,Z_] rfl rfl (take_ofW HT_.out HW_.out (by kernel_rfl)) (fun _ _ _ h => h) (Or.inl ⟨by rfl, ?_⟩) hHeld ?_ ?_
          rotate_left
          ·rintro w' ⟨s0, s1, s2, s3, s4, s5, s6, s7, s8, s9, s10, s11, s12, s13, s14, s15, s16, s17, s18, s19, s20, s21⟩
           go_simp
           with_reducible rfl
          rotate_left
          ·simp only [Act.put, nS, i64_w, i32_w];rfl
          refine pure_ (i := 11) (N := some 33) (v := ?_) (a' := ?_) #[Y_,Y_,Y_,Y_,Y_,Y_,Y_,Y_,Y_,Y_,Y_,Y_,Z_] rfl rfl (any_of HT_.out (by kernel_rfl)) (fun _ _ _ h => h) (Or.inl ⟨by rfl, ?_⟩) ?_ ?_
          rotate_left
          ·intro w';go_simp;with_reducible rfl
          rotate_left
          ·simp only [Act.put, nS, i64_w, i32_w];rfl
          refine pure_ (i := 12) (N := some 34) (v := ?_) (a' := ?_) #[Y_,Y_,Y_,Y_,Y_,Y_,Y_,Y_,Y_,Y_,Y_,Y_,Y_] rfl rfl (any_of HT_.out (by kernel_rfl)) (fun _ _ _ h => h) (Or.inl ⟨by rfl, ?_⟩) ?_ ?_
          rotate_left
          ·intro w';go_simp;with_reducible rfl
          rotate_left
          ·simp only [Act.put, nS, i64_w, i32_w];rfl
          refine done_ (done_of HT_.out (by kernel_rfl)) ?_
          try go_wp2
          go_meet
          case rel => exact ⟨_, ((((rd_T35 l0 x4_1).f0).toList == ((rd_T35 l0 (ji11)).f0).toList)), (by first | rfl | (simp; done) | (simp only [← hji11] <;> (first | rfl | simp)) | (simp [*]; done)), H', ⟨by have := HK1.out; first | omega | exact Nat.le_refl _⟩, ⟨upK BK102.out⟩, ⟨by repeat (first | (with_reducible first | exact HB.out | apply below_alloc | apply pw_below_drewN | apply below_drew1 | refine below_set ?_ GE102.out) | exact HB.out)⟩, ⟨by first | exact HM.out | exact MapB.heap HM.out rfl⟩⟩
         rw [if_neg c13] at H
         exact absurd H (by simp)
        rw [if_neg c12] at H
        exact absurd H (by simp)
       rw [if_neg c10] at H
       have c10b0 : decide (0 < x4_1) = false := decide_eq_false c10
       clear c10
       (first | rw [c10b0] | (simp only [i64_w, i32_w]; rw [c10b0]) | skip)
       have H' := Aside0.mk H
       clear H
       try go_wp2
       have n0_ := Aside0.mk (blk_drew BK102.out)
       have n1_ := Aside0.mk (below_drew1 HB.out)
       have n9_ := Aside0.mk (MapB.drew HM.out)
       clear BK102
       clear HB
       have BK102 := n0_
       have HB := n1_
       clear HM
       have HM := n9_
       clear n9_
       clear n0_ n1_
       refine start_ (n := 13) (S := fun w' => True) (ds := []) #[Z_,Z_,Z_,Z_,Z_,Z_,Z_,Z_,Z_,Z_,Z_,Z_,Z_] (by kernel_rfl) rfl rfl trivial (fun hHeld => ?_); refine with_tabW flist_Check_h.tab9 flist_Check_h.bits9 (fun HT_ HW_ => ?_)
       generalize w9.drew = w15 at BK102 HB HM hHeld ⊢
       refine pure_ (i := 0) (N := some 22) (v := ?_) (a' := ?_) #[Y_,Z_,Z_,Z_,Z_,Z_,Z_,Z_,Z_,Z_,Z_,Z_,Z_] rfl rfl (any_of HT_.out (by kernel_rfl)) (fun _ _ _ h => h) (Or.inl ⟨by rfl, ?_⟩) ?_ ?_
       rotate_left
       ·intro w';go_simp;with_reducible rfl
       rotate_left
       ·simp only [Act.put, nS, i64_w, i32_w];rfl
       refine pure_ (i := 1) (N := some 23) (v := ?_) (a' := ?_) #[Y_,Y_,Z_,Z_,Z_,Z_,Z_,Z_,Z_,Z_,Z_,Z_,Z_] rfl rfl (any_of HT_.out (by kernel_rfl)) (fun _ _ _ h => h) (Or.inl ⟨by rfl, ?_⟩) ?_ ?_
       rotate_left
       ·intro w';go_simp;with_reducible rfl
       rotate_left
       ·simp only [Act.put, nS, i64_w, i32_w];rfl
       refine pure_ (i := 2) (N := some 24) (v := ?_) (a' := ?_) #[Y_,Y_,Y_,Z_,Z_,Z_,Z_,Z_,Z_,Z_,Z_,Z_,Z_] rfl rfl (any_of HT_.out (by kernel_rfl)) (fun _ _ _ h => h) (Or.inl ⟨by rfl, ?_⟩) ?_ ?_
       rotate_left
       ·intro w';go_simp;with_reducible rfl
       rotate_left
       ·simp only [Act.put, nS, i64_w, i32_w];rfl
       refine pure_ (i := 3) (N := some 25) (v := undef) (a' := ?_) #[Y_,Y_,Y_,Y_,Z_,Z_,Z_,Z_,Z_,Z_,Z_,Z_,Z_] rfl rfl (any_of HT_.out (by kernel_rfl)) (fun _ _ _ h => h) (Or.inr ⟨by rfl, rfl⟩) ?_ ?_
       rotate_left
       ·simp only [Act.put, nS, i64_w, i32_w];rfl
       refine pure_ (i := 4) (N := some 26) (v := undef) (a' := ?_) #[Y_,Y_,Y_,Y_,Y_,Z_,Z_,Z_,Z_,Z_,Z_,Z_,Z_] rfl rfl (any_of HT_.out (by kernel_rfl)) (fun _ _ _ h => h) (Or.inr ⟨by rfl, rfl⟩) ?_ ?_
       rotate_left
       ·simp only [Act.put, nS, i64_w, i32_w];rfl
       refine pure_ (i := 5) (N := some 27) (v := undef) (a' := ?_) #[Y_,Y_,Y_,Y_,Y_,Y_,Z_,Z_,Z_,Z_,Z_,Z_,Z_] rfl rfl (any_of HT_.out (by kernel_rfl)) (fun _ _ _ h => h) (Or.inr ⟨by rfl, rfl⟩) ?_ ?_
       rotate_left
       ·simp only [Act.put, nS, i64_w, i32_w];rfl
       refine pure_ (i := 6) (N := some 28) (v := undef) (a' := ?_) #[Y_,Y_,Y_,Y_,Y_,Y_,Y_,Z_,Z_,Z_,Z_,Z_,Z_] rfl rfl (any_of HT_.out (by kernel_rfl)) (fun _ _ _ h => h) (Or.inr ⟨by rfl, rfl⟩) ?_ ?_
       rotate_left
       ·simp only [Act.put, nS, i64_w, i32_w];rfl
       refine pure_ (i := 7) (N := some 29) (v := undef) (a' := ?_) #[Y_,Y_,Y_,Y_,Y_,Y_,Y_,Y_,Z_,Z_,Z_,Z_,Z_] rfl rfl (any_of HT_.out (by kernel_rfl)) (fun _ _ _ h => h) (Or.inr ⟨by rfl, rfl⟩) ?_ ?_
       rotate_left
       ·simp only [Act.put, nS, i64_w, i32_w];rfl
       refine pure_ (i := 8) (N := some 30) (v := undef) (a' := ?_) #[Y_,Y_,Y_,Y_,Y_,Y_,Y_,Y_,Y_,Z_,Z_,Z_,Z_] rfl rfl (any_of HT_.out (by kernel_rfl)) (fun _ _ _ h => h) (Or.inr ⟨by rfl, rfl⟩) ?_ ?_
       rotate_left
       ·simp only [Act.put, nS, i64_w, i32_w];rfl
       refine pure_ (i := 9) (N := some 31) (v := undef) (a' := ?_) #[Y_,Y_,Y_,Y_,Y_,Y_,Y_,Y_,Y_,Y_,Z_,Z_,Z_] rfl rfl (any_of HT_.out (by kernel_rfl)) (fun _ _ _ h => h) (Or.inr ⟨by rfl, rfl⟩) ?_ ?_
       rotate_left
       ·simp only [Act.put, nS, i64_w, i32_w];rfl
       refine pure_ (i := 10) (N := some 32) (v := undef) (a' := ?_) #[Y_,Y_,Y_,Y_,Y_,Y_,Y_,Y_,Y_,Y_,Y_,Z_,Z_] rfl rfl (any_of HT_.out (by kernel_rfl)) (fun _ _ _ h => h) (Or.inr ⟨by rfl, rfl⟩) ?_ ?_
       rotate_left
       ·simp only [Act.put, nS, i64_w, i32_w];rfl
       refine pure_ (i := 11) (N := some 33) (v := undef) (a' := ?_) #[Y_,Y_,Y_,Y_,Y_,Y_,Y_,Y_,Y_,Y_,Y_,Y_,Z_] rfl rfl (any_of HT_.out (by kernel_rfl)) (fun _ _ _ h => h) (Or.inr ⟨by rfl, rfl⟩) ?_ ?_
       rotate_left
       ·simp only [Act.put, nS, i64_w, i32_w];rfl
       refine pure_ (i := 12) (N := some 34) (v := ?_) (a' := ?_) #[Y_,Y_,Y_,Y_,Y_,Y_,Y_,Y_,Y_,Y_,Y_,Y_,Y_] rfl rfl (any_of HT_.out (by kernel_rfl)) (fun _ _ _ h => h) (Or.inl ⟨by rfl, ?_⟩) ?_ ?_
       rotate_left
       ·intro w';go_simp;with_reducible rfl
       rotate_left
       ·simp only [Act.put, nS, i64_w, i32_w];rfl
       refine done_ (done_of HT_.out (by kernel_rfl)) ?_
       try go_wp2
       go_meet
       case rel => exact ⟨_, (false), (by first | rfl | (simp; done) | (simp [*]; done)), H', ⟨by have := HK1.out; first | omega | exact Nat.le_refl _⟩, ⟨upK BK102.out⟩, ⟨by repeat (first | (with_reducible first | exact HB.out | apply below_alloc | apply pw_below_drewN | apply below_drew1 | refine below_set ?_ GE102.out) | exact HB.out)⟩, ⟨by first | exact HM.out | exact MapB.heap HM.out rfl⟩⟩
      case rest =>
       clear HC6
       try clear c1
       try clear p1
       try clear q1
       try clear hx1
       try clear c2
       try clear c2b0
       try clear p2
       try clear c3
       try clear c3b0
       try clear c5
       try clear c5b0
       try clear c5b1
       try clear p6
       try clear c10
       try clear c10b0
       try clear p10
       try clear q10
       try clear hx10
       try clear c12
       try clear c12b0
       try clear c13
       try clear c13b0
       try clear hcz8_0
       try clear hcz8_1
       try clear hcz8_10
       try clear hcz8_2
       try clear hcz8_3
       try clear hcz8_4
       try clear hcz8_5
       try clear hcz8_6
       try clear hcz8_7
       try clear hcz8_8
       try clear hcz8_9
       try clear hfz8_0
       try clear hfz8_1
       try clear hfz8_10
       try clear hfz8_2
       try clear hfz8_3
       try clear hfz8_4
       try clear hfz8_5
       try clear hfz8_6
       try clear hfz8_7
       try clear hfz8_8
       try clear hfz8_9
       try clear hx101_0
       try clear hx101_1
       try clear hx101_10
       try clear hx101_2
       try clear hx101_3
       try clear hx101_4
       try clear hx101_5
       try clear hx101_6
       try clear hx101_7
       try clear hx101_8
       try clear hx101_9
       try clear hx104_0
       try clear hx104_1
       try clear hx104_10
       try clear hx104_2
       try clear hx104_3
       try clear hx104_4
       try clear hx104_5
       try clear hx104_6
       try clear hx104_7
       try clear hx104_8
       try clear hx104_9
       try clear p101
       try clear p104
       try clear q101
       try clear q104
       obtain ⟨kq, x37_5, rfl, HA, HJ5, BK102, HB, HM⟩ := hcut
       cases kq with
       | zero => exact absurd HA.out (by simp [flist_Check_h.j1])
       | succ kj5 =>
        have H := HA.out
        clear HA
        simp only [flist_Check_h.j1] at H
        by_cases c16 : x37_5 = true
        ·subst c16
         have H1 : (some 11) = some r := by rw [if_pos rfl] at H; exact H
         clear H
         have H := H1
         clear H1
         obtain rfl := Option.some.inj H
         go_wp2
         go_ret
         exact ⟨by first | rfl | (simp [errW_none, errW_some] <;> rfl) | (simp [*, errW_none, errW_some] <;> rfl), by repeat (first | (with_reducible first | exact HB.out | apply below_alloc | apply pw_below_drewN | apply below_drew1 | refine below_set ?_ GE102.out) | exact HB.out)⟩
        replace c16 := Bool.eq_false_iff.mpr c16
        subst c16
        have H1 : (if x4_1 > 0 then (if 0 ≤ (wrap64 (x4_1 - 1)) then (if (wrap64 (x4_1 - 1)) < (l0.length : Int) then ((path_Less.f kj5 ((rd_T35 l0 x4_1).f0) ((rd_T35 l0 (wrap64 (x4_1 - 1))).f0)).bind fun t106 => (flist_Check_h.j2 kj5 l0 x3_1 x4_1 t106 ((rd_T35 l0 x4_1).f0) ((rd_T35 l0 x4_1).f1) ((rd_T35 l0 x4_1).f2) ((rd_T35 l0 x4_1).f3.f0) ((rd_T35 l0 x4_1).f3.f1) ((rd_T35 l0 x4_1).f3.f2) ((rd_T35 l0 x4_1).f3.f3) ((rd_T35 l0 x4_1).f3.f4) ((rd_T35 l0 x4_1).f4) ((rd_T35 l0 x4_1).f5) ((rd_T35 l0 x4_1).f6))) else (none)) else (none)) else (flist_Check_h.j2 kj5 l0 x3_1 x4_1 false ((rd_T35 l0 x4_1).f0) ((rd_T35 l0 x4_1).f1) ((rd_T35 l0 x4_1).f2) ((rd_T35 l0 x4_1).f3.f0) ((rd_T35 l0 x4_1).f3.f1) ((rd_T35 l0 x4_1).f3.f2) ((rd_T35 l0 x4_1).f3.f3) ((rd_T35 l0 x4_1).f3.f4) ((rd_T35 l0 x4_1).f4) ((rd_T35 l0 x4_1).f5) ((rd_T35 l0 x4_1).f6))) = some r := by rw [if_neg (show ¬ (false = true) by decide)] at H; exact H
        clear H
        have H := H1
        clear H1
        have HC17 := Aside0.mk H
        clear H
        go_upto_region 11 with (fail)
        go_cut [47] (fun v47 wc => ∃ (kq : Nat) (x50_16 : Bool), v47 = .bool x50_16 ∧ Aside0 (flist_Check_h.j2 kq l0 x3_1 x4_1 x50_16 ((rd_T35 l0 x4_1).f0) ((rd_T35 l0 x4_1).f1) ((rd_T35 l0 x4_1).f2) ((rd_T35 l0 x4_1).f3.f0) ((rd_T35 l0 x4_1).f3.f1) ((rd_T35 l0 x4_1).f3.f2) ((rd_T35 l0 x4_1).f3.f3) ((rd_T35 l0 x4_1).f3.f4) ((rd_T35 l0 x4_1).f4) ((rd_T35 l0 x4_1).f5) ((rd_T35 l0 x4_1).f6) = some r) ∧ Aside0 (kq ≤ kj5) ∧ Aside0 (wc.heap[gb102]? = some (.cells #[.string ((rd_T35 l0 x4_1).f0), .int .i64 ((rd_T35 l0 x4_1).f1), .int .i64 ((rd_T35 l0 x4_1).f2), .int .i64 ((rd_T35 l0 x4_1).f3.f0), .int .i64 ((rd_T35 l0 x4_1).f3.f1), .int .i64 ((rd_T35 l0 x4_1).f3.f2), .int .i64 ((rd_T35 l0 x4_1).f3.f3), .int .i64 ((rd_T35 l0 x4_1).f3.f4), .string ((rd_T35 l0 x4_1).f4), .string ((rd_T35 l0 x4_1).f5), .int .i64 ((rd_T35 l0 x4_1).f6)] 35 (0, 0))) ∧ Aside0 (Below w.heap.size w wc) ∧ Aside0 (MapB w wc w.heap.size (l0.take x4_1.toNat)))
        case first =>
         have H := HC17.out
         clear HC17
         by_cases c18 : x4_1 > 0
         ·rw [if_pos c18] at H
          have c18b0 : decide (0 < x4_1) = true := decide_eq_true c18
          clear c18
          (first | rw [c18b0] | (simp only [i64_w, i32_w]; rw [c18b0]) | skip)
          obtain ⟨ji19, hji19⟩ : ∃ j_ : Int, (wrap64 (x4_1 - 1)) = j_ := ⟨_, rfl⟩
          replace H : (if 0 ≤ (ji19) then (if (ji19) < (l0.length : Int) then ((path_Less.f kj5 ((rd_T35 l0 x4_1).f0) ((rd_T35 l0 (ji19)).f0)).bind fun t106 => (flist_Check_h.j2 kj5 l0 x3_1 x4_1 t106 ((rd_T35 l0 x4_1).f0) ((rd_T35 l0 x4_1).f1) ((rd_T35 l0 x4_1).f2) ((rd_T35 l0 x4_1).f3.f0) ((rd_T35 l0 x4_1).f3.f1) ((rd_T35 l0 x4_1).f3.f2) ((rd_T35 l0 x4_1).f3.f3) ((rd_T35 l0 x4_1).f3.f4) ((rd_T35 l0 x4_1).f4) ((rd_T35 l0 x4_1).f5) ((rd_T35 l0 x4_1).f6))) else (none)) else (none)) = some r := by first | (rw [hji19] at H; exact H) | (simp only [hji19] at H ⊢; exact H)
          have hji19w : (IntKind.i64.wrap (x4_1 - 1)) = ji19 := (i64_w _).trans hji19
          by_cases c20 : 0 ≤ (ji19)
          ·rw [if_pos c20] at H
           have c20b0 : decide (0 ≤ (ji19)) = true := decide_eq_true c20
           clear c20
           by_cases c21 : (ji19) < (l0.length : Int)
           ·rw [if_pos c21] at H
            have c21b0 : decide ((ji19) < (l0.length : Int)) = true := decide_eq_true c21
            clear c21
            replace H := Option.bind_eq_some_iff.mp H
            obtain ⟨t106, A220, H⟩ := H
            replace H : (flist_Check_h.j2 kj5 l0 x3_1 x4_1 t106 ((rd_T35 l0 x4_1).f0) ((rd_T35 l0 x4_1).f1) ((rd_T35 l0 x4_1).f2) ((rd_T35 l0 x4_1).f3.f0) ((rd_T35 l0 x4_1).f3.f1) ((rd_T35 l0 x4_1).f3.f2) ((rd_T35 l0 x4_1).f3.f3) ((rd_T35 l0 x4_1).f3.f4) ((rd_T35 l0 x4_1).f4) ((rd_T35 l0 x4_1).f5) ((rd_T35 l0 x4_1).f6)) = some r := H
            have A22 := Aside0.mk A220
            clear A220
            have H' := Aside0.mk H
            clear H
            try go_wp2
            have n0_ := Aside0.mk (blk_drew BK102.out)
            have n1_ := Aside0.mk (below_drew1 HB.out)
            have n9_ := Aside0.mk (MapB.drew HM.out)
            clear BK102
            clear HB
            have BK102 := n0_
            have HB := n1_
            clear HM
            have HM := n9_
            clear n9_
            clear n0_ n1_
            have p105 : 0 ≤ ((ji19) : Int) := of_decide_eq_true (by first | (with_reducible assumption) | assumption)
            have q105 : (ji19) < (l0.length : Int) := of_decide_eq_true (by first | (with_reducible assumption) | assumption)
            obtain ⟨ad105, e105, hx105_0, hx105_1, hx105_2, hx105_3, hx105_4, hx105_5, hx105_6, hx105_7, hx105_8, hx105_9, hx105_10⟩ := at_T35 HR0.out (ji19) p105 q105
            have hw105_10 := hx105_10
            have hw105_9 := hx105_9
            have hw105_8 := hx105_8
            have hw105_7 := hx105_7
            have hw105_6 := hx105_6
            have hw105_5 := hx105_5
            have hw105_4 := hx105_4
            have hw105_3 := hx105_3
            have hw105_2 := hx105_2
            have hw105_1 := hx105_1
            have hw105_0 := hx105_0
            obtain rfl : ad101 = ad105 := (by injection e105)
            replace hx105_0 := (HB.out.cell (World.block_lt_of_cell? w _ hx105_0)).trans hx105_0
            replace hx105_1 := (HB.out.cell (World.block_lt_of_cell? w _ hx105_1)).trans hx105_1
            replace hx105_2 := (HB.out.cell (World.block_lt_of_cell? w _ hx105_2)).trans hx105_2
            replace hx105_3 := (HB.out.cell (World.block_lt_of_cell? w _ hx105_3)).trans hx105_3
            replace hx105_4 := (HB.out.cell (World.block_lt_of_cell? w _ hx105_4)).trans hx105_4
            replace hx105_5 := (HB.out.cell (World.block_lt_of_cell? w _ hx105_5)).trans hx105_5
            replace hx105_6 := (HB.out.cell (World.block_lt_of_cell? w _ hx105_6)).trans hx105_6
            replace hx105_7 := (HB.out.cell (World.block_lt_of_cell? w _ hx105_7)).trans hx105_7
            replace hx105_8 := (HB.out.cell (World.block_lt_of_cell? w _ hx105_8)).trans hx105_8
            replace hx105_9 := (HB.out.cell (World.block_lt_of_cell? w _ hx105_9)).trans hx105_9
            replace hx105_10 := (HB.out.cell (World.block_lt_of_cell? w _ hx105_10)).trans hx105_10
            replace p105 := eq_true p105
            replace q105 := eq_true q105
            refine start_ (n := 13) (S := fun w' => w'.cell? ⟨gb102, 0, none⟩ = some (.string ((rd_T35 l0 x4_1).f0)) ∧ w'.cell? ⟨gb102, 1, none⟩ = some (.int .i64 ((rd_T35 l0 x4_1).f1)) ∧ w'.cell? ⟨gb102, 2, none⟩ = some (.int .i64 ((rd_T35 l0 x4_1).f2)) ∧ w'.cell? ⟨gb102, 3, none⟩ = some (.int .i64 ((rd_T35 l0 x4_1).f3.f0)) ∧ w'.cell? ⟨gb102, 4, none⟩ = some (.int .i64 ((rd_T35 l0 x4_1).f3.f1)) ∧ w'.cell? ⟨gb102, 5, none⟩ = some (.int .i64 ((rd_T35 l0 x4_1).f3.f2)) ∧ w'.cell? ⟨gb102, 6, none⟩ = some (.int .i64 ((rd_T35 l0 x4_1).f3.f3)) ∧ w'.cell? ⟨gb102, 7, none⟩ = some (.int .i64 ((rd_T35 l0 x4_1).f3.f4)) ∧ w'.cell? ⟨gb102, 8, none⟩ = some (.string ((rd_T35 l0 x4_1).f4)) ∧ w'.cell? ⟨gb102, 9, none⟩ = some (.string ((rd_T35 l0 x4_1).f5)) ∧ w'.cell? ⟨gb102, 10, none⟩ = some (.int .i64 ((rd_T35 l0 x4_1).f6)) ∧ w'.cell? (ad101.add (((ji19)).toNat * 11)) = some (.string ((rd_T35 l0 (ji19)).f0)) ∧ w'.cell? ⟨(ad101.add (((ji19)).toNat * 11)).block, (ad101.add (((ji19)).toNat * 11)).off + 1, none⟩ = some (.int .i64 ((rd_T35 l0 (ji19)).f1)) ∧ w'.cell? ⟨(ad101.add (((ji19)).toNat * 11)).block, (ad101.add (((ji19)).toNat * 11)).off + 2, none⟩ = some (.int .i64 ((rd_T35 l0 (ji19)).f2)) ∧ w'.cell? ⟨(ad101.add (((ji19)).toNat * 11)).block, (ad101.add (((ji19)).toNat * 11)).off + 3, none⟩ = some (.int .i64 ((rd_T35 l0 (ji19)).f3.f0)) ∧ w'.cell? ⟨(ad101.add (((ji19)).toNat * 11)).block, (ad101.add (((ji19)).toNat * 11)).off + 4, none⟩ = some (.int .i64 ((rd_T35 l0 (ji19)).f3.f1)) ∧ w'.cell? ⟨(ad101.add (((ji19)).toNat * 11)).block, (ad101.add (((ji19)).toNat * 11)).off + 5, none⟩ = some (.int .i64 ((rd_T35 l0 (ji19)).f3.f2)) ∧ w'.cell? ⟨(ad101.add (((ji19)).toNat * 11)).block, (ad101.add (((ji19)).toNat * 11)).off + 6, none⟩ = some (.int .i64 ((rd_T35 l0 (ji19)).f3.f3)) ∧ w'.cell? ⟨(ad101.add (((ji19)).toNat * 11)).block, (ad101.add (((ji19)).toNat * 11)).off + 7, none⟩ = some (.int .i64 ((rd_T35 l0 (ji19)).f3.f4)) ∧ w'.cell? ⟨(ad101.add (((ji19)).toNat * 11)).block, (ad101.add (((ji19)).toNat * 11)).off + 8, none⟩ = some (.string ((rd_T35 l0 (ji19)).f4)) ∧ w'.cell? ⟨(ad101.add (((ji19)).toNat * 11)).block, (ad101.add (((ji19)).toNat * 11)).off + 9, none⟩ = some (.string ((rd_T35 l0 (ji19)).f5)) ∧ w'.cell? ⟨(ad101.add (((ji19)).toNat * 11)).block, (ad101.add (((ji19)).toNat * 11)).off + 10, none⟩ = some (.int .i64 ((rd_T35 l0 (ji19)).f6))) (ds := []) #[Z_,Z_,Z_,Z_,Z_,Z_,Z_,Z_,Z_,Z_,Z_,Z_,Z_] (by kernel_rfl) rfl rfl ⟨(blk_cell BK102.out 0).trans rfl, (blk_cell BK102.out 1).trans rfl, (blk_cell BK102.out 2).trans rfl, (blk_cell BK102.out 3).trans rfl, (blk_cell BK102.out 4).trans rfl, (blk_cell BK102.out 5).trans rfl, (blk_cell BK102.out 6).trans rfl, (blk_cell BK102.out 7).trans rfl, (blk_cell BK102.out 8).trans rfl, (blk_cell BK102.out 9).trans rfl, (blk_cell BK102.out 10).trans rfl, ((HB.out.cell (World.block_lt_of_cell? w _ hw105_0)).trans hw105_0), ((HB.out.cell (World.block_lt_of_cell? w _ hw105_1)).trans hw105_1), ((HB.out.cell (World.block_lt_of_cell? w _ hw105_2)).trans hw105_2), ((HB.out.cell (World.block_lt_of_cell? w _ hw105_3)).trans hw105_3), ((HB.out.cell (World.block_lt_of_cell? w _ hw105_4)).trans hw105_4), ((HB.out.cell (World.block_lt_of_cell? w _ hw105_5)).trans hw105_5), ((HB.out.cell (World.block_lt_of_cell? w _ hw105_6)).trans hw105_6), ((HB.out.cell (World.block_lt_of_cell? w _ hw105_7)).trans hw105_7), ((HB.out.cell (World.block_lt_of_cell? w _ hw105_8)).trans hw105_8), ((HB.out.cell (World.block_lt_of_cell? w _ hw105_9)).trans hw105_9), ((HB.out.cell (World.block_lt_of_cell? w _ hw105_10)).trans hw105_10)⟩ (fun hHeld => ?_); refine with_tabW flist_Check_h.tab11 flist_Check_h.bits11 (fun HT_ HW_ => ?_)
            generalize wc.drew = w23 at BK102 HB HM hx105_0 hx105_1 hx105_10 hx105_2 hx105_3 hx105_4 hx105_5 hx105_6 hx105_7 hx105_8 hx105_9 hHeld ⊢
            refine pure_ (i := 0) (N := some 35) (v := ?_) (a' := ?_) #[Y_,Z_,Z_,Z_,Z_,Z_,Z_,Z_,Z_,Z_,Z_,Z_,Z_] rfl rfl (any_of HT_.out (by kernel_rfl)) (fun _ _ _ h => h) (Or.inl ⟨by rfl, ?_⟩) ?_ ?_
            rotate_left
            ·intro w';go_simp;with_reducible rfl
            rotate_left
            ·simp only [Act.put, nS, i64_w, i32_w];rfl
            refine pure_ (i := 1) (N := some 36) (v := ?_) (a' := ?_) #[Y_,Y_,Z_,Z_,Z_,Z_,Z_,Z_,Z_,Z_,Z_,Z_,Z_] rfl rfl (any_of HT_.out (by kernel_rfl)) (fun _ _ _ h => h) (Or.inl ⟨by rfl, ?_⟩) ?_ ?_
            rotate_left
            ·intro w';go_simp;with_reducible rfl
            rotate_left
            ·simp only [Act.put, nS, i64_w, i32_w];rfl
            refine pure_ (i := 2) (N := some 37) (v := ?_) (a' := ?_) #[Y_,Y_,Y_,Z_,Z_,Z_,Z_,Z_,Z_,Z_,Z_,Z_,Z_] rfl rfl (any_of HT_.out (by kernel_rfl)) (fun _ _ _ h => h) (Or.inl ⟨by rfl, ?_⟩) ?_ ?_
            rotate_left
            ·intro w';go_simp;with_reducible rfl
            rotate_left
            ·simp only [Act.put, nS, i64_w, i32_w];rfl
            refine pure_ (i := 3) (N := some 38) (v := ?_) (a' := ?_) #[Y_,Y_,Y_,Y_,Z_,Z_,Z_,Z_,Z_,Z_,Z_,Z_,Z_] rfl rfl (any_of HT_.out (by kernel_rfl)) (fun _ _ _ h => h) (Or.inl ⟨by rfl, ?_⟩) ?_ ?_
            rotate_left
            ·intro w';go_simp;with_reducible rfl
            rotate_left
            ·simp only [Act.put, nS, i64_w, i32_w];rfl
            refine pure_ (i := 5) (N := some 40) (v := ?_) (a' := ?_) #[Y_,Y_,Y_,Y_,Z_,Y_,Z_,Z_,Z_,Z_,Z_,Z_,Z_] rfl rfl (any_of HT_.out (by kernel_rfl)) (fun _ _ _ h => h) (Or.inl ⟨by rfl, ?_⟩) ?_ ?_
            rotate_left
            ·intro w';go_simp;with_reducible rfl
            rotate_left
            ·simp only [Act.put, nS, i64_w, i32_w];rfl
            refine pure_ (i := 6) (N := some 41) (v := ?_) (a' := ?_) #[Y_,Y_,Y_,Y_,Z_,Y_,Y_,Z_,Z_,Z_,Z_,Z_,Z_] rfl rfl (any_of HT_.out (by kernel_rfl)) (fun _ _ _ h => h) (Or.inl ⟨by rfl, ?_⟩) ?_ ?_
            rotate_left
            ·intro w';go_simp;with_reducible rfl
            rotate_left
            ·simp only [Act.put, nS, i64_w, i32_w];rfl
            refine pure_ (i := 7) (N := some 42) (v := ?_) (a' := ?_) #[Y_,Y_,Y_,Y_,Z_,Y_,Y_,Y_,Z_,Z_,Z_,Z_,Z_] rfl rfl (any_of HT_.out (by kernel_rfl)) (fun _ _ _ h => h) (Or.inl ⟨by rfl, ?_⟩) ?_ ?_
            rotate_left
            ·intro w';go_simp;with_reducible rfl
            rotate_left
            ·simp only [Act.put, nS, i64_w, i32_w];rfl
            refine pure_ (i := 8) (N := some 43) (v := ?_) (a' := ?_) #[Y_,Y_,Y_,Y_,Z_,Y_,Y_,Y_,Y_,Z_,Z_,Z_,Z_] rfl rfl (any_of HT_.out (by kernel_rfl)) (fun _ _ _ h => h) (Or.inl ⟨by rfl, ?_⟩) ?_ ?_
            rotate_left
            ·intro w';go_simp;with_reducible rfl
            rotate_left
            ·simp only [Act.put, nS, i64_w, i32_w];rfl
            refine pure_ (i := 9) (N := some 44) (v := ?_) (a' := ?_) #[Y_,Y_,Y_,Y_,Z_,Y_,Y_,Y_,Y_,Y_,Z_,Z_,Z_] rfl rfl (any_of HT_.out (by kernel_rfl)) (fun _ _ _ h => h) (Or.inl ⟨by rfl, ?_⟩) ?_ ?_
            rotate_left
            ·intro w';go_simp;with_reducible rfl
            rotate_left
            ·simp only [Act.put, nS, i64_w, i32_w];rfl
            refine take_ (i := 4) (N := some 39) (v := ?_) (a' := ?_) #[Y_,Y_,Y_,Y_,Y_,Y_,Y_,Y_,Y_,Y_,Z_,Z_,Z_] rfl rfl (take_ofW HT_.out HW_.out (by kernel_rfl)) (fun _ _ _ h => h) (Or.inl ⟨by rfl, ?_⟩) hHeld ?_ ?_
            rotate_left
            ·rintro w' ⟨s0, s1, s2, s3, s4, s5, s6, s7, s8, s9, s10, s11, s12, s13, s14, s15, s16, s17, s18, s19, s20, s21⟩
             go_simp
             with_reducible rfl
            rotate_left
            ·simp only [Act.put, nS, i64_w, i32_w];rfl
            refine take_ (i := 10) (N := some 45) (v := ?_) (a' := ?_) #[Y_,Y_,Y_,Y_,Y_,Y_,Y_,Y_,Y_,Y_,Y_,Z_,Z_] rfl rfl (take_ofW HT_.out HW_.out (by kernel_rfl)) (fun _ _ _ h => h) (Or.inl ⟨by rfl, ?_⟩) hHeld ?_ ?_
            rotate_left
            ·rintro w' ⟨s0, s1, s2, s3, s4, s5, s6, s7, s8, s9, s10, s11, s12, s13, s14, s15, s16, s17, s18, s19, s20, s21⟩
             go_simp
             with_reducible rfl
            rotate_left
            ·simp only [Act.put, nS, i64_w, i32_w];rfl
            refine one_ (i := 11) (N := some 46) #[Y_,Y_,Y_,Y_,Y_,Y_,Y_,Y_,Y_,Y_,Y_,Y_,Z_] rfl rfl (one_of HT_.out (by kernel_rfl)) (by decide) (fun K hK => ?_)
            refine goes_ Tryd.func29 (by kernel_rfl) rfl #[.string ((rd_T35 l0 x4_1).f0), .string ((rd_T35 l0 (ji19)).f0)] (by rfl) rfl rfl (by (try simp only [List.map_toArray, List.map_cons, List.map_nil]); first | done | (simp only [hji19]; rfl) | rfl | (simp only [List.length_drop, List.length_take]; rfl)) ?_
            with_reducible refine (path_Less.calls kj5 ((rd_T35 l0 x4_1).f0) ((rd_T35 l0 (ji19)).f0) t106 _ A22.out).mono ?_
            rintro e w24 ⟨rfl, hb⟩
            refine ⟨_, rfl, ?_⟩
            have n0_ := Aside0.mk (blk_below (g := gb102) (o := .cells #[.string ((rd_T35 l0 x4_1).f0), .int .i64 ((rd_T35 l0 x4_1).f1), .int .i64 ((rd_T35 l0 x4_1).f2), .int .i64 ((rd_T35 l0 x4_1).f3.f0), .int .i64 ((rd_T35 l0 x4_1).f3.f1), .int .i64 ((rd_T35 l0 x4_1).f3.f2), .int .i64 ((rd_T35 l0 x4_1).f3.f3), .int .i64 ((rd_T35 l0 x4_1).f3.f4), .string ((rd_T35 l0 x4_1).f4), .string ((rd_T35 l0 x4_1).f5), .int .i64 ((rd_T35 l0 x4_1).f6)] 35 (0, 0)) (upK BK102.out) hb)
            have n1_ := Aside0.mk (below_step (by repeat (first | (with_reducible first | exact HB.out | apply below_alloc | apply pw_below_drewN | apply below_drew1 | refine below_set ?_ GE102.out) | exact HB.out)) hb)
            have n9_ := Aside0.mk (MapB.step (w := w) (mb := w.heap.size) (P := l0.take x4_1.toNat) (by first | exact HM.out | exact MapB.heap HM.out rfl) hb)
            clear BK102
            clear HB
            have BK102 := n0_
            have HB := n1_
            clear HM
            have HM := n9_
            clear n9_
            clear n0_ n1_
            (try clear hb)
            (try clear hb2)
            (try clear hk)
            (try clear hi)
            refine hK.out _ _ ⟨(blk_cell BK102.out 0).trans rfl, (blk_cell BK102.out 1).trans rfl, (blk_cell BK102.out 2).trans rfl, (blk_cell BK102.out 3).trans rfl, (blk_cell BK102.out 4).trans rfl, (blk_cell BK102.out 5).trans rfl, (blk_cell BK102.out 6).trans rfl, (blk_cell BK102.out 7).trans rfl, (blk_cell BK102.out 8).trans rfl, (blk_cell BK102.out 9).trans rfl, (blk_cell BK102.out 10).trans rfl, ((HB.out.cell (World.block_lt_of_cell? w _ hw105_0)).trans hw105_0), ((HB.out.cell (World.block_lt_of_cell? w _ hw105_1)).trans hw105_1), ((HB.out.cell (World.block_lt_of_cell? w _ hw105_2)).trans hw105_2), ((HB.out.cell (World.block_lt_of_cell? w _ hw105_3)).trans hw105_3), ((HB.out.cell (World.block_lt_of_cell? w _ hw105_4)).trans hw105_4), ((HB.out.cell (World.block_lt_of_cell? w _ hw105_5)).trans hw105_5), ((HB.out.cell (World.block_lt_of_cell? w _ hw105_6)).trans hw105_6), ((HB.out.cell (World.block_lt_of_cell? w _ hw105_7)).trans hw105_7), ((HB.out.cell (World.block_lt_of_cell? w _ hw105_8)).trans hw105_8), ((HB.out.cell (World.block_lt_of_cell? w _ hw105_9)).trans hw105_9), ((HB.out.cell (World.block_lt_of_cell? w _ hw105_10)).trans hw105_10)⟩ (fun hHeld => ?_)
            clear hK K
            refine norm_ (a' := ?_) ?_ ?_
            rotate_left
            ·show Act.put _ (some 46) _ = _
             simp only [Act.put, nS, i64_w, i32_w]
             rfl
            refine pure_ (i := 12) (N := some 47) (v := ?_) (a' := ?_) #[Y_,Y_,Y_,Y_,Y_,Y_,Y_,Y_,Y_,Y_,Y_,Y_,Y_] rfl rfl (any_of HT_.out (by kernel_rfl)) (fun _ _ _ h => h) (Or.inl ⟨by rfl, ?_⟩) ?_ ?_
            rotate_left
            ·intro w';go_simp;with_reducible rfl
            rotate_left
            ·simp only [Act.put, nS, i64_w, i32_w];rfl
            refine done_ (done_of HT_.out (by kernel_rfl)) ?_
            try go_wp2
            go_meet
            case rel => exact ⟨_, (t106), (by first | rfl | (simp; done) | (simp [*]; done)), H', ⟨by have := HK1.out; have := HJ5.out; first | omega | exact Nat.le_refl _⟩, ⟨upK BK102.out⟩, ⟨by repeat (first | (with_reducible first | exact HB.out | apply below_alloc | apply pw_below_drewN | apply below_drew1 | refine below_set ?_ GE102.out) | exact HB.out)⟩, ⟨by first | exact HM.out | exact MapB.heap HM.out rfl⟩⟩
           rw [if_neg c21] at H
           exact absurd H (by simp)
          rw [if_neg c20] at H
          exact absurd H (by simp)
         rw [if_neg c18] at H
         have c18b0 : decide (0 < x4_1) = false := decide_eq_false c18
         clear c18
         (first | rw [c18b0] | (simp only [i64_w, i32_w]; rw [c18b0]) | skip)
         have H' := Aside0.mk H
         clear H
         try go_wp2
         have n0_ := Aside0.mk (blk_drew BK102.out)
         have n1_ := Aside0.mk (below_drew1 HB.out)
         have n9_ := Aside0.mk (MapB.drew HM.out)
         clear BK102
         clear HB
         have BK102 := n0_
         have HB := n1_
         clear HM
         have HM := n9_
         clear n9_
         clear n0_ n1_
         refine start_ (n := 13) (S := fun w' => True) (ds := []) #[Z_,Z_,Z_,Z_,Z_,Z_,Z_,Z_,Z_,Z_,Z_,Z_,Z_] (by kernel_rfl) rfl rfl trivial (fun hHeld => ?_); refine with_tabW flist_Check_h.tab11 flist_Check_h.bits11 (fun HT_ HW_ => ?_)
         generalize wc.drew = w25 at BK102 HB HM hHeld ⊢
         refine pure_ (i := 0) (N := some 35) (v := ?_) (a' := ?_) #[Y_,Z_,Z_,Z_,Z_,Z_,Z_,Z_,Z_,Z_,Z_,Z_,Z_] rfl rfl (any_of HT_.out (by kernel_rfl)) (fun _ _ _ h => h) (Or.inl ⟨by rfl, ?_⟩) ?_ ?_
         rotate_left
         ·intro w';go_simp;with_reducible rfl
         rotate_left
         ·simp only [Act.put, nS, i64_w, i32_w];rfl
         refine pure_ (i := 1) (N := some 36) (v := ?_) (a' := ?_) #[Y_,Y_,Z_,Z_,Z_,Z_,Z_,Z_,Z_,Z_,Z_,Z_,Z_] rfl rfl (any_of HT_.out (by kernel_rfl)) (fun _ _ _ h => h) (Or.inl ⟨by rfl, ?_⟩) ?_ ?_
         rotate_left
         ·intro w';go_simp;with_reducible rfl
         rotate_left
         ·simp only [Act.put, nS, i64_w, i32_w];rfl
         refine pure_ (i := 2) (N := some 37) (v := ?_) (a' := ?_) #[Y_,Y_,Y_,Z_,Z_,Z_,Z_,Z_,Z_,Z_,Z_,Z_,Z_] rfl rfl (any_of HT_.out (by kernel_rfl)) (fun _ _ _ h => h) (Or.inl ⟨by rfl, ?_⟩) ?_ ?_
         rotate_left
         ·intro w';go_simp;with_reducible rfl
         rotate_left
         ·simp only [Act.put, nS, i64_w, i32_w];rfl
         refine pure_ (i := 3) (N := some 38) (v := undef) (a' := ?_) #[Y_,Y_,Y_,Y_,Z_,Z_,Z_,Z_,Z_,Z_,Z_,Z_,Z_] rfl rfl (any_of HT_.out (by kernel_rfl)) (fun _ _ _ h => h) (Or.inr ⟨by rfl, rfl⟩) ?_ ?_
         rotate_left
         ·simp only [Act.put, nS, i64_w, i32_w];rfl
         refine pure_ (i := 4) (N := some 39) (v := undef) (a' := ?_) #[Y_,Y_,Y_,Y_,Y_,Z_,Z_,Z_,Z_,Z_,Z_,Z_,Z_] rfl rfl (any_of HT_.out (by kernel_rfl)) (fun _ _ _ h => h) (Or.inr ⟨by rfl, rfl⟩) ?_ ?_
         rotate_left
         ·simp only [Act.put, nS, i64_w, i32_w];rfl
         refine pure_ (i := 5) (N := some 40) (v := undef) (a' := ?_) #[Y_,Y_,Y_,Y_,Y_,Y_,Z_,Z_,Z_,Z_,Z_,Z_,Z_] rfl rfl (any_of HT_.out (by kernel_rfl)) (fun _ _ _ h => h) (Or.inr ⟨by rfl, rfl⟩) ?_ ?_
         rotate_left
         ·simp only [Act.put, nS, i64_w, i32_w];rfl
         refine pure_ (i := 6) (N := some 41) (v := undef) (a' := ?_) #[Y_,Y_,Y_,Y_,Y_,Y_,Y_,Z_,Z_,Z_,Z_,Z_,Z_] rfl rfl (any_of HT_.out (by kernel_rfl)) (fun _ _ _ h => h) (Or.inr ⟨by rfl, rfl⟩) ?_ ?_
         rotate_left
         ·simp only [Act.put, nS, i64_w, i32_w];rfl
         refine pure_ (i := 7) (N := some 42) (v := undef) (a' := ?_) #[Y_,Y_,Y_,Y_,Y_,Y_,Y_,Y_,Z_,Z_,Z_,Z_,Z_] rfl rfl (any_of HT_.out (by kernel_rfl)) (fun _ _ _ h => h) (Or.inr ⟨by rfl, rfl⟩) ?_ ?_
         rotate_left
         ·simp only [Act.put, nS, i64_w, i32_w];rfl
         refine pure_ (i := 8) (N := some 43) (v := undef) (a' := ?_) #[Y_,Y_,Y_,Y_,Y_,Y_,Y_,Y_,Y_,Z_,Z_,Z_,Z_] rfl rfl (any_of HT_.out (by kernel_rfl)) (fun _ _ _ h => h) (Or.inr ⟨by rfl, rfl⟩) ?_ ?_
         rotate_left
         ·simp only [Act.put, nS, i64_w, i32_w];rfl
         refine pure_ (i := 9) (N := some 44) (v := undef) (a' := ?_) #[Y_,Y_,Y_,Y_,Y_,Y_,Y_,Y_,Y_,Y_,Z_,Z_,Z_] rfl rfl (any_of HT_.out (by kernel_rfl)) (fun _ _ _ h => h) (Or.inr ⟨by rfl, rfl⟩) ?_ ?_
         rotate_left
         ·simp only [Act.put, nS, i64_w, i32_w];rfl
         refine pure_ (i := 10) (N := some 45) (v := undef) (a' := ?_) #[Y_,Y_,Y_,Y_,Y_,Y_,Y_,Y_,Y_,Y_,Y_,Z_,Z_] rfl rfl (any_of HT_.out (by kernel_rfl)) (fun _ _ _ h => h) (Or.inr ⟨by rfl, rfl⟩) ?_ ?_
         rotate_left
         ·simp only [Act.put, nS, i64_w, i32_w];rfl
         refine pure_ (i := 11) (N := some 46) (v := undef) (a' := ?_) #[Y_,Y_,Y_,Y_,Y_,Y_,Y_,Y_,Y_,Y_,Y_,Y_,Z_] rfl rfl (any_of HT_.out (by kernel_rfl)) (fun _ _ _ h => h) (Or.inr ⟨by rfl, rfl⟩) ?_ ?_
         rotate_left
         ·simp only [Act.put, nS, i64_w, i32_w];rfl
         refine pure_ (i := 12) (N := some 47) (v := ?_) (a' := ?_) #[Y_,Y_,Y_,Y_,Y_,Y_,Y_,Y_,Y_,Y_,Y_,Y_,Y_] rfl rfl (any_of HT_.out (by kernel_rfl)) (fun _ _ _ h => h) (Or.inl ⟨by rfl, ?_⟩) ?_ ?_
         rotate_left
         ·intro w';go_simp;with_reducible rfl
         rotate_left
         ·simp only [Act.put, nS, i64_w, i32_w];rfl
         refine done_ (done_of HT_.out (by kernel_rfl)) ?_
         try go_wp2
         go_meet
         case rel => exact ⟨_, (false), (by first | rfl | (simp; done) | (simp [*]; done)), H', ⟨by have := HK1.out; have := HJ5.out; first | omega | exact Nat.le_refl _⟩, ⟨upK BK102.out⟩, ⟨by repeat (first | (with_reducible first | exact HB.out | apply below_alloc | apply pw_below_drewN | apply below_drew1 | refine below_set ?_ GE102.out) | exact HB.out)⟩, ⟨by first | exact HM.out | exact MapB.heap HM.out rfl⟩⟩
        case rest =>
         clear HC17
         try clear c1
         try clear p1
         try clear q1
         try clear hx1
         try clear c2
         try clear c2b0
         try clear p2
         try clear c3
         try clear c3b0
         try clear c5
         try clear c5b0
         try clear c5b1
         try clear p6
         try clear c10
         try clear c10b0
         try clear p10
         try clear q10
         try clear hx10
         try clear c12
         try clear c12b0
         try clear c13
         try clear c13b0
         try clear c16
         try clear c18
         try clear c18b0
         try clear c20
         try clear c20b0
         try clear c21
         try clear c21b0
         try clear c24
         try clear hcz8_0
         try clear hcz8_1
         try clear hcz8_10
         try clear hcz8_2
         try clear hcz8_3
         try clear hcz8_4
         try clear hcz8_5
         try clear hcz8_6
         try clear hcz8_7
         try clear hcz8_8
         try clear hcz8_9
         try clear hfz8_0
         try clear hfz8_1
         try clear hfz8_10
         try clear hfz8_2
         try clear hfz8_3
         try clear hfz8_4
         try clear hfz8_5
         try clear hfz8_6
         try clear hfz8_7
         try clear hfz8_8
         try clear hfz8_9
         try clear hx101_0
         try clear hx101_1
         try clear hx101_10
         try clear hx101_2
         try clear hx101_3
         try clear hx101_4
         try clear hx101_5
         try clear hx101_6
         try clear hx101_7
         try clear hx101_8
         try clear hx101_9
         try clear hx104_0
         try clear hx104_1
         try clear hx104_10
         try clear hx104_2
         try clear hx104_3
         try clear hx104_4
         try clear hx104_5
         try clear hx104_6
         try clear hx104_7
         try clear hx104_8
         try clear hx104_9
         try clear hx105_0
         try clear hx105_1
         try clear hx105_10
         try clear hx105_2
         try clear hx105_3
         try clear hx105_4
         try clear hx105_5
         try clear hx105_6
         try clear hx105_7
         try clear hx105_8
         try clear hx105_9
         try clear p1
         try clear p10
         try clear p101
         try clear p104
         try clear p105
         try clear p2
         try clear p6
         try clear q1
         try clear q10
         try clear q101
         try clear q104
         try clear q105
         obtain ⟨kq, x50_16, rfl, HA, HJ16, BK102, HB, HM⟩ := hcut
         cases kq with
         | zero => exact absurd HA.out (by simp [flist_Check_h.j2])
         | succ kj16 =>
          have H := HA.out
          clear HA
          simp only [flist_Check_h.j2] at H
          by_cases c26 : x50_16 = true
          ·subst c26
           rw [if_pos rfl] at H
           obtain rfl := Option.some.inj H
           go_wp2
           go_ret
           exact ⟨by first | rfl | (simp; done), by repeat (first | (with_reducible first | exact HB.out | apply below_alloc | apply pw_below_drewN | apply below_drew1 | refine below_set ?_ GE102.out) | exact HB.out)⟩
          replace c26 := Bool.eq_false_iff.mpr c26
          subst c26
          rw [if_neg (show ¬ (false = true) by decide)] at H
          replace H := Option.bind_eq_some_iff.mp H
          obtain ⟨t107, A270, H⟩ := H
          have A27 := Aside0.mk A270
          clear A270
          have hxs : (rd_T35 l0 x4_1).f0.size ≤ maxLen := Nat.le_trans (HL.out.2 _ (rd35_mem l0 x4_1 hIN.out.1 hIN.out.2)) (by decide)
          have hts : t107.size ≤ maxLen := Nat.le_trans (parent_size _ _ _ A27.out) hxs
          have hPl : (l0.take x4_1.toNat).length ≤ 1000 := by have := HL.out.1; rw [List.length_take]; omega
          obtain ⟨hcz32_0, hcz32_1, hcz32_2, hcz32_3, hcz32_4, hcz32_5, hcz32_6, hcz32_7, hcz32_8, hcz32_9, hcz32_10⟩ := blkc11 BK102.out
          obtain ⟨hfz32_0, hfz32_1, hfz32_2, hfz32_3, hfz32_4, hfz32_5, hfz32_6, hfz32_7, hfz32_8, hfz32_9, hfz32_10⟩ := blkf11 BK102.out
          by_cases c30 : dirsB (l0.take x4_1.toNat) t107 = false
          ·rw [if_pos c30] at H
           obtain rfl := Option.some.inj H
           go_wp2_with (first | ((with_reducible refine gate_callee (f := 30) rfl ?_); refine goesL_ (some 51) rfl rfl Tryd.func30 (by kernel_rfl) rfl #[.string ((rd_T35 l0 x4_1).f0)] rfl (by (try simp only [List.map_toArray, List.map_cons, List.map_nil]); first | done | rfl | (simp only [List.length_drop, List.length_take]; rfl)) ?_; (with_reducible refine (path_Parent.calls kj16 ((rd_T35 l0 x4_1).f0) t107 _ A27.out).mono ?_); rintro e w33 ⟨rfl, hb⟩; refine ⟨_, rfl, ?_⟩; have n0_ := Aside0.mk (blk_below (g := gb102) (o := .cells #[.string ((rd_T35 l0 x4_1).f0), .int .i64 ((rd_T35 l0 x4_1).f1), .int .i64 ((rd_T35 l0 x4_1).f2), .int .i64 ((rd_T35 l0 x4_1).f3.f0), .int .i64 ((rd_T35 l0 x4_1).f3.f1), .int .i64 ((rd_T35 l0 x4_1).f3.f2), .int .i64 ((rd_T35 l0 x4_1).f3.f3), .int .i64 ((rd_T35 l0 x4_1).f3.f4), .string ((rd_T35 l0 x4_1).f4), .string ((rd_T35 l0 x4_1).f5), .int .i64 ((rd_T35 l0 x4_1).f6)] 35 (0, 0)) (upK BK102.out) hb); have n1_ := Aside0.mk (below_step (by repeat (first | (with_reducible first | exact HB.out | apply below_alloc | apply pw_below_drewN | apply below_drew1 | refine below_set ?_ GE102.out) | exact HB.out)) hb); have n9_ := Aside0.mk (MapB.step (w := w) (mb := w.heap.size) (P := l0.take x4_1.toNat) (by with_reducible exact HM.out) hb); clear BK102; clear HB; clear HM; have BK102 := n0_; have HB := n1_; have HM := n9_; clear n0_ n1_ n9_; (try clear hb); have hcq_0 : w33.cell? ⟨gb102, 0, none⟩ = some (.string ((rd_T35 l0 x4_1).f0)) := (blk_cell BK102.out 0).trans rfl; have hcq_1 : w33.cell? ⟨gb102, 1, none⟩ = some (.int .i64 ((rd_T35 l0 x4_1).f1)) := (blk_cell BK102.out 1).trans rfl; have hcq_6 : w33.cell? ⟨gb102, 10, none⟩ = some (.int .i64 ((rd_T35 l0 x4_1).f6)) := (blk_cell BK102.out 10).trans rfl; have hlk := HM.out.look t107 hts; rw [c30] at hlk))
           go_ret
           exact ⟨by first | rfl | (simp; done), by repeat (first | (with_reducible first | exact HB.out | apply below_alloc | apply pw_below_drewN | apply below_drew1 | refine below_set ?_ GE102.out) | exact HB.out)⟩
          rw [if_neg c30] at H
          replace c30 : dirsB (l0.take x4_1.toNat) t107 = true := by simpa using c30
          by_cases c40 : ((rd_T35 l0 x4_1).f6) > (wrap64 (x3_1 + 1))
          ·rw [if_pos c40] at H
           have c40b0 : decide ((wrap64 (x3_1 + 1)) < ((rd_T35 l0 x4_1).f6)) = true := decide_eq_true c40
           clear c40
           obtain rfl := Option.some.inj H
           go_wp2_with (first | ((with_reducible refine gate_callee (f := 30) rfl ?_); refine goesL_ (some 51) rfl rfl Tryd.func30 (by kernel_rfl) rfl #[.string ((rd_T35 l0 x4_1).f0)] rfl (by (try simp only [List.map_toArray, List.map_cons, List.map_nil]); first | done | rfl | (simp only [List.length_drop, List.length_take]; rfl)) ?_; (with_reducible refine (path_Parent.calls kj16 ((rd_T35 l0 x4_1).f0) t107 _ A27.out).mono ?_); rintro e w33 ⟨rfl, hb⟩; refine ⟨_, rfl, ?_⟩; have n0_ := Aside0.mk (blk_below (g := gb102) (o := .cells #[.string ((rd_T35 l0 x4_1).f0), .int .i64 ((rd_T35 l0 x4_1).f1), .int .i64 ((rd_T35 l0 x4_1).f2), .int .i64 ((rd_T35 l0 x4_1).f3.f0), .int .i64 ((rd_T35 l0 x4_1).f3.f1), .int .i64 ((rd_T35 l0 x4_1).f3.f2), .int .i64 ((rd_T35 l0 x4_1).f3.f3), .int .i64 ((rd_T35 l0 x4_1).f3.f4), .string ((rd_T35 l0 x4_1).f4), .string ((rd_T35 l0 x4_1).f5), .int .i64 ((rd_T35 l0 x4_1).f6)] 35 (0, 0)) (upK BK102.out) hb); have n1_ := Aside0.mk (below_step (by repeat (first | (with_reducible first | exact HB.out | apply below_alloc | apply pw_below_drewN | apply below_drew1 | refine below_set ?_ GE102.out) | exact HB.out)) hb); have n9_ := Aside0.mk (MapB.step (w := w) (mb := w.heap.size) (P := l0.take x4_1.toNat) (by with_reducible exact HM.out) hb); clear BK102; clear HB; clear HM; have BK102 := n0_; have HB := n1_; have HM := n9_; clear n0_ n1_ n9_; (try clear hb); have hcq_0 : w33.cell? ⟨gb102, 0, none⟩ = some (.string ((rd_T35 l0 x4_1).f0)) := (blk_cell BK102.out 0).trans rfl; have hcq_1 : w33.cell? ⟨gb102, 1, none⟩ = some (.int .i64 ((rd_T35 l0 x4_1).f1)) := (blk_cell BK102.out 1).trans rfl; have hcq_6 : w33.cell? ⟨gb102, 10, none⟩ = some (.int .i64 ((rd_T35 l0 x4_1).f6)) := (blk_cell BK102.out 10).trans rfl; have hlk := HM.out.look t107 hts; rw [c30] at hlk))
           go_ret
           exact ⟨by first | rfl | (simp; done), by repeat (first | (with_reducible first | exact HB.out | apply below_alloc | apply pw_below_drewN | apply below_drew1 | refine below_set ?_ GE102.out) | exact HB.out)⟩
          rw [if_neg c40] at H
          have c40b0 : decide ((wrap64 (x3_1 + 1)) < ((rd_T35 l0 x4_1).f6)) = false := decide_eq_false c40
          clear c40
          obtain ⟨ji42, hji42⟩ : ∃ j_ : Int, (mx x3_1 ((rd_T35 l0 x4_1).f6)) = j_ := ⟨_, rfl⟩
          rw [hji42] at H
          have hji42_ : (if x3_1 < ((rd_T35 l0 x4_1).f6) then ((rd_T35 l0 x4_1).f6) else x3_1) = ji42 := hji42
          have H' := Aside0.mk H
          clear H
          by_cases hk2 : (rd_T35 l0 x4_1).f1 = 2
          ·have k2b : ((rd_T35 l0 x4_1).f1 == 2) = true := beq_iff_eq.mpr hk2
           go_wp2_with (first | ((with_reducible refine gate_callee (f := 30) rfl ?_); refine goesL_ (some 51) rfl rfl Tryd.func30 (by kernel_rfl) rfl #[.string ((rd_T35 l0 x4_1).f0)] rfl (by (try simp only [List.map_toArray, List.map_cons, List.map_nil]); first | done | rfl | (simp only [List.length_drop, List.length_take]; rfl)) ?_; (with_reducible refine (path_Parent.calls kj16 ((rd_T35 l0 x4_1).f0) t107 _ A27.out).mono ?_); rintro e w33 ⟨rfl, hb⟩; refine ⟨_, rfl, ?_⟩; have n0_ := Aside0.mk (blk_below (g := gb102) (o := .cells #[.string ((rd_T35 l0 x4_1).f0), .int .i64 ((rd_T35 l0 x4_1).f1), .int .i64 ((rd_T35 l0 x4_1).f2), .int .i64 ((rd_T35 l0 x4_1).f3.f0), .int .i64 ((rd_T35 l0 x4_1).f3.f1), .int .i64 ((rd_T35 l0 x4_1).f3.f2), .int .i64 ((rd_T35 l0 x4_1).f3.f3), .int .i64 ((rd_T35 l0 x4_1).f3.f4), .string ((rd_T35 l0 x4_1).f4), .string ((rd_T35 l0 x4_1).f5), .int .i64 ((rd_T35 l0 x4_1).f6)] 35 (0, 0)) (upK BK102.out) hb); have n1_ := Aside0.mk (below_step (by repeat (first | (with_reducible first | exact HB.out | apply below_alloc | apply pw_below_drewN | apply below_drew1 | refine below_set ?_ GE102.out) | exact HB.out)) hb); have n9_ := Aside0.mk (MapB.step (w := w) (mb := w.heap.size) (P := l0.take x4_1.toNat) (by with_reducible exact HM.out) hb); clear BK102; clear HB; clear HM; have BK102 := n0_; have HB := n1_; have HM := n9_; clear n0_ n1_ n9_; (try clear hb); have hcq_0 : w33.cell? ⟨gb102, 0, none⟩ = some (.string ((rd_T35 l0 x4_1).f0)) := (blk_cell BK102.out 0).trans rfl; have hcq_1 : w33.cell? ⟨gb102, 1, none⟩ = some (.int .i64 ((rd_T35 l0 x4_1).f1)) := (blk_cell BK102.out 1).trans rfl; have hcq_6 : w33.cell? ⟨gb102, 10, none⟩ = some (.int .i64 ((rd_T35 l0 x4_1).f6)) := (blk_cell BK102.out 10).trans rfl; have hlk := HM.out.look t107 hts; rw [c30] at hlk; obtain ⟨wq, hput2, hmq, hbq⟩ := HM.out.put HB.out (rd_T35 l0 x4_1) hk2 hxs hPl; have HMq := Aside0.mk hmq; have HBq := Aside0.mk hbq; clear hmq hbq))
           go_roundg kj16
           case measure => have := HK1.out; have := HJ5.out; have := HJ16.out; omega
           case rel => exact ⟨(ji42), (wrap64 (x4_1 + 1)), (by first | rfl | (simp; done) | (simp only [← hji42] <;> (first | rfl | simp)) | (simp [*]; done)), (by first | rfl | (simp; done) | (simp [*]; done)), H', ⟨by have := HK1.out; have := HJ5.out; have := HJ16.out; omega⟩, ⟨HBq.out⟩, ⟨(by rw [take_rd35 l0 x4_1 hIN.out.1 hIN.out.2 HL.out.1]; exact HMq.out)⟩⟩
          have k2b : ((rd_T35 l0 x4_1).f1 == 2) = false := beq_eq_false_iff_ne.mpr hk2
          go_wp2_with (first | ((with_reducible refine gate_callee (f := 30) rfl ?_); refine goesL_ (some 51) rfl rfl Tryd.func30 (by kernel_rfl) rfl #[.string ((rd_T35 l0 x4_1).f0)] rfl (by (try simp only [List.map_toArray, List.map_cons, List.map_nil]); first | done | rfl | (simp only [List.length_drop, List.length_take]; rfl)) ?_; (with_reducible refine (path_Parent.calls kj16 ((rd_T35 l0 x4_1).f0) t107 _ A27.out).mono ?_); rintro e w33 ⟨rfl, hb⟩; refine ⟨_, rfl, ?_⟩; have n0_ := Aside0.mk (blk_below (g := gb102) (o := .cells #[.string ((rd_T35 l0 x4_1).f0), .int .i64 ((rd_T35 l0 x4_1).f1), .int .i64 ((rd_T35 l0 x4_1).f2), .int .i64 ((rd_T35 l0 x4_1).f3.f0), .int .i64 ((rd_T35 l0 x4_1).f3.f1), .int .i64 ((rd_T35 l0 x4_1).f3.f2), .int .i64 ((rd_T35 l0 x4_1).f3.f3), .int .i64 ((rd_T35 l0 x4_1).f3.f4), .string ((rd_T35 l0 x4_1).f4), .string ((rd_T35 l0 x4_1).f5), .int .i64 ((rd_T35 l0 x4_1).f6)] 35 (0, 0)) (upK BK102.out) hb); have n1_ := Aside0.mk (below_step (by repeat (first | (with_reducible first | exact HB.out | apply below_alloc | apply pw_below_drewN | apply below_drew1 | refine below_set ?_ GE102.out) | exact HB.out)) hb); have n9_ := Aside0.mk (MapB.step (w := w) (mb := w.heap.size) (P := l0.take x4_1.toNat) (by with_reducible exact HM.out) hb); clear BK102; clear HB; clear HM; have BK102 := n0_; have HB := n1_; have HM := n9_; clear n0_ n1_ n9_; (try clear hb); have hcq_0 : w33.cell? ⟨gb102, 0, none⟩ = some (.string ((rd_T35 l0 x4_1).f0)) := (blk_cell BK102.out 0).trans rfl; have hcq_1 : w33.cell? ⟨gb102, 1, none⟩ = some (.int .i64 ((rd_T35 l0 x4_1).f1)) := (blk_cell BK102.out 1).trans rfl; have hcq_6 : w33.cell? ⟨gb102, 10, none⟩ = some (.int .i64 ((rd_T35 l0 x4_1).f6)) := (blk_cell BK102.out 10).trans rfl; have hlk := HM.out.look t107 hts; rw [c30] at hlk))
          go_roundg kj16
          case measure => have := HK1.out; have := HJ5.out; have := HJ16.out; omega
          case rel => exact ⟨(ji42), (wrap64 (x4_1 + 1)), (by first | rfl | (simp; done) | (simp only [← hji42] <;> (first | rfl | simp)) | (simp [*]; done)), (by first | rfl | (simp; done) | (simp [*]; done)), H', ⟨by have := HK1.out; have := HJ5.out; have := HJ16.out; omega⟩, ⟨HB.out⟩, ⟨(by rw [take_rd35 l0 x4_1 hIN.out.1 hIN.out.2 HL.out.1]; exact HM.out.same _ hk2)⟩⟩
     rw [if_neg c5] at H
     have c5b0 : (t103 == 0) = false := beq_eq_false_iff_ne.mpr c5
     have c5b1 : (t103 != 0) = true := bne_iff_ne.mpr c5
     obtain rfl := Option.some.inj H
     have p101 : 0 ≤ (x4_1 : Int) := of_decide_eq_true (by first | (with_reducible assumption) | assumption)
     have q101 : x4_1 < (l0.length : Int) := of_decide_eq_true (by first | (with_reducible assumption) | assumption)
     obtain ⟨ad101, e101, hx101_0, hx101_1, hx101_2, hx101_3, hx101_4, hx101_5, hx101_6, hx101_7, hx101_8, hx101_9, hx101_10⟩ := at_T35 HR0.out x4_1 p101 q101
     cases e101
     replace hx101_0 := (HB.out.cell (World.block_lt_of_cell? w _ hx101_0)).trans hx101_0
     replace hx101_1 := (HB.out.cell (World.block_lt_of_cell? w _ hx101_1)).trans hx101_1
     replace hx101_2 := (HB.out.cell (World.block_lt_of_cell? w _ hx101_2)).trans hx101_2
     replace hx101_3 := (HB.out.cell (World.block_lt_of_cell? w _ hx101_3)).trans hx101_3
     replace hx101_4 := (HB.out.cell (World.block_lt_of_cell? w _ hx101_4)).trans hx101_4
     replace hx101_5 := (HB.out.cell (World.block_lt_of_cell? w _ hx101_5)).trans hx101_5
     replace hx101_6 := (HB.out.cell (World.block_lt_of_cell? w _ hx101_6)).trans hx101_6
     replace hx101_7 := (HB.out.cell (World.block_lt_of_cell? w _ hx101_7)).trans hx101_7
     replace hx101_8 := (HB.out.cell (World.block_lt_of_cell? w _ hx101_8)).trans hx101_8
     replace hx101_9 := (HB.out.cell (World.block_lt_of_cell? w _ hx101_9)).trans hx101_9
     replace hx101_10 := (HB.out.cell (World.block_lt_of_cell? w _ hx101_10)).trans hx101_10
     replace p101 := eq_true p101
     replace q101 := eq_true q101
     go_wp2_with (first | ((with_reducible refine gate_dst (N := 6) rfl ?_); refine box_event ?hg (N := 6) ?hd (cs := #[.string (⟨#[]⟩ : ByteArray), .int .i64 0, .int .i64 0, .int .i64 0, .int .i64 0, .int .i64 0, .int .i64 0, .int .i64 0, .string (⟨#[]⟩ : ByteArray), .string (⟨#[]⟩ : ByteArray), .int .i64 0]) (t := 35) ?hr ?_; (case hd => rfl); (case hg => rfl); (case hr => first | (go_simp; done) | (go_simp; rfl)); intro gb102 hg w44 hbox hb; have n0_ := Aside0.mk (below_step (upB HB.out) hb); have n1_ := Aside0.mk (hbox); have n8_ := Aside0.mk ((by rw [hg]; exact Nat.ne_of_lt HM.out.lt) : w.heap.size ≠ gb102); have n9_ := Aside0.mk (MapB.step HM.out hb); clear HM; have HM := n9_; have NE102 := n8_; clear n8_ n9_; have n2_ := Aside0.mk ((by rw [hg]; exact (below_size (upB HB.out)) : w.heap.size ≤ gb102)); have n3_ := Aside0.mk ((by rw [hg]; exact (below_size (upB HB.out)) : w.heap.size ≤ gb102)); clear HB; have HB := n0_; have BK102 := n1_; have GW102 := n2_; have GE102 := n3_; clear n0_ n1_ n2_ n3_; clear hb hbox hg; have hcz45_0 : w44.cell? ⟨gb102, 0, none⟩ = some (.string (⟨#[]⟩ : ByteArray)) := (blk_cell BK102.out 0).trans rfl; have hcz45_1 : w44.cell? ⟨gb102, 1, none⟩ = some (.int .i64 0) := (blk_cell BK102.out 1).trans rfl; have hcz45_2 : w44.cell? ⟨gb102, 2, none⟩ = some (.int .i64 0) := (blk_cell BK102.out 2).trans rfl; have hcz45_3 : w44.cell? ⟨gb102, 3, none⟩ = some (.int .i64 0) := (blk_cell BK102.out 3).trans rfl; have hcz45_4 : w44.cell? ⟨gb102, 4, none⟩ = some (.int .i64 0) := (blk_cell BK102.out 4).trans rfl; have hcz45_5 : w44.cell? ⟨gb102, 5, none⟩ = some (.int .i64 0) := (blk_cell BK102.out 5).trans rfl; have hcz45_6 : w44.cell? ⟨gb102, 6, none⟩ = some (.int .i64 0) := (blk_cell BK102.out 6).trans rfl; have hcz45_7 : w44.cell? ⟨gb102, 7, none⟩ = some (.int .i64 0) := (blk_cell BK102.out 7).trans rfl; have hcz45_8 : w44.cell? ⟨gb102, 8, none⟩ = some (.string (⟨#[]⟩ : ByteArray)) := (blk_cell BK102.out 8).trans rfl; have hcz45_9 : w44.cell? ⟨gb102, 9, none⟩ = some (.string (⟨#[]⟩ : ByteArray)) := (blk_cell BK102.out 9).trans rfl; have hcz45_10 : w44.cell? ⟨gb102, 10, none⟩ = some (.int .i64 0) := (blk_cell BK102.out 10).trans rfl; have hfz45_0 := blk_frozen BK102.out 0; have hfz45_1 := blk_frozen BK102.out 1; have hfz45_2 := blk_frozen BK102.out 2; have hfz45_3 := blk_frozen BK102.out 3; have hfz45_4 := blk_frozen BK102.out 4; have hfz45_5 := blk_frozen BK102.out 5; have hfz45_6 := blk_frozen BK102.out 6; have hfz45_7 := blk_frozen BK102.out 7; have hfz45_8 := blk_frozen BK102.out 8; have hfz45_9 := blk_frozen BK102.out 9; have hfz45_10 := blk_frozen BK102.out 10) | ((with_reducible refine gate_callee (f := 28) rfl ?_); refine goesL_ (some 18) rfl rfl Tryd.func28 (by kernel_rfl) rfl #[.agg #[.string ((rd_T35 l0 x4_1).f0), .int .i64 ((rd_T35 l0 x4_1).f1), .int .i64 ((rd_T35 l0 x4_1).f2), .int .i64 ((rd_T35 l0 x4_1).f3.f0), .int .i64 ((rd_T35 l0 x4_1).f3.f1), .int .i64 ((rd_T35 l0 x4_1).f3.f2), .int .i64 ((rd_T35 l0 x4_1).f3.f3), .int .i64 ((rd_T35 l0 x4_1).f3.f4), .string ((rd_T35 l0 x4_1).f4), .string ((rd_T35 l0 x4_1).f5), .int .i64 ((rd_T35 l0 x4_1).f6)]] rfl (by (try simp only [List.map_toArray, List.map_cons, List.map_nil]); first | done | rfl | (simp only [List.length_drop, List.length_take]; rfl)) ?_; (with_reducible refine (flist_alone.calls k1 ((rd_T35 l0 x4_1).f0) ((rd_T35 l0 x4_1).f1) ((rd_T35 l0 x4_1).f2) ((rd_T35 l0 x4_1).f3.f0) ((rd_T35 l0 x4_1).f3.f1) ((rd_T35 l0 x4_1).f3.f2) ((rd_T35 l0 x4_1).f3.f3) ((rd_T35 l0 x4_1).f3.f4) ((rd_T35 l0 x4_1).f4) ((rd_T35 l0 x4_1).f5) ((rd_T35 l0 x4_1).f6) t103 _ A4.out).mono ?_); rintro e w46 ⟨rfl, hb⟩; refine ⟨_, rfl, ?_⟩; have n0_ := Aside0.mk (blk_below (g := gb102) (o := .cells #[.string ((rd_T35 l0 x4_1).f0), .int .i64 ((rd_T35 l0 x4_1).f1), .int .i64 ((rd_T35 l0 x4_1).f2), .int .i64 ((rd_T35 l0 x4_1).f3.f0), .int .i64 ((rd_T35 l0 x4_1).f3.f1), .int .i64 ((rd_T35 l0 x4_1).f3.f2), .int .i64 ((rd_T35 l0 x4_1).f3.f3), .int .i64 ((rd_T35 l0 x4_1).f3.f4), .string ((rd_T35 l0 x4_1).f4), .string ((rd_T35 l0 x4_1).f5), .int .i64 ((rd_T35 l0 x4_1).f6)] 35 (0, 0)) (by (with_reducible repeat (first | refine blk_drewN ?_ _ | refine blk_drew ?_ | refine blk_alloc ?_ _)); refine blk_put (cs := #[.string ((rd_T35 l0 x4_1).f0), .int .i64 ((rd_T35 l0 x4_1).f1), .int .i64 ((rd_T35 l0 x4_1).f2), .int .i64 ((rd_T35 l0 x4_1).f3.f0), .int .i64 ((rd_T35 l0 x4_1).f3.f1), .int .i64 ((rd_T35 l0 x4_1).f3.f2), .int .i64 ((rd_T35 l0 x4_1).f3.f3), .int .i64 ((rd_T35 l0 x4_1).f3.f4), .string ((rd_T35 l0 x4_1).f4), .string ((rd_T35 l0 x4_1).f5), .int .i64 0]) ?_ 10 _ rfl; (with_reducible repeat (first | refine blk_drewN ?_ _ | refine blk_drew ?_ | refine blk_alloc ?_ _)); refine blk_put (cs := #[.string ((rd_T35 l0 x4_1).f0), .int .i64 ((rd_T35 l0 x4_1).f1), .int .i64 ((rd_T35 l0 x4_1).f2), .int .i64 ((rd_T35 l0 x4_1).f3.f0), .int .i64 ((rd_T35 l0 x4_1).f3.f1), .int .i64 ((rd_T35 l0 x4_1).f3.f2), .int .i64 ((rd_T35 l0 x4_1).f3.f3), .int .i64 ((rd_T35 l0 x4_1).f3.f4), .string ((rd_T35 l0 x4_1).f4), .string (⟨#[]⟩ : ByteArray), .int .i64 0]) ?_ 9 _ rfl; (with_reducible repeat (first | refine blk_drewN ?_ _ | refine blk_drew ?_ | refine blk_alloc ?_ _)); refine blk_put (cs := #[.string ((rd_T35 l0 x4_1).f0), .int .i64 ((rd_T35 l0 x4_1).f1), .int .i64 ((rd_T35 l0 x4_1).f2), .int .i64 ((rd_T35 l0 x4_1).f3.f0), .int .i64 ((rd_T35 l0 x4_1).f3.f1), .int .i64 ((rd_T35 l0 x4_1).f3.f2), .int .i64 ((rd_T35 l0 x4_1).f3.f3), .int .i64 ((rd_T35 l0 x4_1).f3.f4), .string (⟨#[]⟩ : ByteArray), .string (⟨#[]⟩ : ByteArray), .int .i64 0]) ?_ 8 _ rfl; (with_reducible repeat (first | refine blk_drewN ?_ _ | refine blk_drew ?_ | refine blk_alloc ?_ _)); refine blk_put (cs := #[.string ((rd_T35 l0 x4_1).f0), .int .i64 ((rd_T35 l0 x4_1).f1), .int .i64 ((rd_T35 l0 x4_1).f2), .int .i64 ((rd_T35 l0 x4_1).f3.f0), .int .i64 ((rd_T35 l0 x4_1).f3.f1), .int .i64 ((rd_T35 l0 x4_1).f3.f2), .int .i64 ((rd_T35 l0 x4_1).f3.f3), .int .i64 0, .string (⟨#[]⟩ : ByteArray), .string (⟨#[]⟩ : ByteArray), .int .i64 0]) ?_ 7 _ rfl; (with_reducible repeat (first | refine blk_drewN ?_ _ | refine blk_drew ?_ | refine blk_alloc ?_ _)); refine blk_put (cs := #[.string ((rd_T35 l0 x4_1).f0), .int .i64 ((rd_T35 l0 x4_1).f1), .int .i64 ((rd_T35 l0 x4_1).f2), .int .i64 ((rd_T35 l0 x4_1).f3.f0), .int .i64 ((rd_T35 l0 x4_1).f3.f1), .int .i64 ((rd_T35 l0 x4_1).f3.f2), .int .i64 0, .int .i64 0, .string (⟨#[]⟩ : ByteArray), .string (⟨#[]⟩ : ByteArray), .int .i64 0]) ?_ 6 _ rfl; (with_reducible repeat (first | refine blk_drewN ?_ _ | refine blk_drew ?_ | refine blk_alloc ?_ _)); refine blk_put (cs := #[.string ((rd_T35 l0 x4_1).f0), .int .i64 ((rd_T35 l0 x4_1).f1), .int .i64 ((rd_T35 l0 x4_1).f2), .int .i64 ((rd_T35 l0 x4_1).f3.f0), .int .i64 ((rd_T35 l0 x4_1).f3.f1), .int .i64 0, .int .i64 0, .int .i64 0, .string (⟨#[]⟩ : ByteArray), .string (⟨#[]⟩ : ByteArray), .int .i64 0]) ?_ 5 _ rfl; (with_reducible repeat (first | refine blk_drewN ?_ _ | refine blk_drew ?_ | refine blk_alloc ?_ _)); refine blk_put (cs := #[.string ((rd_T35 l0 x4_1).f0), .int .i64 ((rd_T35 l0 x4_1).f1), .int .i64 ((rd_T35 l0 x4_1).f2), .int .i64 ((rd_T35 l0 x4_1).f3.f0), .int .i64 0, .int .i64 0, .int .i64 0, .int .i64 0, .string (⟨#[]⟩ : ByteArray), .string (⟨#[]⟩ : ByteArray), .int .i64 0]) ?_ 4 _ rfl; (with_reducible repeat (first | refine blk_drewN ?_ _ | refine blk_drew ?_ | refine blk_alloc ?_ _)); refine blk_put (cs := #[.string ((rd_T35 l0 x4_1).f0), .int .i64 ((rd_T35 l0 x4_1).f1), .int .i64 ((rd_T35 l0 x4_1).f2), .int .i64 0, .int .i64 0, .int .i64 0, .int .i64 0, .int .i64 0, .string (⟨#[]⟩ : ByteArray), .string (⟨#[]⟩ : ByteArray), .int .i64 0]) ?_ 3 _ rfl; (with_reducible repeat (first | refine blk_drewN ?_ _ | refine blk_drew ?_ | refine blk_alloc ?_ _)); refine blk_put (cs := #[.string ((rd_T35 l0 x4_1).f0), .int .i64 ((rd_T35 l0 x4_1).f1), .int .i64 0, .int .i64 0, .int .i64 0, .int .i64 0, .int .i64 0, .int .i64 0, .string (⟨#[]⟩ : ByteArray), .string (⟨#[]⟩ : ByteArray), .int .i64 0]) ?_ 2 _ rfl; (with_reducible repeat (first | refine blk_drewN ?_ _ | refine blk_drew ?_ | refine blk_alloc ?_ _)); refine blk_put (cs := #[.string ((rd_T35 l0 x4_1).f0), .int .i64 0, .int .i64 0, .int .i64 0, .int .i64 0, .int .i64 0, .int .i64 0, .int .i64 0, .string (⟨#[]⟩ : ByteArray), .string (⟨#[]⟩ : ByteArray), .int .i64 0]) ?_ 1 _ rfl; (with_reducible repeat (first | refine blk_drewN ?_ _ | refine blk_drew ?_ | refine blk_alloc ?_ _)); refine blk_put (cs := #[.string (⟨#[]⟩ : ByteArray), .int .i64 0, .int .i64 0, .int .i64 0, .int .i64 0, .int .i64 0, .int .i64 0, .int .i64 0, .string (⟨#[]⟩ : ByteArray), .string (⟨#[]⟩ : ByteArray), .int .i64 0]) ?_ 0 _ rfl; (with_reducible repeat (first | refine blk_drewN ?_ _ | refine blk_drew ?_ | refine blk_alloc ?_ _)); exact BK102.out) hb); have n1_ := Aside0.mk (below_step (by repeat (first | (with_reducible first | exact HB.out | apply below_alloc | apply pw_below_drewN | apply below_drew1 | refine below_set ?_ GE102.out) | exact HB.out)) hb); have n9_ := Aside0.mk (MapB.step (w := w) (mb := w.heap.size) (P := l0.take x4_1.toNat) (by (with_reducible repeat (refine MapB.set ?_ NE102.out)); with_reducible exact HM.out) hb); clear HM; have HM := n9_; clear n9_; clear BK102; clear HB; have BK102 := n0_; have HB := n1_; clear n0_ n1_; (try clear hb); (try clear hb2); (try clear hk); (try clear hi)))
     go_ret
     exact ⟨by first | rfl | (simp [errW_none, errW_some] <;> rfl) | (simp [*, errW_none, errW_some] <;> rfl), by repeat (first | (with_reducible first | exact HB.out | apply below_alloc | apply pw_below_drewN | apply below_drew1 | refine below_set ?_ GE102.out) | exact HB.out)⟩
    rw [if_neg c3] at H
    exact absurd H (by simp)
   rw [if_neg c2] at H
   have c2b0 : decide (x4_1 < (l0.length : Int)) = false := decide_eq_false c2
   clear c2
   obtain rfl := Option.some.inj H
   go_wp2
   go_ret
   exact ⟨by first | rfl | (simp [errW_none, errW_some] <;> rfl) | (simp [*, errW_none, errW_some] <;> rfl), upB HB.out⟩
theorem fcheck_l (L : List S35) (hL : light20 L) : ∀ (m i k : Nat) (last : Int), L.length - i = m → i ≤ L.length → 4 * m + 3000100 ≤ k → 0 ≤ last → last ≤ i → flist_Check_h.l0 k L last (i : Int) = some (checkG (L.take i) last (L.drop i)) := by
 obtain ⟨hn, hz⟩ := hL
 intro m
 induction m with
 | zero =>
  intro i k last hm hi hk h0 h1
  obtain ⟨k, rfl⟩ : ∃ j, k = j + 1 := ⟨k - 1, by omega⟩
  obtain rfl : i = L.length := by omega
  rw [flist_Check_h.l0, if_neg (by omega), List.drop_length]
  rfl
 | succ m ih =>
  intro i k last hm hi hk h0 h1
  obtain ⟨k, rfl⟩ : ∃ j, k = j + 3 := ⟨k - 3, by omega⟩
  have hlt : i < L.length := by omega
  have e1 : wrap64 ((i : Int) + 1) = ((i + 1 : Nat) : Int) := by rw [wr64 _ (by omega) (by omega)]; rfl
  have e2 : wrap64 (last + 1) = last + 1 := wr64 _ (by omega) (by omega)
  have hx : (L[i]).f0.size ≤ 1000 := hz _ (List.getElem_mem hlt)
  have htl : (L.take i).length = i := by rw [List.length_take]; omega
  rw [flist_Check_h.l0, if_pos (by omega), if_pos (by omega), rd35_get L i hlt, alone_f (L[i]) (by omega) (k + 2) (by omega), Option.bind_some, List.drop_eq_getElem_cons hlt, checkG_cons]
  by_cases ha : aloneI (L[i]) = 0
  ·rw [if_pos ha]
   have j2f : (¬ (L.take i ≠ [] ∧ L[i].f0 = (prev (L.take i)).f0)) → (¬ (L.take i ≠ [] ∧ cmpL (splitL L[i].f0) (splitL (prev (L.take i)).f0) < 0)) → flist_Check_h.j2 (k + 1) L last (i : Int) false L[i].f0 L[i].f1 L[i].f2 L[i].f3.f0 L[i].f3.f1 L[i].f3.f2 L[i].f3.f3 L[i].f3.f4 L[i].f4 L[i].f5 L[i].f6 = some (if stepC (L.take i) last (L[i]) ≠ 0 then stepC (L.take i) last (L[i]) else checkG (L.take i ++ [L[i]]) (maxI last (L[i]).f6) (L.drop (i + 1))) := fun n1 n2 => by
    have hst0 : stepC (L.take i) last (L[i]) = if dirsB (L.take i) (parB L[i].f0) = false then 12 else if L[i].f6 > last + 1 then 5 else 0 := by
     unfold stepC
     rw [if_neg (fun h => h ha), if_neg n1, if_neg n2]
    rw [flist_Check_h.j2, if_neg (by decide), parent_f L[i].f0 (by unfold sml; omega) k (by omega), Option.bind_some, Int.toNat_natCast, e1, e2]
    by_cases hd : dirsB (L.take i) (parB L[i].f0) = false
    ·rw [if_pos hd] at hst0
     rw [if_pos hd, hst0, if_pos (by decide)]
    rw [if_neg hd] at hst0
    rw [if_neg hd, hst0]
    by_cases hg : L[i].f6 > last + 1
    ·rw [if_pos hg, if_pos hg, if_pos (by decide)]
    rw [if_neg hg, if_neg hg, if_neg (by decide), ← List.take_succ_eq_append_getElem hlt]
    have hmx : mx last L[i].f6 = maxI last L[i].f6 := rfl
    rw [hmx]
    refine ih (i + 1) k _ (by omega) (by omega) (by omega) ?_ ?_
    ·unfold maxI; split <;> omega
    unfold maxI; split <;> omega
   have j2t : (L.take i ≠ [] ∧ ¬ L[i].f0 = (prev (L.take i)).f0 ∧ cmpL (splitL L[i].f0) (splitL (prev (L.take i)).f0) < 0) → flist_Check_h.j2 (k + 1) L last (i : Int) true L[i].f0 L[i].f1 L[i].f2 L[i].f3.f0 L[i].f3.f1 L[i].f3.f2 L[i].f3.f3 L[i].f3.f4 L[i].f4 L[i].f5 L[i].f6 = some (if stepC (L.take i) last (L[i]) ≠ 0 then stepC (L.take i) last (L[i]) else checkG (L.take i ++ [L[i]]) (maxI last (L[i]).f6) (L.drop (i + 1))) := fun ⟨n1, n2, n3⟩ => by
    have hst : stepC (L.take i) last (L[i]) = 3 := by
     unfold stepC
     rw [if_neg (fun h => h ha), if_neg (fun h => n2 h.2), if_pos ⟨n1, n3⟩]
    rw [flist_Check_h.j2, if_pos rfl, hst, if_pos (by decide)]
   by_cases hi0 : 0 < i
   ·obtain ⟨hpv, hne⟩ := prev_eq L i hi0 (by omega)
    have e3 : wrap64 ((i : Int) - 1) = ((i - 1 : Nat) : Int) := by rw [wr64 _ (by omega) (by omega)]; omega
    have hpl : (L[i - 1]'(by omega)).f0.size ≤ 1000 := hz _ (List.getElem_mem _)
    rw [if_pos (by omega), e3, if_pos (by omega), if_pos (by omega), rd35_get L (i - 1) (by omega), ← hpv, tl_beq]
    rw [← hpv] at hpl
    by_cases hq : L[i].f0 = (prev (L.take i)).f0
    ·have hst : stepC (L.take i) last (L[i]) = 11 := by
      unfold stepC
      rw [if_neg (fun h => h ha), if_pos ⟨hne, hq⟩]
     rw [decide_eq_true hq, flist_Check_h.j1, if_pos rfl, hst, if_pos (by decide)]
    rw [decide_eq_false hq, flist_Check_h.j1, if_neg (by decide), if_pos (by omega), e3, if_pos (by omega), if_pos (by omega), rd35_get L (i - 1) (by omega), ← hpv, less_f _ _ (by unfold sml; omega) (by unfold sml; omega) (k + 1) (by omega), Option.bind_some]
    by_cases hc : cmpL (splitL L[i].f0) (splitL (prev (L.take i)).f0) < 0
    ·rw [decide_eq_true hc]
     exact j2t ⟨hne, hq, hc⟩
    rw [decide_eq_false hc]
    exact j2f (fun h => hq h.2) (fun h => hc h.2)
   obtain rfl : i = 0 := by omega
   rw [if_neg (by omega), flist_Check_h.j1, if_neg (by decide), if_neg (by omega)]
   exact j2f (fun h => h.1 rfl) (fun h => h.1 rfl)
  have hst : stepC (L.take i) last (L[i]) = aloneI (L[i]) := by
   unfold stepC
   rw [if_pos ha]
  rw [if_neg ha, hst, if_pos ha]
instance light20_dec (L : List S35) : Decidable (light20 L) := inferInstanceAs (Decidable (_ ∧ _))
def flist_Check.f (l0 : List S35) : Option Int := if light20 l0 then some (checkL20 l0) else none
theorem flist_Check.calls (A0 : Option Addr) (c0 : Nat) (l0 : List (S35)) (r : Int) (w : World) (hr0 : Kd.C k35 w A0 l0.length l0) (hc0 : l0.length ≤ c0) (h : flist_Check.f l0 = some r) :
  Calls Tryd.prog 12 #[.slice A0 l0.length c0] w fun e w' => e = .returned (.int .i64 r) ∧ Below w.heap.size w w' := by
 unfold flist_Check.f at h
 by_cases hL : light20 l0
 ·rw [if_pos hL] at h
  have hn := hL.1
  exact flist_Check_h.calls 3010000 A0 c0 l0 r w hr0 hL (by rw [← h]; exact fcheck_l l0 hL l0.length 0 3010000 0 (by omega) (by omega) (by omega) (by omega) (by omega))
 rw [if_neg hL] at h
 exact absurd h (by simp)
end Go.Proofs.YtcdmgdegohcmhaaDoor.PA
