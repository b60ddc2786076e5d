/- flist.like by its contract. -/
import Derived.BigQuiet
import Derived.Carry
import Derived.Deep.QuietTactic
import Derived.Great.BuildSlice
import Derived.Maps.Keyed
import Derived.Maps.Own
import Derived.Maps.OwnOps
import Derived.Maps.Views
import Derived.Outline
import Derived.Test.YtcdmgdegohcmhaaDoorFSOG2
import Derived.Test.YtcdmgdegohcmhaaDoorFSOG1
namespace Go.Proofs.YtcdmgdegohcmhaaDoor.PA
open Go.RowKit Go.Proofs.YtcdmgdegohcmhaaDoorW.PrintWords Go.Proofs.YtcdmgdegohcmhaaDoorW.PrintLast Go.Proofs.YtcdmgdegohcmhaaDoorW.PrintMore
attribute [local go_sem] max2_int min2_int max_two min_two max_three min_three max_four min_four
set_option linter.unusedVariables false
set_option linter.unusedSimpArgs false
mutual
def flist_Check_h.l0 : Nat → List (S35) → Int → Int → Option (Int)
 | 0, _, _, _ => none
 | k + 1, x0, x3, x4 => if x4 < (x0.length : Int) then (if 0 ≤ x4 then ((flist_alone.f k ((rd_T35 x0 x4).f0) ((rd_T35 x0 x4).f1) ((rd_T35 x0 x4).f2) ((rd_T35 x0 x4).f3.f0) ((rd_T35 x0 x4).f3.f1) ((rd_T35 x0 x4).f3.f2) ((rd_T35 x0 x4).f3.f3) ((rd_T35 x0 x4).f3.f4) ((rd_T35 x0 x4).f4) ((rd_T35 x0 x4).f5) ((rd_T35 x0 x4).f6)).bind fun t103 => (if t103 = 0 then (if x4 > 0 then (if 0 ≤ (wrap64 (x4 - 1)) then (if (wrap64 (x4 - 1)) < (x0.length : Int) then (flist_Check_h.j1 k x0 x3 x4 (((rd_T35 x0 x4).f0).toList == ((rd_T35 x0 (wrap64 (x4 - 1))).f0).toList) ((rd_T35 x0 x4).f0) ((rd_T35 x0 x4).f1) ((rd_T35 x0 x4).f2) ((rd_T35 x0 x4).f3.f0) ((rd_T35 x0 x4).f3.f1) ((rd_T35 x0 x4).f3.f2) ((rd_T35 x0 x4).f3.f3) ((rd_T35 x0 x4).f3.f4) ((rd_T35 x0 x4).f4) ((rd_T35 x0 x4).f5) ((rd_T35 x0 x4).f6)) else (none)) else (none)) else (flist_Check_h.j1 k x0 x3 x4 false ((rd_T35 x0 x4).f0) ((rd_T35 x0 x4).f1) ((rd_T35 x0 x4).f2) ((rd_T35 x0 x4).f3.f0) ((rd_T35 x0 x4).f3.f1) ((rd_T35 x0 x4).f3.f2) ((rd_T35 x0 x4).f3.f3) ((rd_T35 x0 x4).f3.f4) ((rd_T35 x0 x4).f4) ((rd_T35 x0 x4).f5) ((rd_T35 x0 x4).f6))) else (some t103))) else (none)) else (some 0)
def flist_Check_h.j1 : Nat → List (S35) → Int → Int → Bool → ByteArray → Int → Int → Int → Int → Int → Int → Int → ByteArray → ByteArray → Int → Option (Int)
 | 0, _, _, _, _, _, _, _, _, _, _, _, _, _, _, _ => none
 | k + 1, x0, x3, x4, x37, x103000, x103001, x103002, x103003, x103004, x103005, x103006, x103007, x103008, x103009, x103010 => if x37 = true then (some 11) else (if x4 > 0 then (if 0 ≤ (wrap64 (x4 - 1)) then (if (wrap64 (x4 - 1)) < (x0.length : Int) then ((path_Less.f k x103000 ((rd_T35 x0 (wrap64 (x4 - 1))).f0)).bind fun t106 => (flist_Check_h.j2 k x0 x3 x4 t106 x103000 x103001 x103002 x103003 x103004 x103005 x103006 x103007 x103008 x103009 x103010)) else (none)) else (none)) else (flist_Check_h.j2 k x0 x3 x4 false x103000 x103001 x103002 x103003 x103004 x103005 x103006 x103007 x103008 x103009 x103010))
def flist_Check_h.j2 : Nat → List (S35) → Int → Int → Bool → ByteArray → Int → Int → Int → Int → Int → Int → Int → ByteArray → ByteArray → Int → Option (Int)
 | 0, _, _, _, _, _, _, _, _, _, _, _, _, _, _, _ => none
 | k + 1, x0, x3, x4, x50, x103000, x103001, x103002, x103003, x103004, x103005, x103006, x103007, x103008, x103009, x103010 => if x50 = true then (some 3) else ((path_Parent.f k x103000).bind fun t107 => (if dirsB (x0.take x4.toNat) t107 = false then (some 12) else (if x103010 > (wrap64 (x3 + 1)) then (some 5) else (flist_Check_h.l0 k x0 (mx x3 x103010) (wrap64 (x4 + 1))))))
end
theorem parent_size (k : Nat) (a t : ByteArray) (h : path_Parent.f k a = some t) : t.size ≤ a.size := by
 unfold path_Parent.f at h
 obtain ⟨t101, _, h⟩ := Option.bind_eq_some_iff.mp h
 by_cases h1 : 0 ≤ mx t101 0
 ·rw [if_pos h1] at h
  by_cases h2 : mx t101 0 ≤ (a.size : Int)
  ·rw [if_pos h2] at h
   obtain rfl := Option.some.inj h
   rw [ByteArray.size_extract]
   omega
  ·rw [if_neg h2] at h
   exact absurd h (by simp)
 ·rw [if_neg h1] at h
  exact absurd h (by simp)
theorem take_rd35 (L : List S35) (i : Int) (h0 : 0 ≤ i) (h1 : i < (L.length : Int)) (h2 : L.length ≤ 2500) : L.take (wrap64 (i + 1)).toNat = L.take i.toNat ++ [rd_T35 L i] := by
 obtain ⟨n, rfl⟩ : ∃ n : Nat, i = (n : Int) := ⟨i.toNat, by omega⟩
 have hn : n < L.length := by omega
 rw [show wrap64 ((n : Int) + 1) = ((n + 1 : Nat) : Int) by rw [wr64 _ (by omega) (by omega)]; rfl, Int.toNat_natCast, Int.toNat_natCast, rd35_get L n hn, List.take_succ_eq_append_getElem hn]
theorem rd35_mem (L : List S35) (i : Int) (h0 : 0 ≤ i) (h1 : i < (L.length : Int)) : rd_T35 L i ∈ L := by
 obtain ⟨n, rfl⟩ : ∃ n : Nat, i = (n : Int) := ⟨i.toNat, by omega⟩
 rw [rd35_get L n (by omega)]
 exact List.getElem_mem _
theorem MapB.drew {w wr : World} {mb : Nat} {P : List S35} (h : MapB w wr mb P) : MapB w wr.drew mb P := h.heap rfl
def flist_Check_h.T9 : Bool × List (List Nat × List Nat) := (true, [([], []), ([0], [0]), ([1], [1]), ([2], [2]), ([3, 2], [2, 3]), ([2], [2]), ([2], [2]), ([6, 2], [2, 6]), ([5, 7, 2], [2, 5, 7]), ([8, 2], [2, 8]), ([9, 2], [2, 9]), ([4, 10, 2], [2, 4, 10]), ([2, 11], [2, 11])])
def flist_Check_h.B9 : List Nat := [0, 1, 3, 7, 15, 7, 7, 71, 231, 487, 999, 2047, 4095]
theorem flist_Check_h.tab9 : rtab .any (opsOf Tryd.f12 9) = flist_Check_h.T9 := by kernel_rfl
theorem flist_Check_h.bits9 : waitsOk flist_Check_h.T9.2 flist_Check_h.B9 = true := by kernel_rfl
def flist_Check_h.T11 : Bool × List (List Nat × List Nat) := (true, [([], []), ([0], [0]), ([1], [1]), ([2], [2]), ([3, 2], [2, 3]), ([2], [2]), ([2], [2]), ([6, 2], [2, 6]), ([5, 7, 2], [2, 5, 7]), ([8, 2], [2, 8]), ([9, 2], [2, 9]), ([4, 10, 2, 2], [2, 4, 10]), ([2, 11], [2, 11])])
def flist_Check_h.B11 : List Nat := [0, 1, 3, 7, 15, 7, 7, 71, 231, 487, 999, 2047, 4095]
theorem flist_Check_h.tab11 : rtab .any (opsOf Tryd.f12 11) = flist_Check_h.T11 := by kernel_rfl
theorem flist_Check_h.bits11 : waitsOk flist_Check_h.T11.2 flist_Check_h.B11 = true := by kernel_rfl
set_option maxHeartbeats 4000000 in
set_option maxRecDepth 100000 in
theorem flist_Check_h.calls (k : Nat) (A0 : Option Addr) (c0 : Nat) (l0 : List (S35)) (r : Int) (w : World) (hr0 : Kd.C k35 w A0 l0.length l0) (hL : light20 l0) (h : flist_Check_h.l0 k l0 0 0 = some r) :
  Calls Tryd.prog 12 #[.slice A0 l0.length c0] w fun e w' => e = .returned (.int .i64 r) ∧ Below w.heap.size w w' := by
 have hu35 := Tryd.underlying35
 have HR0 := Aside0.mk hr0
 have HL := Aside0.mk hL
 clear hr0 hL
 have H' := Aside0.mk h
 clear h
 obtain ⟨w1, hput, hm, hb⟩ := MapB.start w
 have HB := Aside0.mk hb
 have HM := Aside0.mk hm
 clear hb hm
 have hmk : ∀ W : World, (Instr.makeMap 48 none).run Tryd.prog W = .ok (.map (some W.heap.size)) (W.alloc (.map #[] 0)) := fun W => run_makeMap 48 W
 go_enter Tryd.func12, Tryd.ntmps12
 go_wp2
 go_loopg [4, 12] k (fun kq v4 v12 w' => ∃ (x3_1 : Int) (x4_1 : Int), v4 = .int .i64 x3_1 ∧ v12 = .int .i64 x4_1 ∧ Aside0 (flist_Check_h.l0 kq l0 x3_1 x4_1 = some r) ∧ Aside0 (kq ≤ k) ∧ Aside0 (Below w.heap.size w w') ∧ Aside0 (MapB w w' w.heap.size (l0.take x4_1.toNat)))
 case atStart => exact ⟨(0), (0), (by first | rfl | (simp; done)), (by first | rfl | (simp; done)), H', ⟨Nat.le_refl _⟩, ⟨HB.out⟩, ⟨HM.out⟩⟩
 case round =>
  clear H'
  try clear c1
  obtain ⟨x3_1, x4_1, rfl, rfl, HA, HK1, HB, HM⟩ := hrel
  cases gk with
  | zero => exact absurd HA.out (by simp [flist_Check_h.l0])
  | succ k1 =>
   have H := HA.out
   clear HA
   simp only [flist_Check_h.l0] at H
   by_cases c2 : x4_1 < (l0.length : Int)
   ·rw [if_pos c2] at H
    have c2b0 : decide (x4_1 < (l0.length : Int)) = true := decide_eq_true c2
    clear c2
    by_cases c3 : 0 ≤ x4_1
    ·rw [if_pos c3] at H
     have c3b0 : decide (0 ≤ x4_1) = true := decide_eq_true c3
     clear c3
     replace H := Option.bind_eq_some_iff.mp H
     obtain ⟨t103, A40, H⟩ := H
     replace H : (if t103 = 0 then (if x4_1 > 0 then (if 0 ≤ (wrap64 (x4_1 - 1)) then (if (wrap64 (x4_1 - 1)) < (l0.length : Int) then (flist_Check_h.j1 k1 l0 x3_1 x4_1 (((rd_T35 l0 x4_1).f0).toList == ((rd_T35 l0 (wrap64 (x4_1 - 1))).f0).toList) ((rd_T35 l0 x4_1).f0) ((rd_T35 l0 x4_1).f1) ((rd_T35 l0 x4_1).f2) ((rd_T35 l0 x4_1).f3.f0) ((rd_T35 l0 x4_1).f3.f1) ((rd_T35 l0 x4_1).f3.f2) ((rd_T35 l0 x4_1).f3.f3) ((rd_T35 l0 x4_1).f3.f4) ((rd_T35 l0 x4_1).f4) ((rd_T35 l0 x4_1).f5) ((rd_T35 l0 x4_1).f6)) else (none)) else (none)) else (flist_Check_h.j1 k1 l0 x3_1 x4_1 false ((rd_T35 l0 x4_1).f0) ((rd_T35 l0 x4_1).f1) ((rd_T35 l0 x4_1).f2) ((rd_T35 l0 x4_1).f3.f0) ((rd_T35 l0 x4_1).f3.f1) ((rd_T35 l0 x4_1).f3.f2) ((rd_T35 l0 x4_1).f3.f3) ((rd_T35 l0 x4_1).f3.f4) ((rd_T35 l0 x4_1).f4) ((rd_T35 l0 x4_1).f5) ((rd_T35 l0 x4_1).f6))) else (some t103)) = some r := H
     have A4 := Aside0.mk A40
     clear A40
     by_cases c5 : t103 = 0
     ·rw [if_pos c5] at H
      have c5b0 : (t103 == 0) = true := beq_iff_eq.mpr c5
      have c5b1 : (t103 != 0) = false := bne_eq_false_iff_eq.mpr c5
      clear c5
      have HC6 := Aside0.mk H
      clear H
      have p101 : 0 ≤ (x4_1 : Int) := of_decide_eq_true (by first | (with_reducible assumption) | assumption)
      have q101 : x4_1 < (l0.length : Int) := of_decide_eq_true (by first | (with_reducible assumption) | assumption)
      obtain ⟨ad101, e101, hx101_0, hx101_1, hx101_2, hx101_3, hx101_4, hx101_5, hx101_6, hx101_7, hx101_8, hx101_9, hx101_10⟩ := at_T35 HR0.out x4_1 p101 q101
      cases e101
      replace hx101_0 := (HB.out.cell (World.block_lt_of_cell? w _ hx101_0)).trans hx101_0
      replace hx101_1 := (HB.out.cell (World.block_lt_of_cell? w _ hx101_1)).trans hx101_1
      replace hx101_2 := (HB.out.cell (World.block_lt_of_cell? w _ hx101_2)).trans hx101_2
      replace hx101_3 := (HB.out.cell (World.block_lt_of_cell? w _ hx101_3)).trans hx101_3
      replace hx101_4 := (HB.out.cell (World.block_lt_of_cell? w _ hx101_4)).trans hx101_4
      replace hx101_5 := (HB.out.cell (World.block_lt_of_cell? w _ hx101_5)).trans hx101_5
      replace hx101_6 := (HB.out.cell (World.block_lt_of_cell? w _ hx101_6)).trans hx101_6
      replace hx101_7 := (HB.out.cell (World.block_lt_of_cell? w _ hx101_7)).trans hx101_7
      replace hx101_8 := (HB.out.cell (World.block_lt_of_cell? w _ hx101_8)).trans hx101_8
      replace hx101_9 := (HB.out.cell (World.block_lt_of_cell? w _ hx101_9)).trans hx101_9
      replace hx101_10 := (HB.out.cell (World.block_lt_of_cell? w _ hx101_10)).trans hx101_10
      have hIN := Aside0.mk (And.intro p101 q101)
      replace p101 := eq_true p101
      replace q101 := eq_true q101
      go_upto_region 9 with (first | ((with_reducible refine gate_dst (N := 6) rfl ?_); refine box_event ?hg (N := 6) ?hd (cs := #[.string (⟨#[]⟩ : ByteArray), .int .i64 0, .int .i64 0, .int .i64 0, .int .i64 0, .int .i64 0, .int .i64 0, .int .i64 0, .string (⟨#[]⟩ : ByteArray), .string (⟨#[]⟩ : ByteArray), .int .i64 0]) (t := 35) ?hr ?_; (case hd => rfl); (case hg => rfl); (case hr => first | (go_simp; done) | (go_simp; rfl)); intro gb102 hg w7 hbox hb; have n0_ := Aside0.mk (below_step (by repeat (first | (with_reducible first | exact HB.out | apply below_alloc | apply pw_below_drewN | apply below_drew1) | exact HB.out)) hb); have n1_ := Aside0.mk (hbox); have n8_ := Aside0.mk ((by rw [hg]; exact Nat.ne_of_lt HM.out.lt) : w.heap.size ≠ gb102); have n9_ := Aside0.mk (MapB.step HM.out hb); clear HM; have HM := n9_; have NE102 := n8_; clear n8_ n9_; have n2_ := Aside0.mk ((by rw [hg]; exact (below_size (by repeat (first | (with_reducible first | exact HB.out | apply below_alloc | apply pw_below_drewN | apply below_drew1) | exact HB.out))) : w.heap.size ≤ gb102)); have n3_ := Aside0.mk ((by rw [hg]; exact (below_size (by repeat (first | (with_reducible first | exact HB.out | apply below_alloc | apply pw_below_drewN | apply below_drew1) | exact HB.out))) : w.heap.size ≤ gb102)); clear HB; have HB := n0_; have BK102 := n1_; have GW102 := n2_; have GE102 := n3_; clear n0_ n1_ n2_ n3_; clear hb hbox hg; have hcz8_0 : w7.cell? ⟨gb102, 0, none⟩ = some (.string (⟨#[]⟩ : ByteArray)) := (blk_cell BK102.out 0).trans rfl; have hcz8_1 : w7.cell? ⟨gb102, 1, none⟩ = some (.int .i64 0) := (blk_cell BK102.out 1).trans rfl; have hcz8_2 : w7.cell? ⟨gb102, 2, none⟩ = some (.int .i64 0) := (blk_cell BK102.out 2).trans rfl; have hcz8_3 : w7.cell? ⟨gb102, 3, none⟩ = some (.int .i64 0) := (blk_cell BK102.out 3).trans rfl; have hcz8_4 : w7.cell? ⟨gb102, 4, none⟩ = some (.int .i64 0) := (blk_cell BK102.out 4).trans rfl; have hcz8_5 : w7.cell? ⟨gb102, 5, none⟩ = some (.int .i64 0) := (blk_cell BK102.out 5).trans rfl; have hcz8_6 : w7.cell? ⟨gb102, 6, none⟩ = some (.int .i64 0) := (blk_cell BK102.out 6).trans rfl; have hcz8_7 : w7.cell? ⟨gb102, 7, none⟩ = some (.int .i64 0) := (blk_cell BK102.out 7).trans rfl; have hcz8_8 : w7.cell? ⟨gb102, 8, none⟩ = some (.string (⟨#[]⟩ : ByteArray)) := (blk_cell BK102.out 8).trans rfl; have hcz8_9 : w7.cell? ⟨gb102, 9, none⟩ = some (.string (⟨#[]⟩ : ByteArray)) := (blk_cell BK102.out 9).trans rfl; have hcz8_10 : w7.cell? ⟨gb102, 10, none⟩ = some (.int .i64 0) := (blk_cell BK102.out 10).trans rfl; have hfz8_0 := blk_frozen BK102.out 0; have hfz8_1 := blk_frozen BK102.out 1; have hfz8_2 := blk_frozen BK102.out 2; have hfz8_3 := blk_frozen BK102.out 3; have hfz8_4 := blk_frozen BK102.out 4; have hfz8_5 := blk_frozen BK102.out 5; have hfz8_6 := blk_frozen BK102.out 6; have hfz8_7 := blk_frozen BK102.out 7; have hfz8_8 := blk_frozen BK102.out 8; have hfz8_9 := blk_frozen BK102.out 9; have hfz8_10 := blk_frozen BK102.out 10) | ((with_reducible refine gate_callee (f := 28) rfl ?_); refine goesL_ (some 18) rfl rfl Tryd.func28 (by kernel_rfl) rfl #[.agg #[.string ((rd_T35 l0 x4_1).f0), .int .i64 ((rd_T35 l0 x4_1).f1), .int .i64 ((rd_T35 l0 x4_1).f2), .int .i64 ((rd_T35 l0 x4_1).f3.f0), .int .i64 ((rd_T35 l0 x4_1).f3.f1), .int .i64 ((rd_T35 l0 x4_1).f3.f2), .int .i64 ((rd_T35 l0 x4_1).f3.f3), .int .i64 ((rd_T35 l0 x4_1).f3.f4), .string ((rd_T35 l0 x4_1).f4), .string ((rd_T35 l0 x4_1).f5), .int .i64 ((rd_T35 l0 x4_1).f6)]] rfl (by (try simp only [List.map_toArray, List.map_cons, List.map_nil]); first | done | rfl | (simp only [List.length_drop, List.length_take]; rfl)) ?_; (with_reducible refine (flist_alone.calls k1 ((rd_T35 l0 x4_1).f0) ((rd_T35 l0 x4_1).f1) ((rd_T35 l0 x4_1).f2) ((rd_T35 l0 x4_1).f3.f0) ((rd_T35 l0 x4_1).f3.f1) ((rd_T35 l0 x4_1).f3.f2) ((rd_T35 l0 x4_1).f3.f3) ((rd_T35 l0 x4_1).f3.f4) ((rd_T35 l0 x4_1).f4) ((rd_T35 l0 x4_1).f5) ((rd_T35 l0 x4_1).f6) t103 _ A4.out).mono ?_); rintro e w9 ⟨rfl, hb⟩; refine ⟨_, rfl, ?_⟩; have n0_ := Aside0.mk (blk_below (g := gb102) (o := .cells #[.string ((rd_T35 l0 x4_1).f0), .int .i64 ((rd_T35 l0 x4_1).f1), .int .i64 ((rd_T35 l0 x4_1).f2), .int .i64 ((rd_T35 l0 x4_1).f3.f0), .int .i64 ((rd_T35 l0 x4_1).f3.f1), .int .i64 ((rd_T35 l0 x4_1).f3.f2), .int .i64 ((rd_T35 l0 x4_1).f3.f3), .int .i64 ((rd_T35 l0 x4_1).f3.f4), .string ((rd_T35 l0 x4_1).f4), .string ((rd_T35 l0 x4_1).f5), .int .i64 ((rd_T35 l0 x4_1).f6)] 35 (0, 0)) (by (with_reducible repeat (first | refine blk_drewN ?_ _ | refine blk_drew ?_ | refine blk_alloc ?_ _)); refine blk_put (cs := #[.string ((rd_T35 l0 x4_1).f0), .int .i64 ((rd_T35 l0 x4_1).f1), .int .i64 ((rd_T35 l0 x4_1).f2), .int .i64 ((rd_T35 l0 x4_1).f3.f0), .int .i64 ((rd_T35 l0 x4_1).f3.f1), .int .i64 ((rd_T35 l0 x4_1).f3.f2), .int .i64 ((rd_T35 l0 x4_1).f3.f3), .int .i64 ((rd_T35 l0 x4_1).f3.f4), .string ((rd_T35 l0 x4_1).f4), .string ((rd_T35 l0 x4_1).f5), .int .i64 0]) ?_ 10 _ rfl; (with_reducible repeat (first | refine blk_drewN ?_ _ | refine blk_drew ?_ | refine blk_alloc ?_ _)); refine blk_put (cs := #[.string ((rd_T35 l0 x4_1).f0), .int .i64 ((rd_T35 l0 x4_1).f1), .int .i64 ((rd_T35 l0 x4_1).f2), .int .i64 ((rd_T35 l0 x4_1).f3.f0), .int .i64 ((rd_T35 l0 x4_1).f3.f1), .int .i64 ((rd_T35 l0 x4_1).f3.f2), .int .i64 ((rd_T35 l0 x4_1).f3.f3), .int .i64 ((rd_T35 l0 x4_1).f3.f4), .string ((rd_T35 l0 x4_1).f4), .string (⟨#[]⟩ : ByteArray), .int .i64 0]) ?_ 9 _ rfl; (with_reducible repeat (first | refine blk_drewN ?_ _ | refine blk_drew ?_ | refine blk_alloc ?_ _)); refine blk_put (cs := #[.string ((rd_T35 l0 x4_1).f0), .int .i64 ((rd_T35 l0 x4_1).f1), .int .i64 ((rd_T35 l0 x4_1).f2), .int .i64 ((rd_T35 l0 x4_1).f3.f0), .int .i64 ((rd_T35 l0 x4_1).f3.f1), .int .i64 ((rd_T35 l0 x4_1).f3.f2), .int .i64 ((rd_T35 l0 x4_1).f3.f3), .int .i64 ((rd_T35 l0 x4_1).f3.f4), .string (⟨#[]⟩ : ByteArray), .string (⟨#[]⟩ : ByteArray), .int .i64 0]) ?_ 8 _ rfl; (with_reducible repeat (first | refine blk_drewN ?_ _ | refine blk_drew ?_ | refine blk_alloc ?_ _)); refine blk_put (cs := #[.string ((rd_T35 l0 x4_1).f0), .int .i64 ((rd_T35 l0 x4_1).f1), .int .i64 ((rd_T35 l0 x4_1).f2), .int .i64 ((rd_T35 l0 x4_1).f3.f0), .int .i64 ((rd_T35 l0 x4_1).f3.f1), .int .i64 ((rd_T35 l0 x4_1).f3.f2), .int .i64 ((rd_T35 l0 x4_1).f3.f3), .int .i64 0, .string (⟨#[]⟩ : ByteArray), .string (⟨#[]⟩ : ByteArray), .int .i64 0]) ?_ 7 _ rfl; (with_reducible repeat (first | refine blk_drewN ?_ _ | refine blk_drew ?_ | refine blk_alloc ?_ _)); refine blk_put (cs := #[.string ((rd_T35 l0 x4_1).f0), .int .i64 ((rd_T35 l0 x4_1).f1), .int .i64 ((rd_T35 l0 x4_1).f2), .int .i64 ((rd_T35 l0 x4_1).f3.f0), .int .i64 ((rd_T35 l0 x4_1).f3.f1), .int .i64 ((rd_T35 l0 x4_1).f3.f2), .int .i64 0, .int .i64 0, .string (⟨#[]⟩ : ByteArray), .string (⟨#[]⟩ : ByteArray), .int .i64 0]) ?_ 6 _ rfl; (with_reducible repeat (first | refine blk_drewN ?_ _ | refine blk_drew ?_ | refine blk_alloc ?_ _)); refine blk_put (cs := #[.string ((rd_T35 l0 x4_1).f0), .int .i64 ((rd_T35 l0 x4_1).f1), .int .i64 ((rd_T35 l0 x4_1).f2), .int .i64 ((rd_T35 l0 x4_1).f3.f0), .int .i64 ((rd_T35 l0 x4_1).f3.f1), .int .i64 0, .int .i64 0, .int .i64 0, .string (⟨#[]⟩ : ByteArray), .string (⟨#[]⟩ : ByteArray), .int .i64 0]) ?_ 5 _ rfl; (with_reducible repeat (first | refine blk_drewN ?_ _ | refine blk_drew ?_ | refine blk_alloc ?_ _)); refine blk_put (cs := #[.string ((rd_T35 l0 x4_1).f0), .int .i64 ((rd_T35 l0 x4_1).f1), .int .i64 ((rd_T35 l0 x4_1).f2), .int .i64 ((rd_T35 l0 x4_1).f3.f0), .int .i64 0, .int .i64 0, .int .i64 0, .int .i64 0, .string (⟨#[]⟩ : ByteArray), .string (⟨#[]⟩ : ByteArray), .int .i64 0]) ?_ 4 _ rfl; (with_reducible repeat (first | refine blk_drewN ?_ _ | refine blk_drew ?_ | refine blk_alloc ?_ _)); refine blk_put (cs := #[.string ((rd_T35 l0 x4_1).f0), .int .i64 ((rd_T35 l0 x4_1).f1), .int .i64 ((rd_T35 l0 x4_1).f2), .int .i64 0, .int .i64 0, .int .i64 0, .int .i64 0, .int .i64 0, .string (⟨#[]⟩ : ByteArray), .string (⟨#[]⟩ : ByteArray), .int .i64 0]) ?_ 3 _ rfl; (with_reducible repeat (first | refine blk_drewN ?_ _ | refine blk_drew ?_ | refine blk_alloc ?_ _)); refine blk_put (cs := #[.string ((rd_T35 l0 x4_1).f0), .int .i64 ((rd_T35 l0 x4_1).f1), .int .i64 0, .int .i64 0, .int .i64 0, .int .i64 0, .int .i64 0, .int .i64 0, .string (⟨#[]⟩ : ByteArray), .string (⟨#[]⟩ : ByteArray), .int .i64 0]) ?_ 2 _ rfl; (with_reducible repeat (first | refine blk_drewN ?_ _ | refine blk_drew ?_ | refine blk_alloc ?_ _)); refine blk_put (cs := #[.string ((rd_T35 l0 x4_1).f0), .int .i64 0, .int .i64 0, .int .i64 0, .int .i64 0, .int .i64 0, .int .i64 0, .int .i64 0, .string (⟨#[]⟩ : ByteArray), .string (⟨#[]⟩ : ByteArray), .int .i64 0]) ?_ 1 _ rfl; (with_reducible repeat (first | refine blk_drewN ?_ _ | refine blk_drew ?_ | refine blk_alloc ?_ _)); refine blk_put (cs := #[.string (⟨#[]⟩ : ByteArray), .int .i64 0, .int .i64 0, .int .i64 0, .int .i64 0, .int .i64 0, .int .i64 0, .int .i64 0, .string (⟨#[]⟩ : ByteArray), .string (⟨#[]⟩ : ByteArray), .int .i64 0]) ?_ 0 _ rfl; (with_reducible repeat (first | refine blk_drewN ?_ _ | refine blk_drew ?_ | refine blk_alloc ?_ _)); exact BK102.out) hb); have n1_ := Aside0.mk (below_step (by repeat (first | (with_reducible first | exact HB.out | apply below_alloc | apply pw_below_drewN | apply below_drew1 | refine below_set ?_ GE102.out) | exact HB.out)) hb); have n9_ := Aside0.mk (MapB.step (w := w) (mb := w.heap.size) (P := l0.take x4_1.toNat) (by (with_reducible repeat (refine MapB.set ?_ NE102.out)); with_reducible exact HM.out) hb); clear HM; have HM := n9_; clear n9_; clear BK102; clear HB; have BK102 := n0_; have HB := n1_; clear n0_ n1_; (try clear hb); (try clear hb2); (try clear hk); (try clear hi)))
      (try simp only [Act.put, List.setIfInBounds_toArray, List.set_cons_zero, List.set_cons_succ])
      go_cut [34] (fun v34 wc => ∃ (kq : Nat) (x37_5 : Bool), v34 = .bool x37_5 ∧ Aside0 (flist_Check_h.j1 kq l0 x3_1 x4_1 x37_5 ((rd_T35 l0 x4_1).f0) ((rd_T35 l0 x4_1).f1) ((rd_T35 l0 x4_1).f2) ((rd_T35 l0 x4_1).f3.f0) ((rd_T35 l0 x4_1).f3.f1) ((rd_T35 l0 x4_1).f3.f2) ((rd_T35 l0 x4_1).f3.f3) ((rd_T35 l0 x4_1).f3.f4) ((rd_T35 l0 x4_1).f4) ((rd_T35 l0 x4_1).f5) ((rd_T35 l0 x4_1).f6) = some r) ∧ Aside0 (kq ≤ k1) ∧ Aside0 (wc.heap[gb102]? = some (.cells #[.string ((rd_T35 l0 x4_1).f0), .int .i64 ((rd_T35 l0 x4_1).f1), .int .i64 ((rd_T35 l0 x4_1).f2), .int .i64 ((rd_T35 l0 x4_1).f3.f0), .int .i64 ((rd_T35 l0 x4_1).f3.f1), .int .i64 ((rd_T35 l0 x4_1).f3.f2), .int .i64 ((rd_T35 l0 x4_1).f3.f3), .int .i64 ((rd_T35 l0 x4_1).f3.f4), .string ((rd_T35 l0 x4_1).f4), .string ((rd_T35 l0 x4_1).f5), .int .i64 ((rd_T35 l0 x4_1).f6)] 35 (0, 0))) ∧ Aside0 (Below w.heap.size w wc) ∧ Aside0 (MapB w wc w.heap.size (l0.take x4_1.toNat)))
      case first =>
       have H := HC6.out
       clear HC6
       by_cases c10 : x4_1 > 0
       ·rw [if_pos c10] at H
        have c10b0 : decide (0 < x4_1) = true := decide_eq_true c10
        clear c10
        (first | rw [c10b0] | (simp only [i64_w, i32_w]; rw [c10b0]) | skip)
        obtain ⟨ji11, hji11⟩ : ∃ j_ : Int, (wrap64 (x4_1 - 1)) = j_ := ⟨_, rfl⟩
        replace H : (if 0 ≤ (ji11) then (if (ji11) < (l0.length : Int) then (flist_Check_h.j1 k1 l0 x3_1 x4_1 (((rd_T35 l0 x4_1).f0).toList == ((rd_T35 l0 (ji11)).f0).toList) ((rd_T35 l0 x4_1).f0) ((rd_T35 l0 x4_1).f1) ((rd_T35 l0 x4_1).f2) ((rd_T35 l0 x4_1).f3.f0) ((rd_T35 l0 x4_1).f3.f1) ((rd_T35 l0 x4_1).f3.f2) ((rd_T35 l0 x4_1).f3.f3) ((rd_T35 l0 x4_1).f3.f4) ((rd_T35 l0 x4_1).f4) ((rd_T35 l0 x4_1).f5) ((rd_T35 l0 x4_1).f6)) else (none)) else (none)) = some r := by first | (rw [hji11] at H; exact H) | (simp only [hji11] at H ⊢; exact H)
        have hji11w : (IntKind.i64.wrap (x4_1 - 1)) = ji11 := (i64_w _).trans hji11
        by_cases c12 : 0 ≤ (ji11)
        ·rw [if_pos c12] at H
         have c12b0 : decide (0 ≤ (ji11)) = true := decide_eq_true c12
         clear c12
         by_cases c13 : (ji11) < (l0.length : Int)
         ·rw [if_pos c13] at H
          have c13b0 : decide ((ji11) < (l0.length : Int)) = true := decide_eq_true c13
          clear c13
          have H' := Aside0.mk H
          clear H
          try go_wp2
          have n0_ := Aside0.mk (blk_drew BK102.out)
          have n1_ := Aside0.mk (below_drew1 HB.out)
          have n9_ := Aside0.mk (MapB.drew HM.out)
          clear BK102
          clear HB
          have BK102 := n0_
          have HB := n1_
          clear HM
          have HM := n9_
          clear n9_
          clear n0_ n1_
          have p104 : 0 ≤ ((ji11) : Int) := of_decide_eq_true (by first | (with_reducible assumption) | assumption)
          have q104 : (ji11) < (l0.length : Int) := of_decide_eq_true (by first | (with_reducible assumption) | assumption)
          obtain ⟨ad104, e104, hx104_0, hx104_1, hx104_2, hx104_3, hx104_4, hx104_5, hx104_6, hx104_7, hx104_8, hx104_9, hx104_10⟩ := at_T35 HR0.out (ji11) p104 q104
          have hw104_10 := hx104_10
          have hw104_9 := hx104_9
          have hw104_8 := hx104_8
          have hw104_7 := hx104_7
          have hw104_6 := hx104_6
          have hw104_5 := hx104_5
          have hw104_4 := hx104_4
          have hw104_3 := hx104_3
          have hw104_2 := hx104_2
          have hw104_1 := hx104_1
          have hw104_0 := hx104_0
          obtain rfl : ad101 = ad104 := (by injection e104)
          replace hx104_0 := (HB.out.cell (World.block_lt_of_cell? w _ hx104_0)).trans hx104_0
          replace hx104_1 := (HB.out.cell (World.block_lt_of_cell? w _ hx104_1)).trans hx104_1
          replace hx104_2 := (HB.out.cell (World.block_lt_of_cell? w _ hx104_2)).trans hx104_2
          replace hx104_3 := (HB.out.cell (World.block_lt_of_cell? w _ hx104_3)).trans hx104_3
          replace hx104_4 := (HB.out.cell (World.block_lt_of_cell? w _ hx104_4)).trans hx104_4
          replace hx104_5 := (HB.out.cell (World.block_lt_of_cell? w _ hx104_5)).trans hx104_5
          replace hx104_6 := (HB.out.cell (World.block_lt_of_cell? w _ hx104_6)).trans hx104_6
          replace hx104_7 := (HB.out.cell (World.block_lt_of_cell? w _ hx104_7)).trans hx104_7
          replace hx104_8 := (HB.out.cell (World.block_lt_of_cell? w _ hx104_8)).trans hx104_8
          replace hx104_9 := (HB.out.cell (World.block_lt_of_cell? w _ hx104_9)).trans hx104_9
          replace hx104_10 := (HB.out.cell (World.block_lt_of_cell? w _ hx104_10)).trans hx104_10
          replace p104 := eq_true p104
          replace q104 := eq_true q104
          refine start_ (n := 13) (S := fun w' => w'.cell? ⟨gb102, 0, none⟩ = some (.string ((rd_T35 l0 x4_1).f0)) ∧ w'.cell? ⟨gb102, 1, none⟩ = some (.int .i64 ((rd_T35 l0 x4_1).f1)) ∧ w'.cell? ⟨gb102, 2, none⟩ = some (.int .i64 ((rd_T35 l0 x4_1).f2)) ∧ w'.cell? ⟨gb102, 3, none⟩ = some (.int .i64 ((rd_T35 l0 x4_1).f3.f0)) ∧ w'.cell? ⟨gb102, 4, none⟩ = some (.int .i64 ((rd_T35 l0 x4_1).f3.f1)) ∧ w'.cell? ⟨gb102, 5, none⟩ = some (.int .i64 ((rd_T35 l0 x4_1).f3.f2)) ∧ w'.cell? ⟨gb102, 6, none⟩ = some (.int .i64 ((rd_T35 l0 x4_1).f3.f3)) ∧ w'.cell? ⟨gb102, 7, none⟩ = some (.int .i64 ((rd_T35 l0 x4_1).f3.f4)) ∧ w'.cell? ⟨gb102, 8, none⟩ = some (.string ((rd_T35 l0 x4_1).f4)) ∧ w'.cell? ⟨gb102, 9, none⟩ = some (.string ((rd_T35 l0 x4_1).f5)) ∧ w'.cell? ⟨gb102, 10, none⟩ = some (.int .i64 ((rd_T35 l0 x4_1).f6)) ∧ w'.cell? (ad101.add (((ji11)).toNat * 11)) = some (.string ((rd_T35 l0 (ji11)).f0)) ∧ w'.cell? ⟨(ad101.add (((ji11)).toNat * 11)).block, (ad101.add (((ji11)).toNat * 11)).off + 1, none⟩ = some (.int .i64 ((rd_T35 l0 (ji11)).f1)) ∧ w'.cell? ⟨(ad101.add (((ji11)).toNat * 11)).block, (ad101.add (((ji11)).toNat * 11)).off + 2, none⟩ = some (.int .i64 ((rd_T35 l0 (ji11)).f2)) ∧ w'.cell? ⟨(ad101.add (((ji11)).toNat * 11)).block, (ad101.add (((ji11)).toNat * 11)).off + 3, none⟩ = some (.int .i64 ((rd_T35 l0 (ji11)).f3.f0)) ∧ w'.cell? ⟨(ad101.add (((ji11)).toNat * 11)).block, (ad101.add (((ji11)).toNat * 11)).off + 4, none⟩ = some (.int .i64 ((rd_T35 l0 (ji11)).f3.f1)) ∧ w'.cell? ⟨(ad101.add (((ji11)).toNat * 11)).block, (ad101.add (((ji11)).toNat * 11)).off + 5, none⟩ = some (.int .i64 ((rd_T35 l0 (ji11)).f3.f2)) ∧ w'.cell? ⟨(ad101.add (((ji11)).toNat * 11)).block, (ad101.add (((ji11)).toNat * 11)).off + 6, none⟩ = some (.int .i64 ((rd_T35 l0 (ji11)).f3.f3)) ∧ w'.cell? ⟨(ad101.add (((ji11)).toNat * 11)).block, (ad101.add (((ji11)).toNat * 11)).off + 7, none⟩ = some (.int .i64 ((rd_T35 l0 (ji11)).f3.f4)) ∧ w'.cell? ⟨(ad101.add (((ji11)).toNat * 11)).block, (ad101.add (((ji11)).toNat * 11)).off + 8, none⟩ = some (.string ((rd_T35 l0 (ji11)).f4)) ∧ w'.cell? ⟨(ad101.add (((ji11)).toNat * 11)).block, (ad101.add (((ji11)).toNat * 11)).off + 9, none⟩ = some (.string ((rd_T35 l0 (ji11)).f5)) ∧ w'.cell? ⟨(ad101.add (((ji11)).toNat * 11)).block, (ad101.add (((ji11)).toNat * 11)).off + 10, none⟩ = some (.int .i64 ((rd_T35 l0 (ji11)).f6))) (ds := []) #[false, false, false, false, false, false, false, false, false, false, false, false, false] (by kernel_rfl) rfl rfl ⟨(blk_cell BK102.out 0).trans rfl, (blk_cell BK102.out 1).trans rfl, (blk_cell BK102.out 2).trans rfl, (blk_cell BK102.out 3).trans rfl, (blk_cell BK102.out 4).trans rfl, (blk_cell BK102.out 5).trans rfl, (blk_cell BK102.out 6).trans rfl, (blk_cell BK102.out 7).trans rfl, (blk_cell BK102.out 8).trans rfl, (blk_cell BK102.out 9).trans rfl, (blk_cell BK102.out 10).trans rfl, ((HB.out.cell (World.block_lt_of_cell? w _ hw104_0)).trans hw104_0), ((HB.out.cell (World.block_lt_of_cell? w _ hw104_1)).trans hw104_1), ((HB.out.cell (World.block_lt_of_cell? w _ hw104_2)).trans hw104_2), ((HB.out.cell (World.block_lt_of_cell? w _ hw104_3)).trans hw104_3), ((HB.out.cell (World.block_lt_of_cell? w _ hw104_4)).trans hw104_4), ((HB.out.cell (World.block_lt_of_cell? w _ hw104_5)).trans hw104_5), ((HB.out.cell (World.block_lt_of_cell? w _ hw104_6)).trans hw104_6), ((HB.out.cell (World.block_lt_of_cell? w _ hw104_7)).trans hw104_7), ((HB.out.cell (World.block_lt_of_cell? w _ hw104_8)).trans hw104_8), ((HB.out.cell (World.block_lt_of_cell? w _ hw104_9)).trans hw104_9), ((HB.out.cell (World.block_lt_of_cell? w _ hw104_10)).trans hw104_10)⟩ (fun hHeld => ?_); refine with_tabW flist_Check_h.tab9 flist_Check_h.bits9 (fun HT_ HW_ => ?_)
          generalize w9.drew = w14 at BK102 HB HM hx104_0 hx104_1 hx104_10 hx104_2 hx104_3 hx104_4 hx104_5 hx104_6 hx104_7 hx104_8 hx104_9 hHeld ⊢
          refine pure_ (i := 0) (N := some 22) (v := ?_) (a' := ?_) #[true, false, false, false, false, false, false, false, false, false, false, false, false] rfl rfl (any_of HT_.out (by kernel_rfl)) (fun _ _ _ h => h) (Or.inl ⟨by rfl, ?_⟩) ?_ ?_
          rotate_left
          ·intro w'
           go_simp
           with_reducible rfl
          rotate_left
          ·simp only [Act.put, List.setIfInBounds_toArray, List.set_cons_zero, List.set_cons_succ, i64_w, i32_w]
           rfl
          refine pure_ (i := 1) (N := some 23) (v := ?_) (a' := ?_) #[true, true, false, false, false, false, false, false, false, false, false, false, false] rfl rfl (any_of HT_.out (by kernel_rfl)) (fun _ _ _ h => h) (Or.inl ⟨by rfl, ?_⟩) ?_ ?_
          rotate_left
          ·intro w'
           go_simp
           with_reducible rfl
          rotate_left
          ·simp only [Act.put, List.setIfInBounds_toArray, List.set_cons_zero, List.set_cons_succ, i64_w, i32_w]
           rfl
          refine pure_ (i := 2) (N := some 24) (v := ?_) (a' := ?_) #[true, true, true, false, false, false, false, false, false, false, false, false, false] rfl rfl (any_of HT_.out (by kernel_rfl)) (fun _ _ _ h => h) (Or.inl ⟨by rfl, ?_⟩) ?_ ?_
          rotate_left
          ·intro w'
           go_simp
           with_reducible rfl
          rotate_left
          ·simp only [Act.put, List.setIfInBounds_toArray, List.set_cons_zero, List.set_cons_succ, i64_w, i32_w]
           rfl
          refine pure_ (i := 3) (N := some 25) (v := ?_) (a' := ?_) #[true, true, true, true, false, false, false, false, false, false, false, false, false] rfl rfl (any_of HT_.out (by kernel_rfl)) (fun _ _ _ h => h) (Or.inl ⟨by rfl, ?_⟩) ?_ ?_
          rotate_left
          ·intro w'
           go_simp
           with_reducible rfl
          rotate_left
          ·simp only [Act.put, List.setIfInBounds_toArray, List.set_cons_zero, List.set_cons_succ, i64_w, i32_w]
           rfl
          refine pure_ (i := 5) (N := some 27) (v := ?_) (a' := ?_) #[true, true, true, true, false, true, false, false, false, false, false, false, false] rfl rfl (any_of HT_.out (by kernel_rfl)) (fun _ _ _ h => h) (Or.inl ⟨by rfl, ?_⟩) ?_ ?_
          rotate_left
          ·intro w'
           go_simp
           with_reducible rfl
          rotate_left
          ·simp only [Act.put, List.setIfInBounds_toArray, List.set_cons_zero, List.set_cons_succ, i64_w, i32_w]
           rfl
          refine pure_ (i := 6) (N := some 28) (v := ?_) (a' := ?_) #[true, true, true, true, false, true, true, false, false, false, false, false, false] rfl rfl (any_of HT_.out (by kernel_rfl)) (fun _ _ _ h => h) (Or.inl ⟨by rfl, ?_⟩) ?_ ?_
          rotate_left
          ·intro w'
           go_simp
           with_reducible rfl
          rotate_left
          ·simp only [Act.put, List.setIfInBounds_toArray, List.set_cons_zero, List.set_cons_succ, i64_w, i32_w]
           rfl
          refine pure_ (i := 7) (N := some 29) (v := ?_) (a' := ?_) #[true, true, true, true, false, true, true, true, false, false, false, false, false] rfl rfl (any_of HT_.out (by kernel_rfl)) (fun _ _ _ h => h) (Or.inl ⟨by rfl, ?_⟩) ?_ ?_
          rotate_left
          ·intro w'
           go_simp
           with_reducible rfl
          rotate_left
          ·simp only [Act.put, List.setIfInBounds_toArray, List.set_cons_zero, List.set_cons_succ, i64_w, i32_w]
           rfl
          refine pure_ (i := 8) (N := some 30) (v := ?_) (a' := ?_) #[true, true, true, true, false, true, true, true, true, false, false, false, false] rfl rfl (any_of HT_.out (by kernel_rfl)) (fun _ _ _ h => h) (Or.inl ⟨by rfl, ?_⟩) ?_ ?_
          rotate_left
          ·intro w'
           go_simp
           with_reducible rfl
          rotate_left
          ·simp only [Act.put, List.setIfInBounds_toArray, List.set_cons_zero, List.set_cons_succ, i64_w, i32_w]
           rfl
          refine pure_ (i := 9) (N := some 31) (v := ?_) (a' := ?_) #[true, true, true, true, false, true, true, true, true, true, false, false, false] rfl rfl (any_of HT_.out (by kernel_rfl)) (fun _ _ _ h => h) (Or.inl ⟨by rfl, ?_⟩) ?_ ?_
          rotate_left
          ·intro w'
           go_simp
           with_reducible rfl
          rotate_left
          ·simp only [Act.put, List.setIfInBounds_toArray, List.set_cons_zero, List.set_cons_succ, i64_w, i32_w]
           rfl
          refine take_ (i := 4) (N := some 26) (v := ?_) (a' := ?_) #[true, true, true, true, true, true, true, true, true, true, false, false, false] rfl rfl (take_ofW HT_.out HW_.out (by kernel_rfl)) (fun _ _ _ h => h) (Or.inl ⟨by rfl, ?_⟩) hHeld ?_ ?_
          rotate_left
          ·rintro w' ⟨s0, s1, s2, s3, s4, s5, s6, s7, s8, s9, s10, s11, s12, s13, s14, s15, s16, s17, s18, s19, s20, s21⟩
           go_simp
           with_reducible rfl
          rotate_left
          ·simp only [Act.put, List.setIfInBounds_toArray, List.set_cons_zero, List.set_cons_succ, i64_w, i32_w]
           rfl
          refine take_ (i := 10) (N := some 32) (v := ?_) (a' := ?_) #[true, true, true, true, true, true, true, true, true, true, true, false, false] rfl rfl (take_ofW HT_.out HW_.out (by kernel_rfl)) (fun _ _ _ h => h) (Or.inl ⟨by rfl, ?_⟩) hHeld ?_ ?_
          rotate_left
          ·rintro w' ⟨s0, s1, s2, s3, s4, s5, s6, s7, s8, s9, s10, s11, s12, s13, s14, s15, s16, s17, s18, s19, s20, s21⟩
           go_simp
           with_reducible rfl
          rotate_left
          ·simp only [Act.put, List.setIfInBounds_toArray, List.set_cons_zero, List.set_cons_succ, i64_w, i32_w]
           rfl
          refine pure_ (i := 11) (N := some 33) (v := ?_) (a' := ?_) #[true, true, true, true, true, true, true, true, true, true, true, true, false] rfl rfl (any_of HT_.out (by kernel_rfl)) (fun _ _ _ h => h) (Or.inl ⟨by rfl, ?_⟩) ?_ ?_
          rotate_left
          ·intro w'
           go_simp
           with_reducible rfl
          rotate_left
          ·simp only [Act.put, List.setIfInBounds_toArray, List.set_cons_zero, List.set_cons_succ, i64_w, i32_w]
           rfl
          refine pure_ (i := 12) (N := some 34) (v := ?_) (a' := ?_) #[true, true, true, true, true, true, true, true, true, true, true, true, true] rfl rfl (any_of HT_.out (by kernel_rfl)) (fun _ _ _ h => h) (Or.inl ⟨by rfl, ?_⟩) ?_ ?_
          rotate_left
          ·intro w'
           go_simp
           with_reducible rfl
          rotate_left
          ·simp only [Act.put, List.setIfInBounds_toArray, List.set_cons_zero, List.set_cons_succ, i64_w, i32_w]
           rfl
          refine done_ (done_of HT_.out (by kernel_rfl)) ?_
          try go_wp2
          go_meet
          case rel => exact ⟨_, ((((rd_T35 l0 x4_1).f0).toList == ((rd_T35 l0 (ji11)).f0).toList)), (by first | rfl | (simp; done) | (simp only [← hji11] <;> (first | rfl | simp)) | (simp [*]; done)), H', ⟨by have := HK1.out; first | omega | exact Nat.le_refl _⟩, ⟨by (with_reducible repeat (first | refine blk_drewN ?_ _ | refine blk_drew ?_ | refine blk_alloc ?_ _)); exact BK102.out⟩, ⟨by repeat (first | (with_reducible first | exact HB.out | apply below_alloc | apply pw_below_drewN | apply below_drew1 | refine below_set ?_ GE102.out) | exact HB.out)⟩, ⟨by first | exact HM.out | exact MapB.heap HM.out rfl⟩⟩
         ·rw [if_neg c13] at H
          exact absurd H (by simp)
        ·rw [if_neg c12] at H
         exact absurd H (by simp)
       ·rw [if_neg c10] at H
        have c10b0 : decide (0 < x4_1) = false := decide_eq_false c10
        clear c10
        (first | rw [c10b0] | (simp only [i64_w, i32_w]; rw [c10b0]) | skip)
        have H' := Aside0.mk H
        clear H
        try go_wp2
        have n0_ := Aside0.mk (blk_drew BK102.out)
        have n1_ := Aside0.mk (below_drew1 HB.out)
        have n9_ := Aside0.mk (MapB.drew HM.out)
        clear BK102
        clear HB
        have BK102 := n0_
        have HB := n1_
        clear HM
        have HM := n9_
        clear n9_
        clear n0_ n1_
        refine start_ (n := 13) (S := fun w' => True) (ds := []) #[false, false, false, false, false, false, false, false, false, false, false, false, false] (by kernel_rfl) rfl rfl trivial (fun hHeld => ?_); refine with_tabW flist_Check_h.tab9 flist_Check_h.bits9 (fun HT_ HW_ => ?_)
        generalize w9.drew = w15 at BK102 HB HM hHeld ⊢
        refine pure_ (i := 0) (N := some 22) (v := ?_) (a' := ?_) #[true, false, false, false, false, false, false, false, false, false, false, false, false] rfl rfl (any_of HT_.out (by kernel_rfl)) (fun _ _ _ h => h) (Or.inl ⟨by rfl, ?_⟩) ?_ ?_
        rotate_left
        ·intro w'
         go_simp
         with_reducible rfl
        rotate_left
        ·simp only [Act.put, List.setIfInBounds_toArray, List.set_cons_zero, List.set_cons_succ, i64_w, i32_w]
         rfl
        refine pure_ (i := 1) (N := some 23) (v := ?_) (a' := ?_) #[true, true, false, false, false, false, false, false, false, false, false, false, false] rfl rfl (any_of HT_.out (by kernel_rfl)) (fun _ _ _ h => h) (Or.inl ⟨by rfl, ?_⟩) ?_ ?_
        rotate_left
        ·intro w'
         go_simp
         with_reducible rfl
        rotate_left
        ·simp only [Act.put, List.setIfInBounds_toArray, List.set_cons_zero, List.set_cons_succ, i64_w, i32_w]
         rfl
        refine pure_ (i := 2) (N := some 24) (v := ?_) (a' := ?_) #[true, true, true, false, false, false, false, false, false, false, false, false, false] rfl rfl (any_of HT_.out (by kernel_rfl)) (fun _ _ _ h => h) (Or.inl ⟨by rfl, ?_⟩) ?_ ?_
        rotate_left
        ·intro w'
         go_simp
         with_reducible rfl
        rotate_left
        ·simp only [Act.put, List.setIfInBounds_toArray, List.set_cons_zero, List.set_cons_succ, i64_w, i32_w]
         rfl
        refine pure_ (i := 3) (N := some 25) (v := undef) (a' := ?_) #[true, true, true, true, false, false, false, false, false, false, false, false, false] rfl rfl (any_of HT_.out (by kernel_rfl)) (fun _ _ _ h => h) (Or.inr ⟨by rfl, rfl⟩) ?_ ?_
        rotate_left
        ·simp only [Act.put, List.setIfInBounds_toArray, List.set_cons_zero, List.set_cons_succ, i64_w, i32_w]
         rfl
        refine pure_ (i := 4) (N := some 26) (v := undef) (a' := ?_) #[true, true, true, true, true, false, false, false, false, false, false, false, false] rfl rfl (any_of HT_.out (by kernel_rfl)) (fun _ _ _ h => h) (Or.inr ⟨by rfl, rfl⟩) ?_ ?_
        rotate_left
        ·simp only [Act.put, List.setIfInBounds_toArray, List.set_cons_zero, List.set_cons_succ, i64_w, i32_w]
         rfl
        refine pure_ (i := 5) (N := some 27) (v := undef) (a' := ?_) #[true, true, true, true, true, true, false, false, false, false, false, false, false] rfl rfl (any_of HT_.out (by kernel_rfl)) (fun _ _ _ h => h) (Or.inr ⟨by rfl, rfl⟩) ?_ ?_
        rotate_left
        ·simp only [Act.put, List.setIfInBounds_toArray, List.set_cons_zero, List.set_cons_succ, i64_w, i32_w]
         rfl
        refine pure_ (i := 6) (N := some 28) (v := undef) (a' := ?_) #[true, true, true, true, true, true, true, false, false, false, false, false, false] rfl rfl (any_of HT_.out (by kernel_rfl)) (fun _ _ _ h => h) (Or.inr ⟨by rfl, rfl⟩) ?_ ?_
        rotate_left
        ·simp only [Act.put, List.setIfInBounds_toArray, List.set_cons_zero, List.set_cons_succ, i64_w, i32_w]
         rfl
        refine pure_ (i := 7) (N := some 29) (v := undef) (a' := ?_) #[true, true, true, true, true, true, true, true, false, false, false, false, false] rfl rfl (any_of HT_.out (by kernel_rfl)) (fun _ _ _ h => h) (Or.inr ⟨by rfl, rfl⟩) ?_ ?_
        rotate_left
        ·simp only [Act.put, List.setIfInBounds_toArray, List.set_cons_zero, List.set_cons_succ, i64_w, i32_w]
         rfl
        refine pure_ (i := 8) (N := some 30) (v := undef) (a' := ?_) #[true, true, true, true, true, true, true, true, true, false, false, false, false] rfl rfl (any_of HT_.out (by kernel_rfl)) (fun _ _ _ h => h) (Or.inr ⟨by rfl, rfl⟩) ?_ ?_
        rotate_left
        ·simp only [Act.put, List.setIfInBounds_toArray, List.set_cons_zero, List.set_cons_succ, i64_w, i32_w]
         rfl
        refine pure_ (i := 9) (N := some 31) (v := undef) (a' := ?_) #[true, true, true, true, true, true, true, true, true, true, false, false, false] rfl rfl (any_of HT_.out (by kernel_rfl)) (fun _ _ _ h => h) (Or.inr ⟨by rfl, rfl⟩) ?_ ?_
        rotate_left
        ·simp only [Act.put, List.setIfInBounds_toArray, List.set_cons_zero, List.set_cons_succ, i64_w, i32_w]
         rfl
        refine pure_ (i := 10) (N := some 32) (v := undef) (a' := ?_) #[true, true, true, true, true, true, true, true, true, true, true, false, false] rfl rfl (any_of HT_.out (by kernel_rfl)) (fun _ _ _ h => h) (Or.inr ⟨by rfl, rfl⟩) ?_ ?_
        rotate_left
        ·simp only [Act.put, List.setIfInBounds_toArray, List.set_cons_zero, List.set_cons_succ, i64_w, i32_w]
         rfl
        refine pure_ (i := 11) (N := some 33) (v := undef) (a' := ?_) #[true, true, true, true, true, true, true, true, true, true, true, true, false] rfl rfl (any_of HT_.out (by kernel_rfl)) (fun _ _ _ h => h) (Or.inr ⟨by rfl, rfl⟩) ?_ ?_
        rotate_left
        ·simp only [Act.put, List.setIfInBounds_toArray, List.set_cons_zero, List.set_cons_succ, i64_w, i32_w]
         rfl
        refine pure_ (i := 12) (N := some 34) (v := ?_) (a' := ?_) #[true, true, true, true, true, true, true, true, true, true, true, true, true] rfl rfl (any_of HT_.out (by kernel_rfl)) (fun _ _ _ h => h) (Or.inl ⟨by rfl, ?_⟩) ?_ ?_
        rotate_left
        ·intro w'
         go_simp
         with_reducible rfl
        rotate_left
        ·simp only [Act.put, List.setIfInBounds_toArray, List.set_cons_zero, List.set_cons_succ, i64_w, i32_w]
         rfl
        refine done_ (done_of HT_.out (by kernel_rfl)) ?_
        try go_wp2
        go_meet
        case rel => exact ⟨_, (false), (by first | rfl | (simp; done) | (simp [*]; done)), H', ⟨by have := HK1.out; first | omega | exact Nat.le_refl _⟩, ⟨by (with_reducible repeat (first | refine blk_drewN ?_ _ | refine blk_drew ?_ | refine blk_alloc ?_ _)); exact BK102.out⟩, ⟨by repeat (first | (with_reducible first | exact HB.out | apply below_alloc | apply pw_below_drewN | apply below_drew1 | refine below_set ?_ GE102.out) | exact HB.out)⟩, ⟨by first | exact HM.out | exact MapB.heap HM.out rfl⟩⟩
      case rest =>
       clear HC6
       try clear c1
       try clear p1
       try clear q1
       try clear hx1
       try clear c2
       try clear c2b0
       try clear p2
       try clear c3
       try clear c3b0
       try clear c5
       try clear c5b0
       try clear c5b1
       try clear p6
       try clear c10
       try clear c10b0
       try clear p10
       try clear q10
       try clear hx10
       try clear c12
       try clear c12b0
       try clear c13
       try clear c13b0
       try clear hcz8_0
       try clear hcz8_1
       try clear hcz8_10
       try clear hcz8_2
       try clear hcz8_3
       try clear hcz8_4
       try clear hcz8_5
       try clear hcz8_6
       try clear hcz8_7
       try clear hcz8_8
       try clear hcz8_9
       try clear hfz8_0
       try clear hfz8_1
       try clear hfz8_10
       try clear hfz8_2
       try clear hfz8_3
       try clear hfz8_4
       try clear hfz8_5
       try clear hfz8_6
       try clear hfz8_7
       try clear hfz8_8
       try clear hfz8_9
       try clear hx101_0
       try clear hx101_1
       try clear hx101_10
       try clear hx101_2
       try clear hx101_3
       try clear hx101_4
       try clear hx101_5
       try clear hx101_6
       try clear hx101_7
       try clear hx101_8
       try clear hx101_9
       try clear hx104_0
       try clear hx104_1
       try clear hx104_10
       try clear hx104_2
       try clear hx104_3
       try clear hx104_4
       try clear hx104_5
       try clear hx104_6
       try clear hx104_7
       try clear hx104_8
       try clear hx104_9
       try clear p101
       try clear p104
       try clear q101
       try clear q104
       obtain ⟨kq, x37_5, rfl, HA, HJ5, BK102, HB, HM⟩ := hcut
       cases kq with
       | zero => exact absurd HA.out (by simp [flist_Check_h.j1])
       | succ kj5 =>
        have H := HA.out
        clear HA
        simp only [flist_Check_h.j1] at H
        by_cases c16 : x37_5 = true
        ·subst c16
         have H1 : (some 11) = some r := by rw [if_pos rfl] at H; exact H
         clear H
         have H := H1
         clear H1
         obtain rfl := Option.some.inj H
         go_wp2
         go_ret
         exact ⟨by first | rfl | (simp [errW_none, errW_some] <;> rfl) | (simp [*, errW_none, errW_some] <;> rfl), by repeat (first | (with_reducible first | exact HB.out | apply below_alloc | apply pw_below_drewN | apply below_drew1 | refine below_set ?_ GE102.out) | exact HB.out)⟩
        ·replace c16 := Bool.eq_false_iff.mpr c16
         subst c16
         have H1 : (if x4_1 > 0 then (if 0 ≤ (wrap64 (x4_1 - 1)) then (if (wrap64 (x4_1 - 1)) < (l0.length : Int) then ((path_Less.f kj5 ((rd_T35 l0 x4_1).f0) ((rd_T35 l0 (wrap64 (x4_1 - 1))).f0)).bind fun t106 => (flist_Check_h.j2 kj5 l0 x3_1 x4_1 t106 ((rd_T35 l0 x4_1).f0) ((rd_T35 l0 x4_1).f1) ((rd_T35 l0 x4_1).f2) ((rd_T35 l0 x4_1).f3.f0) ((rd_T35 l0 x4_1).f3.f1) ((rd_T35 l0 x4_1).f3.f2) ((rd_T35 l0 x4_1).f3.f3) ((rd_T35 l0 x4_1).f3.f4) ((rd_T35 l0 x4_1).f4) ((rd_T35 l0 x4_1).f5) ((rd_T35 l0 x4_1).f6))) else (none)) else (none)) else (flist_Check_h.j2 kj5 l0 x3_1 x4_1 false ((rd_T35 l0 x4_1).f0) ((rd_T35 l0 x4_1).f1) ((rd_T35 l0 x4_1).f2) ((rd_T35 l0 x4_1).f3.f0) ((rd_T35 l0 x4_1).f3.f1) ((rd_T35 l0 x4_1).f3.f2) ((rd_T35 l0 x4_1).f3.f3) ((rd_T35 l0 x4_1).f3.f4) ((rd_T35 l0 x4_1).f4) ((rd_T35 l0 x4_1).f5) ((rd_T35 l0 x4_1).f6))) = some r := by rw [if_neg (show ¬ (false = true) by decide)] at H; exact H
         clear H
         have H := H1
         clear H1
         have HC17 := Aside0.mk H
         clear H
         go_upto_region 11 with (fail)
         go_cut [47] (fun v47 wc => ∃ (kq : Nat) (x50_16 : Bool), v47 = .bool x50_16 ∧ Aside0 (flist_Check_h.j2 kq l0 x3_1 x4_1 x50_16 ((rd_T35 l0 x4_1).f0) ((rd_T35 l0 x4_1).f1) ((rd_T35 l0 x4_1).f2) ((rd_T35 l0 x4_1).f3.f0) ((rd_T35 l0 x4_1).f3.f1) ((rd_T35 l0 x4_1).f3.f2) ((rd_T35 l0 x4_1).f3.f3) ((rd_T35 l0 x4_1).f3.f4) ((rd_T35 l0 x4_1).f4) ((rd_T35 l0 x4_1).f5) ((rd_T35 l0 x4_1).f6) = some r) ∧ Aside0 (kq ≤ kj5) ∧ Aside0 (wc.heap[gb102]? = some (.cells #[.string ((rd_T35 l0 x4_1).f0), .int .i64 ((rd_T35 l0 x4_1).f1), .int .i64 ((rd_T35 l0 x4_1).f2), .int .i64 ((rd_T35 l0 x4_1).f3.f0), .int .i64 ((rd_T35 l0 x4_1).f3.f1), .int .i64 ((rd_T35 l0 x4_1).f3.f2), .int .i64 ((rd_T35 l0 x4_1).f3.f3), .int .i64 ((rd_T35 l0 x4_1).f3.f4), .string ((rd_T35 l0 x4_1).f4), .string ((rd_T35 l0 x4_1).f5), .int .i64 ((rd_T35 l0 x4_1).f6)] 35 (0, 0))) ∧ Aside0 (Below w.heap.size w wc) ∧ Aside0 (MapB w wc w.heap.size (l0.take x4_1.toNat)))
         case first =>
          have H := HC17.out
          clear HC17
          by_cases c18 : x4_1 > 0
          ·rw [if_pos c18] at H
           have c18b0 : decide (0 < x4_1) = true := decide_eq_true c18
           clear c18
           (first | rw [c18b0] | (simp only [i64_w, i32_w]; rw [c18b0]) | skip)
           obtain ⟨ji19, hji19⟩ : ∃ j_ : Int, (wrap64 (x4_1 - 1)) = j_ := ⟨_, rfl⟩
           replace H : (if 0 ≤ (ji19) then (if (ji19) < (l0.length : Int) then ((path_Less.f kj5 ((rd_T35 l0 x4_1).f0) ((rd_T35 l0 (ji19)).f0)).bind fun t106 => (flist_Check_h.j2 kj5 l0 x3_1 x4_1 t106 ((rd_T35 l0 x4_1).f0) ((rd_T35 l0 x4_1).f1) ((rd_T35 l0 x4_1).f2) ((rd_T35 l0 x4_1).f3.f0) ((rd_T35 l0 x4_1).f3.f1) ((rd_T35 l0 x4_1).f3.f2) ((rd_T35 l0 x4_1).f3.f3) ((rd_T35 l0 x4_1).f3.f4) ((rd_T35 l0 x4_1).f4) ((rd_T35 l0 x4_1).f5) ((rd_T35 l0 x4_1).f6))) else (none)) else (none)) = some r := by first | (rw [hji19] at H; exact H) | (simp only [hji19] at H ⊢; exact H)
           have hji19w : (IntKind.i64.wrap (x4_1 - 1)) = ji19 := (i64_w _).trans hji19
           by_cases c20 : 0 ≤ (ji19)
           ·rw [if_pos c20] at H
            have c20b0 : decide (0 ≤ (ji19)) = true := decide_eq_true c20
            clear c20
            by_cases c21 : (ji19) < (l0.length : Int)
            ·rw [if_pos c21] at H
             have c21b0 : decide ((ji19) < (l0.length : Int)) = true := decide_eq_true c21
             clear c21
             replace H := Option.bind_eq_some_iff.mp H
             obtain ⟨t106, A220, H⟩ := H
             replace H : (flist_Check_h.j2 kj5 l0 x3_1 x4_1 t106 ((rd_T35 l0 x4_1).f0) ((rd_T35 l0 x4_1).f1) ((rd_T35 l0 x4_1).f2) ((rd_T35 l0 x4_1).f3.f0) ((rd_T35 l0 x4_1).f3.f1) ((rd_T35 l0 x4_1).f3.f2) ((rd_T35 l0 x4_1).f3.f3) ((rd_T35 l0 x4_1).f3.f4) ((rd_T35 l0 x4_1).f4) ((rd_T35 l0 x4_1).f5) ((rd_T35 l0 x4_1).f6)) = some r := H
             have A22 := Aside0.mk A220
             clear A220
             have H' := Aside0.mk H
             clear H
             try go_wp2
             have n0_ := Aside0.mk (blk_drew BK102.out)
             have n1_ := Aside0.mk (below_drew1 HB.out)
             have n9_ := Aside0.mk (MapB.drew HM.out)
             clear BK102
             clear HB
             have BK102 := n0_
             have HB := n1_
             clear HM
             have HM := n9_
             clear n9_
             clear n0_ n1_
             have p105 : 0 ≤ ((ji19) : Int) := of_decide_eq_true (by first | (with_reducible assumption) | assumption)
             have q105 : (ji19) < (l0.length : Int) := of_decide_eq_true (by first | (with_reducible assumption) | assumption)
             obtain ⟨ad105, e105, hx105_0, hx105_1, hx105_2, hx105_3, hx105_4, hx105_5, hx105_6, hx105_7, hx105_8, hx105_9, hx105_10⟩ := at_T35 HR0.out (ji19) p105 q105
             have hw105_10 := hx105_10
             have hw105_9 := hx105_9
             have hw105_8 := hx105_8
             have hw105_7 := hx105_7
             have hw105_6 := hx105_6
             have hw105_5 := hx105_5
             have hw105_4 := hx105_4
             have hw105_3 := hx105_3
             have hw105_2 := hx105_2
             have hw105_1 := hx105_1
             have hw105_0 := hx105_0
             obtain rfl : ad101 = ad105 := (by injection e105)
             replace hx105_0 := (HB.out.cell (World.block_lt_of_cell? w _ hx105_0)).trans hx105_0
             replace hx105_1 := (HB.out.cell (World.block_lt_of_cell? w _ hx105_1)).trans hx105_1
             replace hx105_2 := (HB.out.cell (World.block_lt_of_cell? w _ hx105_2)).trans hx105_2
             replace hx105_3 := (HB.out.cell (World.block_lt_of_cell? w _ hx105_3)).trans hx105_3
             replace hx105_4 := (HB.out.cell (World.block_lt_of_cell? w _ hx105_4)).trans hx105_4
             replace hx105_5 := (HB.out.cell (World.block_lt_of_cell? w _ hx105_5)).trans hx105_5
             replace hx105_6 := (HB.out.cell (World.block_lt_of_cell? w _ hx105_6)).trans hx105_6
             replace hx105_7 := (HB.out.cell (World.block_lt_of_cell? w _ hx105_7)).trans hx105_7
             replace hx105_8 := (HB.out.cell (World.block_lt_of_cell? w _ hx105_8)).trans hx105_8
             replace hx105_9 := (HB.out.cell (World.block_lt_of_cell? w _ hx105_9)).trans hx105_9
             replace hx105_10 := (HB.out.cell (World.block_lt_of_cell? w _ hx105_10)).trans hx105_10
             replace p105 := eq_true p105
             replace q105 := eq_true q105
             refine start_ (n := 13) (S := fun w' => w'.cell? ⟨gb102, 0, none⟩ = some (.string ((rd_T35 l0 x4_1).f0)) ∧ w'.cell? ⟨gb102, 1, none⟩ = some (.int .i64 ((rd_T35 l0 x4_1).f1)) ∧ w'.cell? ⟨gb102, 2, none⟩ = some (.int .i64 ((rd_T35 l0 x4_1).f2)) ∧ w'.cell? ⟨gb102, 3, none⟩ = some (.int .i64 ((rd_T35 l0 x4_1).f3.f0)) ∧ w'.cell? ⟨gb102, 4, none⟩ = some (.int .i64 ((rd_T35 l0 x4_1).f3.f1)) ∧ w'.cell? ⟨gb102, 5, none⟩ = some (.int .i64 ((rd_T35 l0 x4_1).f3.f2)) ∧ w'.cell? ⟨gb102, 6, none⟩ = some (.int .i64 ((rd_T35 l0 x4_1).f3.f3)) ∧ w'.cell? ⟨gb102, 7, none⟩ = some (.int .i64 ((rd_T35 l0 x4_1).f3.f4)) ∧ w'.cell? ⟨gb102, 8, none⟩ = some (.string ((rd_T35 l0 x4_1).f4)) ∧ w'.cell? ⟨gb102, 9, none⟩ = some (.string ((rd_T35 l0 x4_1).f5)) ∧ w'.cell? ⟨gb102, 10, none⟩ = some (.int .i64 ((rd_T35 l0 x4_1).f6)) ∧ w'.cell? (ad101.add (((ji19)).toNat * 11)) = some (.string ((rd_T35 l0 (ji19)).f0)) ∧ w'.cell? ⟨(ad101.add (((ji19)).toNat * 11)).block, (ad101.add (((ji19)).toNat * 11)).off + 1, none⟩ = some (.int .i64 ((rd_T35 l0 (ji19)).f1)) ∧ w'.cell? ⟨(ad101.add (((ji19)).toNat * 11)).block, (ad101.add (((ji19)).toNat * 11)).off + 2, none⟩ = some (.int .i64 ((rd_T35 l0 (ji19)).f2)) ∧ w'.cell? ⟨(ad101.add (((ji19)).toNat * 11)).block, (ad101.add (((ji19)).toNat * 11)).off + 3, none⟩ = some (.int .i64 ((rd_T35 l0 (ji19)).f3.f0)) ∧ w'.cell? ⟨(ad101.add (((ji19)).toNat * 11)).block, (ad101.add (((ji19)).toNat * 11)).off + 4, none⟩ = some (.int .i64 ((rd_T35 l0 (ji19)).f3.f1)) ∧ w'.cell? ⟨(ad101.add (((ji19)).toNat * 11)).block, (ad101.add (((ji19)).toNat * 11)).off + 5, none⟩ = some (.int .i64 ((rd_T35 l0 (ji19)).f3.f2)) ∧ w'.cell? ⟨(ad101.add (((ji19)).toNat * 11)).block, (ad101.add (((ji19)).toNat * 11)).off + 6, none⟩ = some (.int .i64 ((rd_T35 l0 (ji19)).f3.f3)) ∧ w'.cell? ⟨(ad101.add (((ji19)).toNat * 11)).block, (ad101.add (((ji19)).toNat * 11)).off + 7, none⟩ = some (.int .i64 ((rd_T35 l0 (ji19)).f3.f4)) ∧ w'.cell? ⟨(ad101.add (((ji19)).toNat * 11)).block, (ad101.add (((ji19)).toNat * 11)).off + 8, none⟩ = some (.string ((rd_T35 l0 (ji19)).f4)) ∧ w'.cell? ⟨(ad101.add (((ji19)).toNat * 11)).block, (ad101.add (((ji19)).toNat * 11)).off + 9, none⟩ = some (.string ((rd_T35 l0 (ji19)).f5)) ∧ w'.cell? ⟨(ad101.add (((ji19)).toNat * 11)).block, (ad101.add (((ji19)).toNat * 11)).off + 10, none⟩ = some (.int .i64 ((rd_T35 l0 (ji19)).f6))) (ds := []) #[false, false, false, false, false, false, false, false, false, false, false, false, false] (by kernel_rfl) rfl rfl ⟨(blk_cell BK102.out 0).trans rfl, (blk_cell BK102.out 1).trans rfl, (blk_cell BK102.out 2).trans rfl, (blk_cell BK102.out 3).trans rfl, (blk_cell BK102.out 4).trans rfl, (blk_cell BK102.out 5).trans rfl, (blk_cell BK102.out 6).trans rfl, (blk_cell BK102.out 7).trans rfl, (blk_cell BK102.out 8).trans rfl, (blk_cell BK102.out 9).trans rfl, (blk_cell BK102.out 10).trans rfl, ((HB.out.cell (World.block_lt_of_cell? w _ hw105_0)).trans hw105_0), ((HB.out.cell (World.block_lt_of_cell? w _ hw105_1)).trans hw105_1), ((HB.out.cell (World.block_lt_of_cell? w _ hw105_2)).trans hw105_2), ((HB.out.cell (World.block_lt_of_cell? w _ hw105_3)).trans hw105_3), ((HB.out.cell (World.block_lt_of_cell? w _ hw105_4)).trans hw105_4), ((HB.out.cell (World.block_lt_of_cell? w _ hw105_5)).trans hw105_5), ((HB.out.cell (World.block_lt_of_cell? w _ hw105_6)).trans hw105_6), ((HB.out.cell (World.block_lt_of_cell? w _ hw105_7)).trans hw105_7), ((HB.out.cell (World.block_lt_of_cell? w _ hw105_8)).trans hw105_8), ((HB.out.cell (World.block_lt_of_cell? w _ hw105_9)).trans hw105_9), ((HB.out.cell (World.block_lt_of_cell? w _ hw105_10)).trans hw105_10)⟩ (fun hHeld => ?_); refine with_tabW flist_Check_h.tab11 flist_Check_h.bits11 (fun HT_ HW_ => ?_)
             generalize wc.drew = w23 at BK102 HB HM hx105_0 hx105_1 hx105_10 hx105_2 hx105_3 hx105_4 hx105_5 hx105_6 hx105_7 hx105_8 hx105_9 hHeld ⊢
             refine pure_ (i := 0) (N := some 35) (v := ?_) (a' := ?_) #[true, false, false, false, false, false, false, false, false, false, false, false, false] rfl rfl (any_of HT_.out (by kernel_rfl)) (fun _ _ _ h => h) (Or.inl ⟨by rfl, ?_⟩) ?_ ?_
             rotate_left
             ·intro w'
              go_simp
              with_reducible rfl
             rotate_left
             ·simp only [Act.put, List.setIfInBounds_toArray, List.set_cons_zero, List.set_cons_succ, i64_w, i32_w]
              rfl
             refine pure_ (i := 1) (N := some 36) (v := ?_) (a' := ?_) #[true, true, false, false, false, false, false, false, false, false, false, false, false] rfl rfl (any_of HT_.out (by kernel_rfl)) (fun _ _ _ h => h) (Or.inl ⟨by rfl, ?_⟩) ?_ ?_
             rotate_left
             ·intro w'
              go_simp
              with_reducible rfl
             rotate_left
             ·simp only [Act.put, List.setIfInBounds_toArray, List.set_cons_zero, List.set_cons_succ, i64_w, i32_w]
              rfl
             refine pure_ (i := 2) (N := some 37) (v := ?_) (a' := ?_) #[true, true, true, false, false, false, false, false, false, false, false, false, false] rfl rfl (any_of HT_.out (by kernel_rfl)) (fun _ _ _ h => h) (Or.inl ⟨by rfl, ?_⟩) ?_ ?_
             rotate_left
             ·intro w'
              go_simp
              with_reducible rfl
             rotate_left
             ·simp only [Act.put, List.setIfInBounds_toArray, List.set_cons_zero, List.set_cons_succ, i64_w, i32_w]
              rfl
             refine pure_ (i := 3) (N := some 38) (v := ?_) (a' := ?_) #[true, true, true, true, false, false, false, false, false, false, false, false, false] rfl rfl (any_of HT_.out (by kernel_rfl)) (fun _ _ _ h => h) (Or.inl ⟨by rfl, ?_⟩) ?_ ?_
             rotate_left
             ·intro w'
              go_simp
              with_reducible rfl
             rotate_left
             ·simp only [Act.put, List.setIfInBounds_toArray, List.set_cons_zero, List.set_cons_succ, i64_w, i32_w]
              rfl
             refine pure_ (i := 5) (N := some 40) (v := ?_) (a' := ?_) #[true, true, true, true, false, true, false, false, false, false, false, false, false] rfl rfl (any_of HT_.out (by kernel_rfl)) (fun _ _ _ h => h) (Or.inl ⟨by rfl, ?_⟩) ?_ ?_
             rotate_left
             ·intro w'
              go_simp
              with_reducible rfl
             rotate_left
             ·simp only [Act.put, List.setIfInBounds_toArray, List.set_cons_zero, List.set_cons_succ, i64_w, i32_w]
              rfl
             refine pure_ (i := 6) (N := some 41) (v := ?_) (a' := ?_) #[true, true, true, true, false, true, true, false, false, false, false, false, false] rfl rfl (any_of HT_.out (by kernel_rfl)) (fun _ _ _ h => h) (Or.inl ⟨by rfl, ?_⟩) ?_ ?_
             rotate_left
             ·intro w'
              go_simp
              with_reducible rfl
             rotate_left
             ·simp only [Act.put, List.setIfInBounds_toArray, List.set_cons_zero, List.set_cons_succ, i64_w, i32_w]
              rfl
             refine pure_ (i := 7) (N := some 42) (v := ?_) (a' := ?_) #[true, true, true, true, false, true, true, true, false, false, false, false, false] rfl rfl (any_of HT_.out (by kernel_rfl)) (fun _ _ _ h => h) (Or.inl ⟨by rfl, ?_⟩) ?_ ?_
             rotate_left
             ·intro w'
              go_simp
              with_reducible rfl
             rotate_left
             ·simp only [Act.put, List.setIfInBounds_toArray, List.set_cons_zero, List.set_cons_succ, i64_w, i32_w]
              rfl
             refine pure_ (i := 8) (N := some 43) (v := ?_) (a' := ?_) #[true, true, true, true, false, true, true, true, true, false, false, false, false] rfl rfl (any_of HT_.out (by kernel_rfl)) (fun _ _ _ h => h) (Or.inl ⟨by rfl, ?_⟩) ?_ ?_
             rotate_left
             ·intro w'
              go_simp
              with_reducible rfl
             rotate_left
             ·simp only [Act.put, List.setIfInBounds_toArray, List.set_cons_zero, List.set_cons_succ, i64_w, i32_w]
              rfl
             refine pure_ (i := 9) (N := some 44) (v := ?_) (a' := ?_) #[true, true, true, true, false, true, true, true, true, true, false, false, false] rfl rfl (any_of HT_.out (by kernel_rfl)) (fun _ _ _ h => h) (Or.inl ⟨by rfl, ?_⟩) ?_ ?_
             rotate_left
             ·intro w'
              go_simp
              with_reducible rfl
             rotate_left
             ·simp only [Act.put, List.setIfInBounds_toArray, List.set_cons_zero, List.set_cons_succ, i64_w, i32_w]
              rfl
             refine take_ (i := 4) (N := some 39) (v := ?_) (a' := ?_) #[true, true, true, true, true, true, true, true, true, true, false, false, false] rfl rfl (take_ofW HT_.out HW_.out (by kernel_rfl)) (fun _ _ _ h => h) (Or.inl ⟨by rfl, ?_⟩) hHeld ?_ ?_
             rotate_left
             ·rintro w' ⟨s0, s1, s2, s3, s4, s5, s6, s7, s8, s9, s10, s11, s12, s13, s14, s15, s16, s17, s18, s19, s20, s21⟩
              go_simp
              with_reducible rfl
             rotate_left
             ·simp only [Act.put, List.setIfInBounds_toArray, List.set_cons_zero, List.set_cons_succ, i64_w, i32_w]
              rfl
             refine take_ (i := 10) (N := some 45) (v := ?_) (a' := ?_) #[true, true, true, true, true, true, true, true, true, true, true, false, false] rfl rfl (take_ofW HT_.out HW_.out (by kernel_rfl)) (fun _ _ _ h => h) (Or.inl ⟨by rfl, ?_⟩) hHeld ?_ ?_
             rotate_left
             ·rintro w' ⟨s0, s1, s2, s3, s4, s5, s6, s7, s8, s9, s10, s11, s12, s13, s14, s15, s16, s17, s18, s19, s20, s21⟩
              go_simp
              with_reducible rfl
             rotate_left
             ·simp only [Act.put, List.setIfInBounds_toArray, List.set_cons_zero, List.set_cons_succ, i64_w, i32_w]
              rfl
             refine one_ (i := 11) (N := some 46) #[true, true, true, true, true, true, true, true, true, true, true, true, false] rfl rfl (one_of HT_.out (by kernel_rfl)) (by decide) (fun K hK => ?_)
             refine goes_ Tryd.func29 (by kernel_rfl) rfl #[.string ((rd_T35 l0 x4_1).f0), .string ((rd_T35 l0 (ji19)).f0)] (by rfl) rfl rfl (by (try simp only [List.map_toArray, List.map_cons, List.map_nil]); first | done | (simp only [hji19]; rfl) | rfl | (simp only [List.length_drop, List.length_take]; rfl)) ?_
             with_reducible refine (path_Less.calls kj5 ((rd_T35 l0 x4_1).f0) ((rd_T35 l0 (ji19)).f0) t106 _ A22.out).mono ?_
             rintro e w24 ⟨rfl, hb⟩
             refine ⟨_, rfl, ?_⟩
             have n0_ := Aside0.mk (blk_below (g := gb102) (o := .cells #[.string ((rd_T35 l0 x4_1).f0), .int .i64 ((rd_T35 l0 x4_1).f1), .int .i64 ((rd_T35 l0 x4_1).f2), .int .i64 ((rd_T35 l0 x4_1).f3.f0), .int .i64 ((rd_T35 l0 x4_1).f3.f1), .int .i64 ((rd_T35 l0 x4_1).f3.f2), .int .i64 ((rd_T35 l0 x4_1).f3.f3), .int .i64 ((rd_T35 l0 x4_1).f3.f4), .string ((rd_T35 l0 x4_1).f4), .string ((rd_T35 l0 x4_1).f5), .int .i64 ((rd_T35 l0 x4_1).f6)] 35 (0, 0)) (by (with_reducible repeat (first | refine blk_drewN ?_ _ | refine blk_drew ?_ | refine blk_alloc ?_ _)); exact BK102.out) hb)
             have n1_ := Aside0.mk (below_step (by repeat (first | (with_reducible first | exact HB.out | apply below_alloc | apply pw_below_drewN | apply below_drew1 | refine below_set ?_ GE102.out) | exact HB.out)) hb)
             have n9_ := Aside0.mk (MapB.step (w := w) (mb := w.heap.size) (P := l0.take x4_1.toNat) (by first | exact HM.out | exact MapB.heap HM.out rfl) hb)
             clear BK102
             clear HB
             have BK102 := n0_
             have HB := n1_
             clear HM
             have HM := n9_
             clear n9_
             clear n0_ n1_
             (try clear hb)
             (try clear hb2)
             (try clear hk)
             (try clear hi)
             refine hK.out _ _ ⟨(blk_cell BK102.out 0).trans rfl, (blk_cell BK102.out 1).trans rfl, (blk_cell BK102.out 2).trans rfl, (blk_cell BK102.out 3).trans rfl, (blk_cell BK102.out 4).trans rfl, (blk_cell BK102.out 5).trans rfl, (blk_cell BK102.out 6).trans rfl, (blk_cell BK102.out 7).trans rfl, (blk_cell BK102.out 8).trans rfl, (blk_cell BK102.out 9).trans rfl, (blk_cell BK102.out 10).trans rfl, ((HB.out.cell (World.block_lt_of_cell? w _ hw105_0)).trans hw105_0), ((HB.out.cell (World.block_lt_of_cell? w _ hw105_1)).trans hw105_1), ((HB.out.cell (World.block_lt_of_cell? w _ hw105_2)).trans hw105_2), ((HB.out.cell (World.block_lt_of_cell? w _ hw105_3)).trans hw105_3), ((HB.out.cell (World.block_lt_of_cell? w _ hw105_4)).trans hw105_4), ((HB.out.cell (World.block_lt_of_cell? w _ hw105_5)).trans hw105_5), ((HB.out.cell (World.block_lt_of_cell? w _ hw105_6)).trans hw105_6), ((HB.out.cell (World.block_lt_of_cell? w _ hw105_7)).trans hw105_7), ((HB.out.cell (World.block_lt_of_cell? w _ hw105_8)).trans hw105_8), ((HB.out.cell (World.block_lt_of_cell? w _ hw105_9)).trans hw105_9), ((HB.out.cell (World.block_lt_of_cell? w _ hw105_10)).trans hw105_10)⟩ (fun hHeld => ?_)
             clear hK K
             refine norm_ (a' := ?_) ?_ ?_
             rotate_left
             ·show Act.put _ (some 46) _ = _
              simp only [Act.put, List.setIfInBounds_toArray, List.set_cons_zero, List.set_cons_succ, i64_w, i32_w]
              rfl
             refine pure_ (i := 12) (N := some 47) (v := ?_) (a' := ?_) #[true, true, true, true, true, true, true, true, true, true, true, true, true] rfl rfl (any_of HT_.out (by kernel_rfl)) (fun _ _ _ h => h) (Or.inl ⟨by rfl, ?_⟩) ?_ ?_
             rotate_left
             ·intro w'
              go_simp
              with_reducible rfl
             rotate_left
             ·simp only [Act.put, List.setIfInBounds_toArray, List.set_cons_zero, List.set_cons_succ, i64_w, i32_w]
              rfl
             refine done_ (done_of HT_.out (by kernel_rfl)) ?_
             try go_wp2
             go_meet
             case rel => exact ⟨_, (t106), (by first | rfl | (simp; done) | (simp [*]; done)), H', ⟨by have := HK1.out; have := HJ5.out; first | omega | exact Nat.le_refl _⟩, ⟨by (with_reducible repeat (first | refine blk_drewN ?_ _ | refine blk_drew ?_ | refine blk_alloc ?_ _)); exact BK102.out⟩, ⟨by repeat (first | (with_reducible first | exact HB.out | apply below_alloc | apply pw_below_drewN | apply below_drew1 | refine below_set ?_ GE102.out) | exact HB.out)⟩, ⟨by first | exact HM.out | exact MapB.heap HM.out rfl⟩⟩
            ·rw [if_neg c21] at H
             exact absurd H (by simp)
           ·rw [if_neg c20] at H
            exact absurd H (by simp)
          ·rw [if_neg c18] at H
           have c18b0 : decide (0 < x4_1) = false := decide_eq_false c18
           clear c18
           (first | rw [c18b0] | (simp only [i64_w, i32_w]; rw [c18b0]) | skip)
           have H' := Aside0.mk H
           clear H
           try go_wp2
           have n0_ := Aside0.mk (blk_drew BK102.out)
           have n1_ := Aside0.mk (below_drew1 HB.out)
           have n9_ := Aside0.mk (MapB.drew HM.out)
           clear BK102
           clear HB
           have BK102 := n0_
           have HB := n1_
           clear HM
           have HM := n9_
           clear n9_
           clear n0_ n1_
           refine start_ (n := 13) (S := fun w' => True) (ds := []) #[false, false, false, false, false, false, false, false, false, false, false, false, false] (by kernel_rfl) rfl rfl trivial (fun hHeld => ?_); refine with_tabW flist_Check_h.tab11 flist_Check_h.bits11 (fun HT_ HW_ => ?_)
           generalize wc.drew = w25 at BK102 HB HM hHeld ⊢
           refine pure_ (i := 0) (N := some 35) (v := ?_) (a' := ?_) #[true, false, false, false, false, false, false, false, false, false, false, false, false] rfl rfl (any_of HT_.out (by kernel_rfl)) (fun _ _ _ h => h) (Or.inl ⟨by rfl, ?_⟩) ?_ ?_
           rotate_left
           ·intro w'
            go_simp
            with_reducible rfl
           rotate_left
           ·simp only [Act.put, List.setIfInBounds_toArray, List.set_cons_zero, List.set_cons_succ, i64_w, i32_w]
            rfl
           refine pure_ (i := 1) (N := some 36) (v := ?_) (a' := ?_) #[true, true, false, false, false, false, false, false, false, false, false, false, false] rfl rfl (any_of HT_.out (by kernel_rfl)) (fun _ _ _ h => h) (Or.inl ⟨by rfl, ?_⟩) ?_ ?_
           rotate_left
           ·intro w'
            go_simp
            with_reducible rfl
           rotate_left
           ·simp only [Act.put, List.setIfInBounds_toArray, List.set_cons_zero, List.set_cons_succ, i64_w, i32_w]
            rfl
           refine pure_ (i := 2) (N := some 37) (v := ?_) (a' := ?_) #[true, true, true, false, false, false, false, false, false, false, false, false, false] rfl rfl (any_of HT_.out (by kernel_rfl)) (fun _ _ _ h => h) (Or.inl ⟨by rfl, ?_⟩) ?_ ?_
           rotate_left
           ·intro w'
            go_simp
            with_reducible rfl
           rotate_left
           ·simp only [Act.put, List.setIfInBounds_toArray, List.set_cons_zero, List.set_cons_succ, i64_w, i32_w]
            rfl
           refine pure_ (i := 3) (N := some 38) (v := undef) (a' := ?_) #[true, true, true, true, false, false, false, false, false, false, false, false, false] rfl rfl (any_of HT_.out (by kernel_rfl)) (fun _ _ _ h => h) (Or.inr ⟨by rfl, rfl⟩) ?_ ?_
           rotate_left
           ·simp only [Act.put, List.setIfInBounds_toArray, List.set_cons_zero, List.set_cons_succ, i64_w, i32_w]
            rfl
           refine pure_ (i := 4) (N := some 39) (v := undef) (a' := ?_) #[true, true, true, true, true, false, false, false, false, false, false, false, false] rfl rfl (any_of HT_.out (by kernel_rfl)) (fun _ _ _ h => h) (Or.inr ⟨by rfl, rfl⟩) ?_ ?_
           rotate_left
           ·simp only [Act.put, List.setIfInBounds_toArray, List.set_cons_zero, List.set_cons_succ, i64_w, i32_w]
            rfl
           refine pure_ (i := 5) (N := some 40) (v := undef) (a' := ?_) #[true, true, true, true, true, true, false, false, false, false, false, false, false] rfl rfl (any_of HT_.out (by kernel_rfl)) (fun _ _ _ h => h) (Or.inr ⟨by rfl, rfl⟩) ?_ ?_
           rotate_left
           ·simp only [Act.put, List.setIfInBounds_toArray, List.set_cons_zero, List.set_cons_succ, i64_w, i32_w]
            rfl
           refine pure_ (i := 6) (N := some 41) (v := undef) (a' := ?_) #[true, true, true, true, true, true, true, false, false, false, false, false, false] rfl rfl (any_of HT_.out (by kernel_rfl)) (fun _ _ _ h => h) (Or.inr ⟨by rfl, rfl⟩) ?_ ?_
           rotate_left
           ·simp only [Act.put, List.setIfInBounds_toArray, List.set_cons_zero, List.set_cons_succ, i64_w, i32_w]
            rfl
           refine pure_ (i := 7) (N := some 42) (v := undef) (a' := ?_) #[true, true, true, true, true, true, true, true, false, false, false, false, false] rfl rfl (any_of HT_.out (by kernel_rfl)) (fun _ _ _ h => h) (Or.inr ⟨by rfl, rfl⟩) ?_ ?_
           rotate_left
           ·simp only [Act.put, List.setIfInBounds_toArray, List.set_cons_zero, List.set_cons_succ, i64_w, i32_w]
            rfl
           refine pure_ (i := 8) (N := some 43) (v := undef) (a' := ?_) #[true, true, true, true, true, true, true, true, true, false, false, false, false] rfl rfl (any_of HT_.out (by kernel_rfl)) (fun _ _ _ h => h) (Or.inr ⟨by rfl, rfl⟩) ?_ ?_
           rotate_left
           ·simp only [Act.put, List.setIfInBounds_toArray, List.set_cons_zero, List.set_cons_succ, i64_w, i32_w]
            rfl
           refine pure_ (i := 9) (N := some 44) (v := undef) (a' := ?_) #[true, true, true, true, true, true, true, true, true, true, false, false, false] rfl rfl (any_of HT_.out (by kernel_rfl)) (fun _ _ _ h => h) (Or.inr ⟨by rfl, rfl⟩) ?_ ?_
           rotate_left
           ·simp only [Act.put, List.setIfInBounds_toArray, List.set_cons_zero, List.set_cons_succ, i64_w, i32_w]
            rfl
           refine pure_ (i := 10) (N := some 45) (v := undef) (a' := ?_) #[true, true, true, true, true, true, true, true, true, true, true, false, false] rfl rfl (any_of HT_.out (by kernel_rfl)) (fun _ _ _ h => h) (Or.inr ⟨by rfl, rfl⟩) ?_ ?_
           rotate_left
           ·simp only [Act.put, List.setIfInBounds_toArray, List.set_cons_zero, List.set_cons_succ, i64_w, i32_w]
            rfl
           refine pure_ (i := 11) (N := some 46) (v := undef) (a' := ?_) #[true, true, true, true, true, true, true, true, true, true, true, true, false] rfl rfl (any_of HT_.out (by kernel_rfl)) (fun _ _ _ h => h) (Or.inr ⟨by rfl, rfl⟩) ?_ ?_
           rotate_left
           ·simp only [Act.put, List.setIfInBounds_toArray, List.set_cons_zero, List.set_cons_succ, i64_w, i32_w]
            rfl
           refine pure_ (i := 12) (N := some 47) (v := ?_) (a' := ?_) #[true, true, true, true, true, true, true, true, true, true, true, true, true] rfl rfl (any_of HT_.out (by kernel_rfl)) (fun _ _ _ h => h) (Or.inl ⟨by rfl, ?_⟩) ?_ ?_
           rotate_left
           ·intro w'
            go_simp
            with_reducible rfl
           rotate_left
           ·simp only [Act.put, List.setIfInBounds_toArray, List.set_cons_zero, List.set_cons_succ, i64_w, i32_w]
            rfl
           refine done_ (done_of HT_.out (by kernel_rfl)) ?_
           try go_wp2
           go_meet
           case rel => exact ⟨_, (false), (by first | rfl | (simp; done) | (simp [*]; done)), H', ⟨by have := HK1.out; have := HJ5.out; first | omega | exact Nat.le_refl _⟩, ⟨by (with_reducible repeat (first | refine blk_drewN ?_ _ | refine blk_drew ?_ | refine blk_alloc ?_ _)); exact BK102.out⟩, ⟨by repeat (first | (with_reducible first | exact HB.out | apply below_alloc | apply pw_below_drewN | apply below_drew1 | refine below_set ?_ GE102.out) | exact HB.out)⟩, ⟨by first | exact HM.out | exact MapB.heap HM.out rfl⟩⟩
         case rest =>
          clear HC17
          try clear c1
          try clear p1
          try clear q1
          try clear hx1
          try clear c2
          try clear c2b0
          try clear p2
          try clear c3
          try clear c3b0
          try clear c5
          try clear c5b0
          try clear c5b1
          try clear p6
          try clear c10
          try clear c10b0
          try clear p10
          try clear q10
          try clear hx10
          try clear c12
          try clear c12b0
          try clear c13
          try clear c13b0
          try clear c16
          try clear c18
          try clear c18b0
          try clear c20
          try clear c20b0
          try clear c21
          try clear c21b0
          try clear c24
          try clear hcz8_0
          try clear hcz8_1
          try clear hcz8_10
          try clear hcz8_2
          try clear hcz8_3
          try clear hcz8_4
          try clear hcz8_5
          try clear hcz8_6
          try clear hcz8_7
          try clear hcz8_8
          try clear hcz8_9
          try clear hfz8_0
          try clear hfz8_1
          try clear hfz8_10
          try clear hfz8_2
          try clear hfz8_3
          try clear hfz8_4
          try clear hfz8_5
          try clear hfz8_6
          try clear hfz8_7
          try clear hfz8_8
          try clear hfz8_9
          try clear hx101_0
          try clear hx101_1
          try clear hx101_10
          try clear hx101_2
          try clear hx101_3
          try clear hx101_4
          try clear hx101_5
          try clear hx101_6
          try clear hx101_7
          try clear hx101_8
          try clear hx101_9
          try clear hx104_0
          try clear hx104_1
          try clear hx104_10
          try clear hx104_2
          try clear hx104_3
          try clear hx104_4
          try clear hx104_5
          try clear hx104_6
          try clear hx104_7
          try clear hx104_8
          try clear hx104_9
          try clear hx105_0
          try clear hx105_1
          try clear hx105_10
          try clear hx105_2
          try clear hx105_3
          try clear hx105_4
          try clear hx105_5
          try clear hx105_6
          try clear hx105_7
          try clear hx105_8
          try clear hx105_9
          try clear p1
          try clear p10
          try clear p101
          try clear p104
          try clear p105
          try clear p2
          try clear p6
          try clear q1
          try clear q10
          try clear q101
          try clear q104
          try clear q105
          obtain ⟨kq, x50_16, rfl, HA, HJ16, BK102, HB, HM⟩ := hcut
          cases kq with
          | zero => exact absurd HA.out (by simp [flist_Check_h.j2])
          | succ kj16 =>
           have H := HA.out
           clear HA
           simp only [flist_Check_h.j2] at H
           by_cases c26 : x50_16 = true
           ·subst c26
            rw [if_pos rfl] at H
            obtain rfl := Option.some.inj H
            go_wp2
            go_ret
            exact ⟨by first | rfl | (simp; done), by repeat (first | (with_reducible first | exact HB.out | apply below_alloc | apply pw_below_drewN | apply below_drew1 | refine below_set ?_ GE102.out) | exact HB.out)⟩
           ·replace c26 := Bool.eq_false_iff.mpr c26
            subst c26
            rw [if_neg (show ¬ (false = true) by decide)] at H
            replace H := Option.bind_eq_some_iff.mp H
            obtain ⟨t107, A270, H⟩ := H
            have A27 := Aside0.mk A270
            clear A270
            have hxs : (rd_T35 l0 x4_1).f0.size ≤ maxLen := Nat.le_trans (HL.out.2 _ (rd35_mem l0 x4_1 hIN.out.1 hIN.out.2)) (by decide)
            have hts : t107.size ≤ maxLen := Nat.le_trans (parent_size _ _ _ A27.out) hxs
            have hPl : (l0.take x4_1.toNat).length ≤ 2500 := by have := HL.out.1; rw [List.length_take]; omega
            have hcz32_0 : wc.cell? ⟨gb102, 0, none⟩ = some (.string ((rd_T35 l0 x4_1).f0)) := (blk_cell BK102.out 0).trans rfl
            have hcz32_1 : wc.cell? ⟨gb102, 1, none⟩ = some (.int .i64 ((rd_T35 l0 x4_1).f1)) := (blk_cell BK102.out 1).trans rfl
            have hcz32_2 : wc.cell? ⟨gb102, 2, none⟩ = some (.int .i64 ((rd_T35 l0 x4_1).f2)) := (blk_cell BK102.out 2).trans rfl
            have hcz32_3 : wc.cell? ⟨gb102, 3, none⟩ = some (.int .i64 ((rd_T35 l0 x4_1).f3.f0)) := (blk_cell BK102.out 3).trans rfl
            have hcz32_4 : wc.cell? ⟨gb102, 4, none⟩ = some (.int .i64 ((rd_T35 l0 x4_1).f3.f1)) := (blk_cell BK102.out 4).trans rfl
            have hcz32_5 : wc.cell? ⟨gb102, 5, none⟩ = some (.int .i64 ((rd_T35 l0 x4_1).f3.f2)) := (blk_cell BK102.out 5).trans rfl
            have hcz32_6 : wc.cell? ⟨gb102, 6, none⟩ = some (.int .i64 ((rd_T35 l0 x4_1).f3.f3)) := (blk_cell BK102.out 6).trans rfl
            have hcz32_7 : wc.cell? ⟨gb102, 7, none⟩ = some (.int .i64 ((rd_T35 l0 x4_1).f3.f4)) := (blk_cell BK102.out 7).trans rfl
            have hcz32_8 : wc.cell? ⟨gb102, 8, none⟩ = some (.string ((rd_T35 l0 x4_1).f4)) := (blk_cell BK102.out 8).trans rfl
            have hcz32_9 : wc.cell? ⟨gb102, 9, none⟩ = some (.string ((rd_T35 l0 x4_1).f5)) := (blk_cell BK102.out 9).trans rfl
            have hcz32_10 : wc.cell? ⟨gb102, 10, none⟩ = some (.int .i64 ((rd_T35 l0 x4_1).f6)) := (blk_cell BK102.out 10).trans rfl
            have hfz32_0 := blk_frozen BK102.out 0
            have hfz32_1 := blk_frozen BK102.out 1
            have hfz32_2 := blk_frozen BK102.out 2
            have hfz32_3 := blk_frozen BK102.out 3
            have hfz32_4 := blk_frozen BK102.out 4
            have hfz32_5 := blk_frozen BK102.out 5
            have hfz32_6 := blk_frozen BK102.out 6
            have hfz32_7 := blk_frozen BK102.out 7
            have hfz32_8 := blk_frozen BK102.out 8
            have hfz32_9 := blk_frozen BK102.out 9
            have hfz32_10 := blk_frozen BK102.out 10
            by_cases c30 : dirsB (l0.take x4_1.toNat) t107 = false
            ·rw [if_pos c30] at H
             obtain rfl := Option.some.inj H
             go_wp2_with (first | ((with_reducible refine gate_callee (f := 30) rfl ?_); refine goesL_ (some 51) rfl rfl Tryd.func30 (by kernel_rfl) rfl #[.string ((rd_T35 l0 x4_1).f0)] rfl (by (try simp only [List.map_toArray, List.map_cons, List.map_nil]); first | done | rfl | (simp only [List.length_drop, List.length_take]; rfl)) ?_; (with_reducible refine (path_Parent.calls kj16 ((rd_T35 l0 x4_1).f0) t107 _ A27.out).mono ?_); rintro e w33 ⟨rfl, hb⟩; refine ⟨_, rfl, ?_⟩; have n0_ := Aside0.mk (blk_below (g := gb102) (o := .cells #[.string ((rd_T35 l0 x4_1).f0), .int .i64 ((rd_T35 l0 x4_1).f1), .int .i64 ((rd_T35 l0 x4_1).f2), .int .i64 ((rd_T35 l0 x4_1).f3.f0), .int .i64 ((rd_T35 l0 x4_1).f3.f1), .int .i64 ((rd_T35 l0 x4_1).f3.f2), .int .i64 ((rd_T35 l0 x4_1).f3.f3), .int .i64 ((rd_T35 l0 x4_1).f3.f4), .string ((rd_T35 l0 x4_1).f4), .string ((rd_T35 l0 x4_1).f5), .int .i64 ((rd_T35 l0 x4_1).f6)] 35 (0, 0)) (by (with_reducible repeat (first | refine blk_drewN ?_ _ | refine blk_drew ?_ | refine blk_alloc ?_ _)); exact BK102.out) hb); have n1_ := Aside0.mk (below_step (by repeat (first | (with_reducible first | exact HB.out | apply below_alloc | apply pw_below_drewN | apply below_drew1 | refine below_set ?_ GE102.out) | exact HB.out)) hb); have n9_ := Aside0.mk (MapB.step (w := w) (mb := w.heap.size) (P := l0.take x4_1.toNat) (by with_reducible exact HM.out) hb); clear BK102; clear HB; clear HM; have BK102 := n0_; have HB := n1_; have HM := n9_; clear n0_ n1_ n9_; (try clear hb); have hcq_0 : w33.cell? ⟨gb102, 0, none⟩ = some (.string ((rd_T35 l0 x4_1).f0)) := (blk_cell BK102.out 0).trans rfl; have hcq_1 : w33.cell? ⟨gb102, 1, none⟩ = some (.int .i64 ((rd_T35 l0 x4_1).f1)) := (blk_cell BK102.out 1).trans rfl; have hcq_6 : w33.cell? ⟨gb102, 10, none⟩ = some (.int .i64 ((rd_T35 l0 x4_1).f6)) := (blk_cell BK102.out 10).trans rfl; have hlk := HM.out.look t107 hts; rw [c30] at hlk))
             go_ret
             exact ⟨by first | rfl | (simp; done), by repeat (first | (with_reducible first | exact HB.out | apply below_alloc | apply pw_below_drewN | apply below_drew1 | refine below_set ?_ GE102.out) | exact HB.out)⟩
            ·rw [if_neg c30] at H
             replace c30 : dirsB (l0.take x4_1.toNat) t107 = true := by simpa using c30
             by_cases c40 : ((rd_T35 l0 x4_1).f6) > (wrap64 (x3_1 + 1))
             ·rw [if_pos c40] at H
              have c40b0 : decide ((wrap64 (x3_1 + 1)) < ((rd_T35 l0 x4_1).f6)) = true := decide_eq_true c40
              clear c40
              obtain rfl := Option.some.inj H
              go_wp2_with (first | ((with_reducible refine gate_callee (f := 30) rfl ?_); refine goesL_ (some 51) rfl rfl Tryd.func30 (by kernel_rfl) rfl #[.string ((rd_T35 l0 x4_1).f0)] rfl (by (try simp only [List.map_toArray, List.map_cons, List.map_nil]); first | done | rfl | (simp only [List.length_drop, List.length_take]; rfl)) ?_; (with_reducible refine (path_Parent.calls kj16 ((rd_T35 l0 x4_1).f0) t107 _ A27.out).mono ?_); rintro e w33 ⟨rfl, hb⟩; refine ⟨_, rfl, ?_⟩; have n0_ := Aside0.mk (blk_below (g := gb102) (o := .cells #[.string ((rd_T35 l0 x4_1).f0), .int .i64 ((rd_T35 l0 x4_1).f1), .int .i64 ((rd_T35 l0 x4_1).f2), .int .i64 ((rd_T35 l0 x4_1).f3.f0), .int .i64 ((rd_T35 l0 x4_1).f3.f1), .int .i64 ((rd_T35 l0 x4_1).f3.f2), .int .i64 ((rd_T35 l0 x4_1).f3.f3), .int .i64 ((rd_T35 l0 x4_1).f3.f4), .string ((rd_T35 l0 x4_1).f4), .string ((rd_T35 l0 x4_1).f5), .int .i64 ((rd_T35 l0 x4_1).f6)] 35 (0, 0)) (by (with_reducible repeat (first | refine blk_drewN ?_ _ | refine blk_drew ?_ | refine blk_alloc ?_ _)); exact BK102.out) hb); have n1_ := Aside0.mk (below_step (by repeat (first | (with_reducible first | exact HB.out | apply below_alloc | apply pw_below_drewN | apply below_drew1 | refine below_set ?_ GE102.out) | exact HB.out)) hb); have n9_ := Aside0.mk (MapB.step (w := w) (mb := w.heap.size) (P := l0.take x4_1.toNat) (by with_reducible exact HM.out) hb); clear BK102; clear HB; clear HM; have BK102 := n0_; have HB := n1_; have HM := n9_; clear n0_ n1_ n9_; (try clear hb); have hcq_0 : w33.cell? ⟨gb102, 0, none⟩ = some (.string ((rd_T35 l0 x4_1).f0)) := (blk_cell BK102.out 0).trans rfl; have hcq_1 : w33.cell? ⟨gb102, 1, none⟩ = some (.int .i64 ((rd_T35 l0 x4_1).f1)) := (blk_cell BK102.out 1).trans rfl; have hcq_6 : w33.cell? ⟨gb102, 10, none⟩ = some (.int .i64 ((rd_T35 l0 x4_1).f6)) := (blk_cell BK102.out 10).trans rfl; have hlk := HM.out.look t107 hts; rw [c30] at hlk))
              go_ret
              exact ⟨by first | rfl | (simp; done), by repeat (first | (with_reducible first | exact HB.out | apply below_alloc | apply pw_below_drewN | apply below_drew1 | refine below_set ?_ GE102.out) | exact HB.out)⟩
             ·rw [if_neg c40] at H
              have c40b0 : decide ((wrap64 (x3_1 + 1)) < ((rd_T35 l0 x4_1).f6)) = false := decide_eq_false c40
              clear c40
              obtain ⟨ji42, hji42⟩ : ∃ j_ : Int, (mx x3_1 ((rd_T35 l0 x4_1).f6)) = j_ := ⟨_, rfl⟩
              rw [hji42] at H
              have hji42_ : (if x3_1 < ((rd_T35 l0 x4_1).f6) then ((rd_T35 l0 x4_1).f6) else x3_1) = ji42 := hji42
              have H' := Aside0.mk H
              clear H
              by_cases hk2 : (rd_T35 l0 x4_1).f1 = 2
              ·have k2b : ((rd_T35 l0 x4_1).f1 == 2) = true := beq_iff_eq.mpr hk2
               go_wp2_with (first | ((with_reducible refine gate_callee (f := 30) rfl ?_); refine goesL_ (some 51) rfl rfl Tryd.func30 (by kernel_rfl) rfl #[.string ((rd_T35 l0 x4_1).f0)] rfl (by (try simp only [List.map_toArray, List.map_cons, List.map_nil]); first | done | rfl | (simp only [List.length_drop, List.length_take]; rfl)) ?_; (with_reducible refine (path_Parent.calls kj16 ((rd_T35 l0 x4_1).f0) t107 _ A27.out).mono ?_); rintro e w33 ⟨rfl, hb⟩; refine ⟨_, rfl, ?_⟩; have n0_ := Aside0.mk (blk_below (g := gb102) (o := .cells #[.string ((rd_T35 l0 x4_1).f0), .int .i64 ((rd_T35 l0 x4_1).f1), .int .i64 ((rd_T35 l0 x4_1).f2), .int .i64 ((rd_T35 l0 x4_1).f3.f0), .int .i64 ((rd_T35 l0 x4_1).f3.f1), .int .i64 ((rd_T35 l0 x4_1).f3.f2), .int .i64 ((rd_T35 l0 x4_1).f3.f3), .int .i64 ((rd_T35 l0 x4_1).f3.f4), .string ((rd_T35 l0 x4_1).f4), .string ((rd_T35 l0 x4_1).f5), .int .i64 ((rd_T35 l0 x4_1).f6)] 35 (0, 0)) (by (with_reducible repeat (first | refine blk_drewN ?_ _ | refine blk_drew ?_ | refine blk_alloc ?_ _)); exact BK102.out) hb); have n1_ := Aside0.mk (below_step (by repeat (first | (with_reducible first | exact HB.out | apply below_alloc | apply pw_below_drewN | apply below_drew1 | refine below_set ?_ GE102.out) | exact HB.out)) hb); have n9_ := Aside0.mk (MapB.step (w := w) (mb := w.heap.size) (P := l0.take x4_1.toNat) (by with_reducible exact HM.out) hb); clear BK102; clear HB; clear HM; have BK102 := n0_; have HB := n1_; have HM := n9_; clear n0_ n1_ n9_; (try clear hb); have hcq_0 : w33.cell? ⟨gb102, 0, none⟩ = some (.string ((rd_T35 l0 x4_1).f0)) := (blk_cell BK102.out 0).trans rfl; have hcq_1 : w33.cell? ⟨gb102, 1, none⟩ = some (.int .i64 ((rd_T35 l0 x4_1).f1)) := (blk_cell BK102.out 1).trans rfl; have hcq_6 : w33.cell? ⟨gb102, 10, none⟩ = some (.int .i64 ((rd_T35 l0 x4_1).f6)) := (blk_cell BK102.out 10).trans rfl; have hlk := HM.out.look t107 hts; rw [c30] at hlk; obtain ⟨wq, hput2, hmq, hbq⟩ := HM.out.put HB.out (rd_T35 l0 x4_1) hk2 hxs hPl; have HMq := Aside0.mk hmq; have HBq := Aside0.mk hbq; clear hmq hbq))
               go_roundg kj16
               case measure => have := HK1.out; have := HJ5.out; have := HJ16.out; omega
               case rel => exact ⟨(ji42), (wrap64 (x4_1 + 1)), (by first | rfl | (simp; done) | (simp only [← hji42] <;> (first | rfl | simp)) | (simp [*]; done)), (by first | rfl | (simp; done) | (simp [*]; done)), H', ⟨by have := HK1.out; have := HJ5.out; have := HJ16.out; omega⟩, ⟨HBq.out⟩, ⟨(by rw [take_rd35 l0 x4_1 hIN.out.1 hIN.out.2 HL.out.1]; exact HMq.out)⟩⟩
              ·have k2b : ((rd_T35 l0 x4_1).f1 == 2) = false := beq_eq_false_iff_ne.mpr hk2
               go_wp2_with (first | ((with_reducible refine gate_callee (f := 30) rfl ?_); refine goesL_ (some 51) rfl rfl Tryd.func30 (by kernel_rfl) rfl #[.string ((rd_T35 l0 x4_1).f0)] rfl (by (try simp only [List.map_toArray, List.map_cons, List.map_nil]); first | done | rfl | (simp only [List.length_drop, List.length_take]; rfl)) ?_; (with_reducible refine (path_Parent.calls kj16 ((rd_T35 l0 x4_1).f0) t107 _ A27.out).mono ?_); rintro e w33 ⟨rfl, hb⟩; refine ⟨_, rfl, ?_⟩; have n0_ := Aside0.mk (blk_below (g := gb102) (o := .cells #[.string ((rd_T35 l0 x4_1).f0), .int .i64 ((rd_T35 l0 x4_1).f1), .int .i64 ((rd_T35 l0 x4_1).f2), .int .i64 ((rd_T35 l0 x4_1).f3.f0), .int .i64 ((rd_T35 l0 x4_1).f3.f1), .int .i64 ((rd_T35 l0 x4_1).f3.f2), .int .i64 ((rd_T35 l0 x4_1).f3.f3), .int .i64 ((rd_T35 l0 x4_1).f3.f4), .string ((rd_T35 l0 x4_1).f4), .string ((rd_T35 l0 x4_1).f5), .int .i64 ((rd_T35 l0 x4_1).f6)] 35 (0, 0)) (by (with_reducible repeat (first | refine blk_drewN ?_ _ | refine blk_drew ?_ | refine blk_alloc ?_ _)); exact BK102.out) hb); have n1_ := Aside0.mk (below_step (by repeat (first | (with_reducible first | exact HB.out | apply below_alloc | apply pw_below_drewN | apply below_drew1 | refine below_set ?_ GE102.out) | exact HB.out)) hb); have n9_ := Aside0.mk (MapB.step (w := w) (mb := w.heap.size) (P := l0.take x4_1.toNat) (by with_reducible exact HM.out) hb); clear BK102; clear HB; clear HM; have BK102 := n0_; have HB := n1_; have HM := n9_; clear n0_ n1_ n9_; (try clear hb); have hcq_0 : w33.cell? ⟨gb102, 0, none⟩ = some (.string ((rd_T35 l0 x4_1).f0)) := (blk_cell BK102.out 0).trans rfl; have hcq_1 : w33.cell? ⟨gb102, 1, none⟩ = some (.int .i64 ((rd_T35 l0 x4_1).f1)) := (blk_cell BK102.out 1).trans rfl; have hcq_6 : w33.cell? ⟨gb102, 10, none⟩ = some (.int .i64 ((rd_T35 l0 x4_1).f6)) := (blk_cell BK102.out 10).trans rfl; have hlk := HM.out.look t107 hts; rw [c30] at hlk))
               go_roundg kj16
               case measure => have := HK1.out; have := HJ5.out; have := HJ16.out; omega
               case rel => exact ⟨(ji42), (wrap64 (x4_1 + 1)), (by first | rfl | (simp; done) | (simp only [← hji42] <;> (first | rfl | simp)) | (simp [*]; done)), (by first | rfl | (simp; done) | (simp [*]; done)), H', ⟨by have := HK1.out; have := HJ5.out; have := HJ16.out; omega⟩, ⟨HB.out⟩, ⟨(by rw [take_rd35 l0 x4_1 hIN.out.1 hIN.out.2 HL.out.1]; exact HM.out.same _ hk2)⟩⟩
     ·rw [if_neg c5] at H
      have c5b0 : (t103 == 0) = false := beq_eq_false_iff_ne.mpr c5
      have c5b1 : (t103 != 0) = true := bne_iff_ne.mpr c5
      obtain rfl := Option.some.inj H
      have p101 : 0 ≤ (x4_1 : Int) := of_decide_eq_true (by first | (with_reducible assumption) | assumption)
      have q101 : x4_1 < (l0.length : Int) := of_decide_eq_true (by first | (with_reducible assumption) | assumption)
      obtain ⟨ad101, e101, hx101_0, hx101_1, hx101_2, hx101_3, hx101_4, hx101_5, hx101_6, hx101_7, hx101_8, hx101_9, hx101_10⟩ := at_T35 HR0.out x4_1 p101 q101
      cases e101
      replace hx101_0 := (HB.out.cell (World.block_lt_of_cell? w _ hx101_0)).trans hx101_0
      replace hx101_1 := (HB.out.cell (World.block_lt_of_cell? w _ hx101_1)).trans hx101_1
      replace hx101_2 := (HB.out.cell (World.block_lt_of_cell? w _ hx101_2)).trans hx101_2
      replace hx101_3 := (HB.out.cell (World.block_lt_of_cell? w _ hx101_3)).trans hx101_3
      replace hx101_4 := (HB.out.cell (World.block_lt_of_cell? w _ hx101_4)).trans hx101_4
      replace hx101_5 := (HB.out.cell (World.block_lt_of_cell? w _ hx101_5)).trans hx101_5
      replace hx101_6 := (HB.out.cell (World.block_lt_of_cell? w _ hx101_6)).trans hx101_6
      replace hx101_7 := (HB.out.cell (World.block_lt_of_cell? w _ hx101_7)).trans hx101_7
      replace hx101_8 := (HB.out.cell (World.block_lt_of_cell? w _ hx101_8)).trans hx101_8
      replace hx101_9 := (HB.out.cell (World.block_lt_of_cell? w _ hx101_9)).trans hx101_9
      replace hx101_10 := (HB.out.cell (World.block_lt_of_cell? w _ hx101_10)).trans hx101_10
      replace p101 := eq_true p101
      replace q101 := eq_true q101
      go_wp2_with (first | ((with_reducible refine gate_dst (N := 6) rfl ?_); refine box_event ?hg (N := 6) ?hd (cs := #[.string (⟨#[]⟩ : ByteArray), .int .i64 0, .int .i64 0, .int .i64 0, .int .i64 0, .int .i64 0, .int .i64 0, .int .i64 0, .string (⟨#[]⟩ : ByteArray), .string (⟨#[]⟩ : ByteArray), .int .i64 0]) (t := 35) ?hr ?_; (case hd => rfl); (case hg => rfl); (case hr => first | (go_simp; done) | (go_simp; rfl)); intro gb102 hg w44 hbox hb; have n0_ := Aside0.mk (below_step (by repeat (first | (with_reducible first | exact HB.out | apply below_alloc | apply pw_below_drewN | apply below_drew1) | exact HB.out)) hb); have n1_ := Aside0.mk (hbox); have n8_ := Aside0.mk ((by rw [hg]; exact Nat.ne_of_lt HM.out.lt) : w.heap.size ≠ gb102); have n9_ := Aside0.mk (MapB.step HM.out hb); clear HM; have HM := n9_; have NE102 := n8_; clear n8_ n9_; have n2_ := Aside0.mk ((by rw [hg]; exact (below_size (by repeat (first | (with_reducible first | exact HB.out | apply below_alloc | apply pw_below_drewN | apply below_drew1) | exact HB.out))) : w.heap.size ≤ gb102)); have n3_ := Aside0.mk ((by rw [hg]; exact (below_size (by repeat (first | (with_reducible first | exact HB.out | apply below_alloc | apply pw_below_drewN | apply below_drew1) | exact HB.out))) : w.heap.size ≤ gb102)); clear HB; have HB := n0_; have BK102 := n1_; have GW102 := n2_; have GE102 := n3_; clear n0_ n1_ n2_ n3_; clear hb hbox hg; have hcz45_0 : w44.cell? ⟨gb102, 0, none⟩ = some (.string (⟨#[]⟩ : ByteArray)) := (blk_cell BK102.out 0).trans rfl; have hcz45_1 : w44.cell? ⟨gb102, 1, none⟩ = some (.int .i64 0) := (blk_cell BK102.out 1).trans rfl; have hcz45_2 : w44.cell? ⟨gb102, 2, none⟩ = some (.int .i64 0) := (blk_cell BK102.out 2).trans rfl; have hcz45_3 : w44.cell? ⟨gb102, 3, none⟩ = some (.int .i64 0) := (blk_cell BK102.out 3).trans rfl; have hcz45_4 : w44.cell? ⟨gb102, 4, none⟩ = some (.int .i64 0) := (blk_cell BK102.out 4).trans rfl; have hcz45_5 : w44.cell? ⟨gb102, 5, none⟩ = some (.int .i64 0) := (blk_cell BK102.out 5).trans rfl; have hcz45_6 : w44.cell? ⟨gb102, 6, none⟩ = some (.int .i64 0) := (blk_cell BK102.out 6).trans rfl; have hcz45_7 : w44.cell? ⟨gb102, 7, none⟩ = some (.int .i64 0) := (blk_cell BK102.out 7).trans rfl; have hcz45_8 : w44.cell? ⟨gb102, 8, none⟩ = some (.string (⟨#[]⟩ : ByteArray)) := (blk_cell BK102.out 8).trans rfl; have hcz45_9 : w44.cell? ⟨gb102, 9, none⟩ = some (.string (⟨#[]⟩ : ByteArray)) := (blk_cell BK102.out 9).trans rfl; have hcz45_10 : w44.cell? ⟨gb102, 10, none⟩ = some (.int .i64 0) := (blk_cell BK102.out 10).trans rfl; have hfz45_0 := blk_frozen BK102.out 0; have hfz45_1 := blk_frozen BK102.out 1; have hfz45_2 := blk_frozen BK102.out 2; have hfz45_3 := blk_frozen BK102.out 3; have hfz45_4 := blk_frozen BK102.out 4; have hfz45_5 := blk_frozen BK102.out 5; have hfz45_6 := blk_frozen BK102.out 6; have hfz45_7 := blk_frozen BK102.out 7; have hfz45_8 := blk_frozen BK102.out 8; have hfz45_9 := blk_frozen BK102.out 9; have hfz45_10 := blk_frozen BK102.out 10) | ((with_reducible refine gate_callee (f := 28) rfl ?_); refine goesL_ (some 18) rfl rfl Tryd.func28 (by kernel_rfl) rfl #[.agg #[.string ((rd_T35 l0 x4_1).f0), .int .i64 ((rd_T35 l0 x4_1).f1), .int .i64 ((rd_T35 l0 x4_1).f2), .int .i64 ((rd_T35 l0 x4_1).f3.f0), .int .i64 ((rd_T35 l0 x4_1).f3.f1), .int .i64 ((rd_T35 l0 x4_1).f3.f2), .int .i64 ((rd_T35 l0 x4_1).f3.f3), .int .i64 ((rd_T35 l0 x4_1).f3.f4), .string ((rd_T35 l0 x4_1).f4), .string ((rd_T35 l0 x4_1).f5), .int .i64 ((rd_T35 l0 x4_1).f6)]] rfl (by (try simp only [List.map_toArray, List.map_cons, List.map_nil]); first | done | rfl | (simp only [List.length_drop, List.length_take]; rfl)) ?_; (with_reducible refine (flist_alone.calls k1 ((rd_T35 l0 x4_1).f0) ((rd_T35 l0 x4_1).f1) ((rd_T35 l0 x4_1).f2) ((rd_T35 l0 x4_1).f3.f0) ((rd_T35 l0 x4_1).f3.f1) ((rd_T35 l0 x4_1).f3.f2) ((rd_T35 l0 x4_1).f3.f3) ((rd_T35 l0 x4_1).f3.f4) ((rd_T35 l0 x4_1).f4) ((rd_T35 l0 x4_1).f5) ((rd_T35 l0 x4_1).f6) t103 _ A4.out).mono ?_); rintro e w46 ⟨rfl, hb⟩; refine ⟨_, rfl, ?_⟩; have n0_ := Aside0.mk (blk_below (g := gb102) (o := .cells #[.string ((rd_T35 l0 x4_1).f0), .int .i64 ((rd_T35 l0 x4_1).f1), .int .i64 ((rd_T35 l0 x4_1).f2), .int .i64 ((rd_T35 l0 x4_1).f3.f0), .int .i64 ((rd_T35 l0 x4_1).f3.f1), .int .i64 ((rd_T35 l0 x4_1).f3.f2), .int .i64 ((rd_T35 l0 x4_1).f3.f3), .int .i64 ((rd_T35 l0 x4_1).f3.f4), .string ((rd_T35 l0 x4_1).f4), .string ((rd_T35 l0 x4_1).f5), .int .i64 ((rd_T35 l0 x4_1).f6)] 35 (0, 0)) (by (with_reducible repeat (first | refine blk_drewN ?_ _ | refine blk_drew ?_ | refine blk_alloc ?_ _)); refine blk_put (cs := #[.string ((rd_T35 l0 x4_1).f0), .int .i64 ((rd_T35 l0 x4_1).f1), .int .i64 ((rd_T35 l0 x4_1).f2), .int .i64 ((rd_T35 l0 x4_1).f3.f0), .int .i64 ((rd_T35 l0 x4_1).f3.f1), .int .i64 ((rd_T35 l0 x4_1).f3.f2), .int .i64 ((rd_T35 l0 x4_1).f3.f3), .int .i64 ((rd_T35 l0 x4_1).f3.f4), .string ((rd_T35 l0 x4_1).f4), .string ((rd_T35 l0 x4_1).f5), .int .i64 0]) ?_ 10 _ rfl; (with_reducible repeat (first | refine blk_drewN ?_ _ | refine blk_drew ?_ | refine blk_alloc ?_ _)); refine blk_put (cs := #[.string ((rd_T35 l0 x4_1).f0), .int .i64 ((rd_T35 l0 x4_1).f1), .int .i64 ((rd_T35 l0 x4_1).f2), .int .i64 ((rd_T35 l0 x4_1).f3.f0), .int .i64 ((rd_T35 l0 x4_1).f3.f1), .int .i64 ((rd_T35 l0 x4_1).f3.f2), .int .i64 ((rd_T35 l0 x4_1).f3.f3), .int .i64 ((rd_T35 l0 x4_1).f3.f4), .string ((rd_T35 l0 x4_1).f4), .string (⟨#[]⟩ : ByteArray), .int .i64 0]) ?_ 9 _ rfl; (with_reducible repeat (first | refine blk_drewN ?_ _ | refine blk_drew ?_ | refine blk_alloc ?_ _)); refine blk_put (cs := #[.string ((rd_T35 l0 x4_1).f0), .int .i64 ((rd_T35 l0 x4_1).f1), .int .i64 ((rd_T35 l0 x4_1).f2), .int .i64 ((rd_T35 l0 x4_1).f3.f0), .int .i64 ((rd_T35 l0 x4_1).f3.f1), .int .i64 ((rd_T35 l0 x4_1).f3.f2), .int .i64 ((rd_T35 l0 x4_1).f3.f3), .int .i64 ((rd_T35 l0 x4_1).f3.f4), .string (⟨#[]⟩ : ByteArray), .string (⟨#[]⟩ : ByteArray), .int .i64 0]) ?_ 8 _ rfl; (with_reducible repeat (first | refine blk_drewN ?_ _ | refine blk_drew ?_ | refine blk_alloc ?_ _)); refine blk_put (cs := #[.string ((rd_T35 l0 x4_1).f0), .int .i64 ((rd_T35 l0 x4_1).f1), .int .i64 ((rd_T35 l0 x4_1).f2), .int .i64 ((rd_T35 l0 x4_1).f3.f0), .int .i64 ((rd_T35 l0 x4_1).f3.f1), .int .i64 ((rd_T35 l0 x4_1).f3.f2), .int .i64 ((rd_T35 l0 x4_1).f3.f3), .int .i64 0, .string (⟨#[]⟩ : ByteArray), .string (⟨#[]⟩ : ByteArray), .int .i64 0]) ?_ 7 _ rfl; (with_reducible repeat (first | refine blk_drewN ?_ _ | refine blk_drew ?_ | refine blk_alloc ?_ _)); refine blk_put (cs := #[.string ((rd_T35 l0 x4_1).f0), .int .i64 ((rd_T35 l0 x4_1).f1), .int .i64 ((rd_T35 l0 x4_1).f2), .int .i64 ((rd_T35 l0 x4_1).f3.f0), .int .i64 ((rd_T35 l0 x4_1).f3.f1), .int .i64 ((rd_T35 l0 x4_1).f3.f2), .int .i64 0, .int .i64 0, .string (⟨#[]⟩ : ByteArray), .string (⟨#[]⟩ : ByteArray), .int .i64 0]) ?_ 6 _ rfl; (with_reducible repeat (first | refine blk_drewN ?_ _ | refine blk_drew ?_ | refine blk_alloc ?_ _)); refine blk_put (cs := #[.string ((rd_T35 l0 x4_1).f0), .int .i64 ((rd_T35 l0 x4_1).f1), .int .i64 ((rd_T35 l0 x4_1).f2), .int .i64 ((rd_T35 l0 x4_1).f3.f0), .int .i64 ((rd_T35 l0 x4_1).f3.f1), .int .i64 0, .int .i64 0, .int .i64 0, .string (⟨#[]⟩ : ByteArray), .string (⟨#[]⟩ : ByteArray), .int .i64 0]) ?_ 5 _ rfl; (with_reducible repeat (first | refine blk_drewN ?_ _ | refine blk_drew ?_ | refine blk_alloc ?_ _)); refine blk_put (cs := #[.string ((rd_T35 l0 x4_1).f0), .int .i64 ((rd_T35 l0 x4_1).f1), .int .i64 ((rd_T35 l0 x4_1).f2), .int .i64 ((rd_T35 l0 x4_1).f3.f0), .int .i64 0, .int .i64 0, .int .i64 0, .int .i64 0, .string (⟨#[]⟩ : ByteArray), .string (⟨#[]⟩ : ByteArray), .int .i64 0]) ?_ 4 _ rfl; (with_reducible repeat (first | refine blk_drewN ?_ _ | refine blk_drew ?_ | refine blk_alloc ?_ _)); refine blk_put (cs := #[.string ((rd_T35 l0 x4_1).f0), .int .i64 ((rd_T35 l0 x4_1).f1), .int .i64 ((rd_T35 l0 x4_1).f2), .int .i64 0, .int .i64 0, .int .i64 0, .int .i64 0, .int .i64 0, .string (⟨#[]⟩ : ByteArray), .string (⟨#[]⟩ : ByteArray), .int .i64 0]) ?_ 3 _ rfl; (with_reducible repeat (first | refine blk_drewN ?_ _ | refine blk_drew ?_ | refine blk_alloc ?_ _)); refine blk_put (cs := #[.string ((rd_T35 l0 x4_1).f0), .int .i64 ((rd_T35 l0 x4_1).f1), .int .i64 0, .int .i64 0, .int .i64 0, .int .i64 0, .int .i64 0, .int .i64 0, .string (⟨#[]⟩ : ByteArray), .string (⟨#[]⟩ : ByteArray), .int .i64 0]) ?_ 2 _ rfl; (with_reducible repeat (first | refine blk_drewN ?_ _ | refine blk_drew ?_ | refine blk_alloc ?_ _)); refine blk_put (cs := #[.string ((rd_T35 l0 x4_1).f0), .int .i64 0, .int .i64 0, .int .i64 0, .int .i64 0, .int .i64 0, .int .i64 0, .int .i64 0, .string (⟨#[]⟩ : ByteArray), .string (⟨#[]⟩ : ByteArray), .int .i64 0]) ?_ 1 _ rfl; (with_reducible repeat (first | refine blk_drewN ?_ _ | refine blk_drew ?_ | refine blk_alloc ?_ _)); refine blk_put (cs := #[.string (⟨#[]⟩ : ByteArray), .int .i64 0, .int .i64 0, .int .i64 0, .int .i64 0, .int .i64 0, .int .i64 0, .int .i64 0, .string (⟨#[]⟩ : ByteArray), .string (⟨#[]⟩ : ByteArray), .int .i64 0]) ?_ 0 _ rfl; (with_reducible repeat (first | refine blk_drewN ?_ _ | refine blk_drew ?_ | refine blk_alloc ?_ _)); exact BK102.out) hb); have n1_ := Aside0.mk (below_step (by repeat (first | (with_reducible first | exact HB.out | apply below_alloc | apply pw_below_drewN | apply below_drew1 | refine below_set ?_ GE102.out) | exact HB.out)) hb); have n9_ := Aside0.mk (MapB.step (w := w) (mb := w.heap.size) (P := l0.take x4_1.toNat) (by (with_reducible repeat (refine MapB.set ?_ NE102.out)); with_reducible exact HM.out) hb); clear HM; have HM := n9_; clear n9_; clear BK102; clear HB; have BK102 := n0_; have HB := n1_; clear n0_ n1_; (try clear hb); (try clear hb2); (try clear hk); (try clear hi)))
      go_ret
      exact ⟨by first | rfl | (simp [errW_none, errW_some] <;> rfl) | (simp [*, errW_none, errW_some] <;> rfl), by repeat (first | (with_reducible first | exact HB.out | apply below_alloc | apply pw_below_drewN | apply below_drew1 | refine below_set ?_ GE102.out) | exact HB.out)⟩
    ·rw [if_neg c3] at H
     exact absurd H (by simp)
   ·rw [if_neg c2] at H
    have c2b0 : decide (x4_1 < (l0.length : Int)) = false := decide_eq_false c2
    clear c2
    obtain rfl := Option.some.inj H
    go_wp2
    go_ret
    exact ⟨by first | rfl | (simp [errW_none, errW_some] <;> rfl) | (simp [*, errW_none, errW_some] <;> rfl), by repeat (first | (with_reducible first | exact HB.out | apply below_alloc | apply pw_below_drewN | apply below_drew1) | exact HB.out)⟩
theorem fcheck_l (L : List S35) (hL : light20 L) : ∀ (m i k : Nat) (last : Int), L.length - i = m → i ≤ L.length → 4 * m + 3000100 ≤ k → 0 ≤ last → last ≤ i → flist_Check_h.l0 k L last (i : Int) = some (checkG (L.take i) last (L.drop i)) := by
 obtain ⟨hn, hz⟩ := hL
 intro m
 induction m with
 | zero =>
  intro i k last hm hi hk h0 h1
  obtain ⟨k, rfl⟩ : ∃ j, k = j + 1 := ⟨k - 1, by omega⟩
  obtain rfl : i = L.length := by omega
  rw [flist_Check_h.l0, if_neg (by omega), List.drop_length]
  rfl
 | succ m ih =>
  intro i k last hm hi hk h0 h1
  obtain ⟨k, rfl⟩ : ∃ j, k = j + 3 := ⟨k - 3, by omega⟩
  have hlt : i < L.length := by omega
  have e1 : wrap64 ((i : Int) + 1) = ((i + 1 : Nat) : Int) := by rw [wr64 _ (by omega) (by omega)]; rfl
  have e2 : wrap64 (last + 1) = last + 1 := wr64 _ (by omega) (by omega)
  have hx : (L[i]).f0.size ≤ 1048576 := hz _ (List.getElem_mem hlt)
  have htl : (L.take i).length = i := by rw [List.length_take]; omega
  rw [flist_Check_h.l0, if_pos (by omega), if_pos (by omega), rd35_get L i hlt, alone_f (L[i]) (by omega) (k + 2) (by omega), Option.bind_some, List.drop_eq_getElem_cons hlt, checkG_cons]
  by_cases ha : aloneI (L[i]) = 0
  ·rw [if_pos ha]
   have j2f : (¬ (L.take i ≠ [] ∧ L[i].f0 = (prev (L.take i)).f0)) → (¬ (L.take i ≠ [] ∧ cmpL (splitL L[i].f0) (splitL (prev (L.take i)).f0) < 0)) → flist_Check_h.j2 (k + 1) L last (i : Int) false L[i].f0 L[i].f1 L[i].f2 L[i].f3.f0 L[i].f3.f1 L[i].f3.f2 L[i].f3.f3 L[i].f3.f4 L[i].f4 L[i].f5 L[i].f6 = some (if stepC (L.take i) last (L[i]) ≠ 0 then stepC (L.take i) last (L[i]) else checkG (L.take i ++ [L[i]]) (maxI last (L[i]).f6) (L.drop (i + 1))) := fun n1 n2 => by
    have hst0 : stepC (L.take i) last (L[i]) = if dirsB (L.take i) (parB L[i].f0) = false then 12 else if L[i].f6 > last + 1 then 5 else 0 := by
     unfold stepC
     rw [if_neg (fun h => h ha), if_neg n1, if_neg n2]
    rw [flist_Check_h.j2, if_neg (by decide), parent_f L[i].f0 (by unfold sml; omega) k (by omega), Option.bind_some, Int.toNat_natCast, e1, e2]
    by_cases hd : dirsB (L.take i) (parB L[i].f0) = false
    ·rw [if_pos hd] at hst0
     rw [if_pos hd, hst0, if_pos (by decide)]
    ·rw [if_neg hd] at hst0
     rw [if_neg hd, hst0]
     by_cases hg : L[i].f6 > last + 1
     ·rw [if_pos hg, if_pos hg, if_pos (by decide)]
     ·rw [if_neg hg, if_neg hg, if_neg (by decide), ← List.take_succ_eq_append_getElem hlt]
      have hmx : mx last L[i].f6 = maxI last L[i].f6 := rfl
      rw [hmx]
      refine ih (i + 1) k _ (by omega) (by omega) (by omega) ?_ ?_
      ·unfold maxI; split <;> omega
      ·unfold maxI; split <;> omega
   have j2t : (L.take i ≠ [] ∧ ¬ L[i].f0 = (prev (L.take i)).f0 ∧ cmpL (splitL L[i].f0) (splitL (prev (L.take i)).f0) < 0) → flist_Check_h.j2 (k + 1) L last (i : Int) true L[i].f0 L[i].f1 L[i].f2 L[i].f3.f0 L[i].f3.f1 L[i].f3.f2 L[i].f3.f3 L[i].f3.f4 L[i].f4 L[i].f5 L[i].f6 = some (if stepC (L.take i) last (L[i]) ≠ 0 then stepC (L.take i) last (L[i]) else checkG (L.take i ++ [L[i]]) (maxI last (L[i]).f6) (L.drop (i + 1))) := fun ⟨n1, n2, n3⟩ => by
    have hst : stepC (L.take i) last (L[i]) = 3 := by
     unfold stepC
     rw [if_neg (fun h => h ha), if_neg (fun h => n2 h.2), if_pos ⟨n1, n3⟩]
    rw [flist_Check_h.j2, if_pos rfl, hst, if_pos (by decide)]
   by_cases hi0 : 0 < i
   ·obtain ⟨hpv, hne⟩ := prev_eq L i hi0 (by omega)
    have e3 : wrap64 ((i : Int) - 1) = ((i - 1 : Nat) : Int) := by rw [wr64 _ (by omega) (by omega)]; omega
    have hpl : (L[i - 1]'(by omega)).f0.size ≤ 1048576 := hz _ (List.getElem_mem _)
    rw [if_pos (by omega), e3, if_pos (by omega), if_pos (by omega), rd35_get L (i - 1) (by omega), ← hpv, tl_beq]
    rw [← hpv] at hpl
    by_cases hq : L[i].f0 = (prev (L.take i)).f0
    ·have hst : stepC (L.take i) last (L[i]) = 11 := by
      unfold stepC
      rw [if_neg (fun h => h ha), if_pos ⟨hne, hq⟩]
     rw [decide_eq_true hq, flist_Check_h.j1, if_pos rfl, hst, if_pos (by decide)]
    ·rw [decide_eq_false hq, flist_Check_h.j1, if_neg (by decide), if_pos (by omega), e3, if_pos (by omega), if_pos (by omega), rd35_get L (i - 1) (by omega), ← hpv, less_f _ _ (by unfold sml; omega) (by unfold sml; omega) (k + 1) (by omega), Option.bind_some]
     by_cases hc : cmpL (splitL L[i].f0) (splitL (prev (L.take i)).f0) < 0
     ·rw [decide_eq_true hc]
      exact j2t ⟨hne, hq, hc⟩
     ·rw [decide_eq_false hc]
      exact j2f (fun h => hq h.2) (fun h => hc h.2)
   ·obtain rfl : i = 0 := by omega
    rw [if_neg (by omega), flist_Check_h.j1, if_neg (by decide), if_neg (by omega)]
    exact j2f (fun h => h.1 rfl) (fun h => h.1 rfl)
  ·have hst : stepC (L.take i) last (L[i]) = aloneI (L[i]) := by
    unfold stepC
    rw [if_pos ha]
   rw [if_neg ha, hst, if_pos ha]
instance light20_dec (L : List S35) : Decidable (light20 L) := inferInstanceAs (Decidable (_ ∧ _))
def flist_Check.f (l0 : List S35) : Option Int := if light20 l0 then some (checkL20 l0) else none
theorem flist_Check.calls (A0 : Option Addr) (c0 : Nat) (l0 : List (S35)) (r : Int) (w : World) (hr0 : Kd.C k35 w A0 l0.length l0) (hc0 : l0.length ≤ c0) (h : flist_Check.f l0 = some r) :
  Calls Tryd.prog 12 #[.slice A0 l0.length c0] w fun e w' => e = .returned (.int .i64 r) ∧ Below w.heap.size w w' := by
 unfold flist_Check.f at h
 by_cases hL : light20 l0
 ·rw [if_pos hL] at h
  have hn := hL.1
  exact flist_Check_h.calls 3020000 A0 c0 l0 r w hr0 hL (by rw [← h]; exact fcheck_l l0 hL l0.length 0 3020000 0 (by omega) (by omega) (by omega) (by omega) (by omega))
 ·rw [if_neg hL] at h
  exact absurd h (by simp)
end Go.Proofs.YtcdmgdegohcmhaaDoor.PA
namespace Go.Proofs.YtcdmgdegohcmhaaDoor.PA
open Go.RowKit Go.Proofs.YtcdmgdegohcmhaaDoorW.PrintWords Go.Proofs.YtcdmgdegohcmhaaDoorW.PrintLast Go.Proofs.YtcdmgdegohcmhaaDoorW.PrintMore
attribute [local go_sem] max2_int min2_int max_two min_two max_three min_three max_four min_four
set_option linter.unusedVariables false
set_option linter.unusedSimpArgs false
def flist_like_h.T2 : Bool × List (List Nat × List Nat) := (true, [([], []), ([], []), ([1], [1]), ([], []), ([3], [3]), ([2, 4], [2, 4]), ([0, 5], [0, 5]), ([6], [6]), ([7], [7]), ([7], [7]), ([8, 9, 7], [7, 8, 9]), ([7], [7]), ([7], [7]), ([11, 12, 7], [7, 11, 12]), ([10, 13, 7], [7, 10, 13]), ([7, 14], [7, 14])])
def flist_like_h.B2 : List Nat := [0, 0, 2, 0, 8, 30, 63, 127, 255, 255, 1023, 255, 255, 6399, 16383, 32767]
theorem flist_like_h.tab2 : rtab .any (opsOf Tryd.f34 2) = flist_like_h.T2 := by kernel_rfl
theorem flist_like_h.bits2 : waitsOk flist_like_h.T2.2 flist_like_h.B2 = true := by kernel_rfl
def likeL : List UInt8 → List UInt8 → Nat
 | x :: xs, y :: ys => if x = y then likeL xs ys + 1 else 0
 | [], _ => 0
 | _ :: _, [] => 0
def likeN (a b : ByteArray) : Nat := likeL a.data.toList b.data.toList
theorem likeL_le : ∀ x y : List UInt8, likeL x y ≤ x.length ∧ likeL x y ≤ y.length
 | x :: xs, y :: ys => by
  have := likeL_le xs ys
  unfold likeL
  split <;> simp <;> omega
 | [], _ => by simp [likeL]
 | _ :: _, [] => by simp [likeL]
theorem likeN_le (a b : ByteArray) : likeN a b ≤ a.size ∧ likeN a b ≤ b.size := by
 have := likeL_le a.data.toList b.data.toList
 rw [data_length, data_length] at this
 exact this
theorem likeL_comm : ∀ x y : List UInt8, likeL x y = likeL y x
 | x :: xs, y :: ys => by
  unfold likeL
  by_cases h : x = y
  ·rw [if_pos h, if_pos h.symm, likeL_comm xs ys]
  ·rw [if_neg h, if_neg (fun e => h e.symm)]
 | [], [] => rfl
 | [], _ :: _ => rfl
 | _ :: _, [] => rfl
def likeFrom (a b : ByteArray) (i : Nat) : Nat := likeL (a.data.toList.drop i) (b.data.toList.drop i)
theorem drop_bt (s : ByteArray) (i : Nat) (h : i < s.size) : ∃ x : UInt8, s.data.toList.drop i = x :: s.data.toList.drop (i + 1) ∧ bt s (i : Int) = (x.toNat : Int) := by
 have h' : i < s.data.toList.length := by rw [data_length]; exact h
 refine ⟨s.data.toList[i], List.drop_eq_getElem_cons h', ?_⟩
 have := rd_bytesOf s (i : Int)
 rw [← this]
 unfold rd bytesOf
 simp [List.getD_eq_getElem?_getD, List.getElem?_eq_getElem h']
theorem like_step (a b : ByteArray) (i : Nat) (ha : i < a.size) (hb : i < b.size) : likeFrom a b i = if bt a (i : Int) = bt b (i : Int) then likeFrom a b (i + 1) + 1 else 0 := by
 obtain ⟨x, hx, hbx⟩ := drop_bt a i ha
 obtain ⟨y, hy, hby⟩ := drop_bt b i hb
 unfold likeFrom
 rw [hx, hy, hbx, hby]
 show (if x = y then likeL (a.data.toList.drop (i + 1)) (b.data.toList.drop (i + 1)) + 1 else 0) = _
 by_cases h : x = y
 ·rw [if_pos h, if_pos (by rw [h])]
 ·rw [if_neg h, if_neg (fun e => h (UInt8.toNat_inj.1 (by omega)))]
theorem like_end (a b : ByteArray) (i : Nat) (h : a.size ≤ i ∨ b.size ≤ i) : likeFrom a b i = 0 := by
 unfold likeFrom
 rcases h with h | h
 ·rw [List.drop_eq_nil_of_le (by rw [data_length]; exact h)]
  rfl
 ·have e : b.data.toList.drop i = [] := List.drop_eq_nil_of_le (by rw [data_length]; exact h)
  rw [e, likeL_comm]
  rfl
def flist_like.f (a0 a1 : ByteArray) : Option Int := if a0.size < 4398046511104 ∧ a1.size < 4398046511104 then some (likeN a0 a1 : Int) else none
set_option maxHeartbeats 4000000 in
set_option maxRecDepth 100000 in
theorem flist_like.calls (a0 : ByteArray) (a1 : ByteArray) (r : Int) (w : World) (h : flist_like.f a0 a1 = some r) :
  Calls Tryd.prog 34 #[.string a0, .string a1] w fun e w' => e = .returned (.int .i64 r) ∧ Below w.heap.size w w' := by
 unfold flist_like.f at h
 by_cases hs : a0.size < 4398046511104 ∧ a1.size < 4398046511104
 ·rw [if_pos hs] at h
  have HE := Aside0.mk (Option.some.inj h)
  have HS := Aside0.mk hs
  clear h hs
  have HB := Aside0.mk (Below.refl w.heap.size w)
  go_enter Tryd.func34, Tryd.ntmps34
  go_wp2
  go_loopw [5] (fun v5 wr => ∃ i : Nat, v5 = .int .i64 (i : Int) ∧ Aside0 (i ≤ a0.size ∧ i ≤ a1.size ∧ likeN a0 a1 = i + likeFrom a0 a1 i) ∧ Aside0 (Below w.heap.size w wr)) (fun v5 _ => a0.size - (intOf v5).toNat)
  case atStart => exact ⟨0, rfl, ⟨Nat.zero_le _, Nat.zero_le _, by unfold likeFrom likeN; rw [List.drop_zero, List.drop_zero]; omega⟩, HB⟩
  case round =>
   obtain ⟨i, rfl, HI, HB⟩ := hrel
   obtain ⟨m, hm⟩ : ∃ m : Int, (if a1.size < a0.size then (a1.size : Int) else (a0.size : Int)) = m := ⟨_, rfl⟩
   by_cases hlt : i < a0.size ∧ i < a1.size
   ·have hc1 : decide ((i : Int) < m) = true := decide_eq_true (by rw [← hm]; split <;> omega)
    have p1 : (0 ≤ (i : Int)) = True := eq_true (by omega)
    have p2 : ((i : Int) < (a0.size : Int)) = True := eq_true (by omega)
    have p3 : ((i : Int) < (a1.size : Int)) = True := eq_true (by omega)
    have hx7 : ∀ h : i < a0.size, ((a0[i]'h).toNat : Int) = bt a0 (i : Int) := bt_at a0 (i : Int)
    have hx9 : ∀ h : i < a1.size, ((a1[i]'h).toNat : Int) = bt a1 (i : Int) := bt_at a1 (i : Int)
    have hst := like_step a0 a1 i hlt.1 hlt.2
    by_cases he : bt a0 (i : Int) = bt a1 (i : Int)
    ·rw [if_pos he] at hst
     have hST := Aside0.mk hst
     have heb : (bt a0 (i : Int) == bt a1 (i : Int)) = true := beq_iff_eq.mpr he
     clear hst he
     go_wp2
     have n0_ := Aside0.mk (below_drew1 HB.out)
     clear HB
     have HB := n0_
     clear n0_
     refine start_ (n := 16) (S := fun w' => True) (ds := []) #[false, false, false, false, false, false, false, false, false, false, false, false, false, false, false, false] (by kernel_rfl) rfl rfl trivial (fun hHeld => ?_)
     refine with_tabW flist_like_h.tab2 flist_like_h.bits2 (fun HT_ HW_ => ?_)
     refine pure_ (i := 0) (N := some 6) (v := ?_) (a' := ?_) #[true, false, false, false, false, false, false, false, false, false, false, false, false, false, false, false] rfl rfl (any_of HT_.out (by kernel_rfl)) (fun _ _ _ h => h) (Or.inl ⟨by rfl, ?_⟩) ?_ ?_
     rotate_left
     ·intro w'
      go_simp
      with_reducible rfl
     rotate_left
     ·simp only [Act.put, List.setIfInBounds_toArray, List.set_cons_zero, List.set_cons_succ, i64_w, i32_w]
      rfl
     refine pure_ (i := 1) (N := some 7) (v := ?_) (a' := ?_) #[true, true, false, false, false, false, false, false, false, false, false, false, false, false, false, false] rfl rfl (any_of HT_.out (by kernel_rfl)) (fun _ _ _ h => h) (Or.inl ⟨by rfl, ?_⟩) ?_ ?_
     rotate_left
     ·intro w'
      go_simp
      with_reducible rfl
     rotate_left
     ·simp only [Act.put, List.setIfInBounds_toArray, List.set_cons_zero, List.set_cons_succ, i64_w, i32_w]
      rfl
     refine pure_ (i := 2) (N := some 8) (v := ?_) (a' := ?_) #[true, true, true, false, false, false, false, false, false, false, false, false, false, false, false, false] rfl rfl (any_of HT_.out (by kernel_rfl)) (fun _ _ _ h => h) (Or.inl ⟨by rfl, ?_⟩) ?_ ?_
     rotate_left
     ·intro w'
      go_simp
      with_reducible rfl
     rotate_left
     ·simp only [Act.put, List.setIfInBounds_toArray, List.set_cons_zero, List.set_cons_succ, i64_w, i32_w]
      rfl
     refine pure_ (i := 3) (N := some 9) (v := ?_) (a' := ?_) #[true, true, true, true, false, false, false, false, false, false, false, false, false, false, false, false] rfl rfl (any_of HT_.out (by kernel_rfl)) (fun _ _ _ h => h) (Or.inl ⟨by rfl, ?_⟩) ?_ ?_
     rotate_left
     ·intro w'
      go_simp
      with_reducible rfl
     rotate_left
     ·simp only [Act.put, List.setIfInBounds_toArray, List.set_cons_zero, List.set_cons_succ, i64_w, i32_w]
      rfl
     refine pure_ (i := 4) (N := some 10) (v := ?_) (a' := ?_) #[true, true, true, true, true, false, false, false, false, false, false, false, false, false, false, false] rfl rfl (any_of HT_.out (by kernel_rfl)) (fun _ _ _ h => h) (Or.inl ⟨by rfl, ?_⟩) ?_ ?_
     rotate_left
     ·intro w'
      go_simp
      with_reducible rfl
     rotate_left
     ·simp only [Act.put, List.setIfInBounds_toArray, List.set_cons_zero, List.set_cons_succ, i64_w, i32_w]
      rfl
     refine pure_ (i := 5) (N := some 11) (v := ?_) (a' := ?_) #[true, true, true, true, true, true, false, false, false, false, false, false, false, false, false, false] rfl rfl (any_of HT_.out (by kernel_rfl)) (fun _ _ _ h => h) (Or.inl ⟨by rfl, ?_⟩) ?_ ?_
     rotate_left
     ·intro w'
      go_simp
      with_reducible rfl
     rotate_left
     ·simp only [Act.put, List.setIfInBounds_toArray, List.set_cons_zero, List.set_cons_succ, i64_w, i32_w]
      rfl
     refine pure_ (i := 6) (N := some 12) (v := ?_) (a' := ?_) #[true, true, true, true, true, true, true, false, false, false, false, false, false, false, false, false] rfl rfl (any_of HT_.out (by kernel_rfl)) (fun _ _ _ h => h) (Or.inl ⟨by rfl, ?_⟩) ?_ ?_
     rotate_left
     ·intro w'
      go_simp
      with_reducible rfl
     rotate_left
     ·simp only [Act.put, List.setIfInBounds_toArray, List.set_cons_zero, List.set_cons_succ, i64_w, i32_w]
      rfl
     refine pure_ (i := 7) (N := some 13) (v := ?_) (a' := ?_) #[true, true, true, true, true, true, true, true, false, false, false, false, false, false, false, false] rfl rfl (any_of HT_.out (by kernel_rfl)) (fun _ _ _ h => h) (Or.inl ⟨by rfl, ?_⟩) ?_ ?_
     rotate_left
     ·intro w'
      go_simp
      with_reducible rfl
     rotate_left
     ·simp only [Act.put, List.setIfInBounds_toArray, List.set_cons_zero, List.set_cons_succ, i64_w, i32_w]
      rfl
     refine pure_ (i := 8) (N := some 14) (v := ?_) (a' := ?_) #[true, true, true, true, true, true, true, true, true, false, false, false, false, false, false, false] rfl rfl (any_of HT_.out (by kernel_rfl)) (fun _ _ _ h => h) (Or.inl ⟨by rfl, ?_⟩) ?_ ?_
     rotate_left
     ·intro w'
      go_simp
      with_reducible rfl
     rotate_left
     ·simp only [Act.put, List.setIfInBounds_toArray, List.set_cons_zero, List.set_cons_succ, i64_w, i32_w]
      rfl
     refine pure_ (i := 9) (N := some 15) (v := ?_) (a' := ?_) #[true, true, true, true, true, true, true, true, true, true, false, false, false, false, false, false] rfl rfl (any_of HT_.out (by kernel_rfl)) (fun _ _ _ h => h) (Or.inl ⟨by rfl, ?_⟩) ?_ ?_
     rotate_left
     ·intro w'
      go_simp
      with_reducible rfl
     rotate_left
     ·simp only [Act.put, List.setIfInBounds_toArray, List.set_cons_zero, List.set_cons_succ, i64_w, i32_w]
      rfl
     refine pure_ (i := 10) (N := some 16) (v := ?_) (a' := ?_) #[true, true, true, true, true, true, true, true, true, true, true, false, false, false, false, false] rfl rfl (any_of HT_.out (by kernel_rfl)) (fun _ _ _ h => h) (Or.inl ⟨by rfl, ?_⟩) ?_ ?_
     rotate_left
     ·intro w'
      go_simp
      with_reducible rfl
     rotate_left
     ·simp only [Act.put, List.setIfInBounds_toArray, List.set_cons_zero, List.set_cons_succ, i64_w, i32_w]
      rfl
     refine pure_ (i := 11) (N := some 17) (v := ?_) (a' := ?_) #[true, true, true, true, true, true, true, true, true, true, true, true, false, false, false, false] rfl rfl (any_of HT_.out (by kernel_rfl)) (fun _ _ _ h => h) (Or.inl ⟨by rfl, ?_⟩) ?_ ?_
     rotate_left
     ·intro w'
      go_simp
      with_reducible rfl
     rotate_left
     ·simp only [Act.put, List.setIfInBounds_toArray, List.set_cons_zero, List.set_cons_succ, i64_w, i32_w]
      rfl
     refine pure_ (i := 12) (N := some 18) (v := ?_) (a' := ?_) #[true, true, true, true, true, true, true, true, true, true, true, true, true, false, false, false] rfl rfl (any_of HT_.out (by kernel_rfl)) (fun _ _ _ h => h) (Or.inl ⟨by rfl, ?_⟩) ?_ ?_
     rotate_left
     ·intro w'
      go_simp
      with_reducible rfl
     rotate_left
     ·simp only [Act.put, List.setIfInBounds_toArray, List.set_cons_zero, List.set_cons_succ, i64_w, i32_w]
      rfl
     refine pure_ (i := 13) (N := some 19) (v := ?_) (a' := ?_) #[true, true, true, true, true, true, true, true, true, true, true, true, true, true, false, false] rfl rfl (any_of HT_.out (by kernel_rfl)) (fun _ _ _ h => h) (Or.inl ⟨by rfl, ?_⟩) ?_ ?_
     rotate_left
     ·intro w'
      go_simp
      with_reducible rfl
     rotate_left
     ·simp only [Act.put, List.setIfInBounds_toArray, List.set_cons_zero, List.set_cons_succ, i64_w, i32_w]
      rfl
     refine pure_ (i := 14) (N := some 20) (v := ?_) (a' := ?_) #[true, true, true, true, true, true, true, true, true, true, true, true, true, true, true, false] rfl rfl (any_of HT_.out (by kernel_rfl)) (fun _ _ _ h => h) (Or.inl ⟨by rfl, ?_⟩) ?_ ?_
     rotate_left
     ·intro w'
      go_simp
      with_reducible rfl
     rotate_left
     ·simp only [Act.put, List.setIfInBounds_toArray, List.set_cons_zero, List.set_cons_succ, i64_w, i32_w]
      rfl
     refine pure_ (i := 15) (N := some 21) (v := ?_) (a' := ?_) #[true, true, true, true, true, true, true, true, true, true, true, true, true, true, true, true] rfl rfl (any_of HT_.out (by kernel_rfl)) (fun _ _ _ h => h) (Or.inl ⟨by rfl, ?_⟩) ?_ ?_
     rotate_left
     ·intro w'
      go_simp
      with_reducible rfl
     rotate_left
     ·simp only [Act.put, List.setIfInBounds_toArray, List.set_cons_zero, List.set_cons_succ, i64_w, i32_w]
      rfl
     refine done_ (done_of HT_.out (by kernel_rfl)) ?_
     go_wp2
     have e1 : wrap64 ((i : Int) + 1) = ((i + 1 : Nat) : Int) := by
      have := HS.out
      rw [wr64 _ (by omega) (by omega)]
      exact (Int.natCast_succ i).symm
     go_roundw
     case rel => exact ⟨i + 1, by rw [e1], ⟨by omega, by omega, by have := HI.out.2.2; have := hST.out; omega⟩, HB⟩
     case measure =>
      rw [e1]
      show a0.size - ((i + 1 : Nat) : Int).toNat < a0.size - (i : Int).toNat
      rw [Int.toNat_natCast, Int.toNat_natCast]
      have := hlt.1
      omega
    ·rw [if_neg he] at hst
     have hST := Aside0.mk hst
     have heb : (bt a0 (i : Int) == bt a1 (i : Int)) = false := beq_eq_false_iff_ne.mpr he
     clear hst he
     go_wp2
     have n0_ := Aside0.mk (below_drew1 HB.out)
     clear HB
     have HB := n0_
     clear n0_
     refine start_ (n := 16) (S := fun w' => True) (ds := []) #[false, false, false, false, false, false, false, false, false, false, false, false, false, false, false, false] (by kernel_rfl) rfl rfl trivial (fun hHeld => ?_)
     refine with_tabW flist_like_h.tab2 flist_like_h.bits2 (fun HT_ HW_ => ?_)
     refine pure_ (i := 0) (N := some 6) (v := ?_) (a' := ?_) #[true, false, false, false, false, false, false, false, false, false, false, false, false, false, false, false] rfl rfl (any_of HT_.out (by kernel_rfl)) (fun _ _ _ h => h) (Or.inl ⟨by rfl, ?_⟩) ?_ ?_
     rotate_left
     ·intro w'
      go_simp
      with_reducible rfl
     rotate_left
     ·simp only [Act.put, List.setIfInBounds_toArray, List.set_cons_zero, List.set_cons_succ, i64_w, i32_w]
      rfl
     refine pure_ (i := 1) (N := some 7) (v := ?_) (a' := ?_) #[true, true, false, false, false, false, false, false, false, false, false, false, false, false, false, false] rfl rfl (any_of HT_.out (by kernel_rfl)) (fun _ _ _ h => h) (Or.inl ⟨by rfl, ?_⟩) ?_ ?_
     rotate_left
     ·intro w'
      go_simp
      with_reducible rfl
     rotate_left
     ·simp only [Act.put, List.setIfInBounds_toArray, List.set_cons_zero, List.set_cons_succ, i64_w, i32_w]
      rfl
     refine pure_ (i := 2) (N := some 8) (v := ?_) (a' := ?_) #[true, true, true, false, false, false, false, false, false, false, false, false, false, false, false, false] rfl rfl (any_of HT_.out (by kernel_rfl)) (fun _ _ _ h => h) (Or.inl ⟨by rfl, ?_⟩) ?_ ?_
     rotate_left
     ·intro w'
      go_simp
      with_reducible rfl
     rotate_left
     ·simp only [Act.put, List.setIfInBounds_toArray, List.set_cons_zero, List.set_cons_succ, i64_w, i32_w]
      rfl
     refine pure_ (i := 3) (N := some 9) (v := ?_) (a' := ?_) #[true, true, true, true, false, false, false, false, false, false, false, false, false, false, false, false] rfl rfl (any_of HT_.out (by kernel_rfl)) (fun _ _ _ h => h) (Or.inl ⟨by rfl, ?_⟩) ?_ ?_
     rotate_left
     ·intro w'
      go_simp
      with_reducible rfl
     rotate_left
     ·simp only [Act.put, List.setIfInBounds_toArray, List.set_cons_zero, List.set_cons_succ, i64_w, i32_w]
      rfl
     refine pure_ (i := 4) (N := some 10) (v := ?_) (a' := ?_) #[true, true, true, true, true, false, false, false, false, false, false, false, false, false, false, false] rfl rfl (any_of HT_.out (by kernel_rfl)) (fun _ _ _ h => h) (Or.inl ⟨by rfl, ?_⟩) ?_ ?_
     rotate_left
     ·intro w'
      go_simp
      with_reducible rfl
     rotate_left
     ·simp only [Act.put, List.setIfInBounds_toArray, List.set_cons_zero, List.set_cons_succ, i64_w, i32_w]
      rfl
     refine pure_ (i := 5) (N := some 11) (v := ?_) (a' := ?_) #[true, true, true, true, true, true, false, false, false, false, false, false, false, false, false, false] rfl rfl (any_of HT_.out (by kernel_rfl)) (fun _ _ _ h => h) (Or.inl ⟨by rfl, ?_⟩) ?_ ?_
     rotate_left
     ·intro w'
      go_simp
      with_reducible rfl
     rotate_left
     ·simp only [Act.put, List.setIfInBounds_toArray, List.set_cons_zero, List.set_cons_succ, i64_w, i32_w]
      rfl
     refine pure_ (i := 6) (N := some 12) (v := ?_) (a' := ?_) #[true, true, true, true, true, true, true, false, false, false, false, false, false, false, false, false] rfl rfl (any_of HT_.out (by kernel_rfl)) (fun _ _ _ h => h) (Or.inl ⟨by rfl, ?_⟩) ?_ ?_
     rotate_left
     ·intro w'
      go_simp
      with_reducible rfl
     rotate_left
     ·simp only [Act.put, List.setIfInBounds_toArray, List.set_cons_zero, List.set_cons_succ, i64_w, i32_w]
      rfl
     refine pure_ (i := 7) (N := some 13) (v := ?_) (a' := ?_) #[true, true, true, true, true, true, true, true, false, false, false, false, false, false, false, false] rfl rfl (any_of HT_.out (by kernel_rfl)) (fun _ _ _ h => h) (Or.inl ⟨by rfl, ?_⟩) ?_ ?_
     rotate_left
     ·intro w'
      go_simp
      with_reducible rfl
     rotate_left
     ·simp only [Act.put, List.setIfInBounds_toArray, List.set_cons_zero, List.set_cons_succ, i64_w, i32_w]
      rfl
     refine pure_ (i := 8) (N := some 14) (v := ?_) (a' := ?_) #[true, true, true, true, true, true, true, true, true, false, false, false, false, false, false, false] rfl rfl (any_of HT_.out (by kernel_rfl)) (fun _ _ _ h => h) (Or.inl ⟨by rfl, ?_⟩) ?_ ?_
     rotate_left
     ·intro w'
      go_simp
      with_reducible rfl
     rotate_left
     ·simp only [Act.put, List.setIfInBounds_toArray, List.set_cons_zero, List.set_cons_succ, i64_w, i32_w]
      rfl
     refine pure_ (i := 9) (N := some 15) (v := ?_) (a' := ?_) #[true, true, true, true, true, true, true, true, true, true, false, false, false, false, false, false] rfl rfl (any_of HT_.out (by kernel_rfl)) (fun _ _ _ h => h) (Or.inl ⟨by rfl, ?_⟩) ?_ ?_
     rotate_left
     ·intro w'
      go_simp
      with_reducible rfl
     rotate_left
     ·simp only [Act.put, List.setIfInBounds_toArray, List.set_cons_zero, List.set_cons_succ, i64_w, i32_w]
      rfl
     refine pure_ (i := 10) (N := some 16) (v := ?_) (a' := ?_) #[true, true, true, true, true, true, true, true, true, true, true, false, false, false, false, false] rfl rfl (any_of HT_.out (by kernel_rfl)) (fun _ _ _ h => h) (Or.inl ⟨by rfl, ?_⟩) ?_ ?_
     rotate_left
     ·intro w'
      go_simp
      with_reducible rfl
     rotate_left
     ·simp only [Act.put, List.setIfInBounds_toArray, List.set_cons_zero, List.set_cons_succ, i64_w, i32_w]
      rfl
     refine pure_ (i := 11) (N := some 17) (v := ?_) (a' := ?_) #[true, true, true, true, true, true, true, true, true, true, true, true, false, false, false, false] rfl rfl (any_of HT_.out (by kernel_rfl)) (fun _ _ _ h => h) (Or.inl ⟨by rfl, ?_⟩) ?_ ?_
     rotate_left
     ·intro w'
      go_simp
      with_reducible rfl
     rotate_left
     ·simp only [Act.put, List.setIfInBounds_toArray, List.set_cons_zero, List.set_cons_succ, i64_w, i32_w]
      rfl
     refine pure_ (i := 12) (N := some 18) (v := ?_) (a' := ?_) #[true, true, true, true, true, true, true, true, true, true, true, true, true, false, false, false] rfl rfl (any_of HT_.out (by kernel_rfl)) (fun _ _ _ h => h) (Or.inl ⟨by rfl, ?_⟩) ?_ ?_
     rotate_left
     ·intro w'
      go_simp
      with_reducible rfl
     rotate_left
     ·simp only [Act.put, List.setIfInBounds_toArray, List.set_cons_zero, List.set_cons_succ, i64_w, i32_w]
      rfl
     refine pure_ (i := 13) (N := some 19) (v := ?_) (a' := ?_) #[true, true, true, true, true, true, true, true, true, true, true, true, true, true, false, false] rfl rfl (any_of HT_.out (by kernel_rfl)) (fun _ _ _ h => h) (Or.inl ⟨by rfl, ?_⟩) ?_ ?_
     rotate_left
     ·intro w'
      go_simp
      with_reducible rfl
     rotate_left
     ·simp only [Act.put, List.setIfInBounds_toArray, List.set_cons_zero, List.set_cons_succ, i64_w, i32_w]
      rfl
     refine pure_ (i := 14) (N := some 20) (v := ?_) (a' := ?_) #[true, true, true, true, true, true, true, true, true, true, true, true, true, true, true, false] rfl rfl (any_of HT_.out (by kernel_rfl)) (fun _ _ _ h => h) (Or.inl ⟨by rfl, ?_⟩) ?_ ?_
     rotate_left
     ·intro w'
      go_simp
      with_reducible rfl
     rotate_left
     ·simp only [Act.put, List.setIfInBounds_toArray, List.set_cons_zero, List.set_cons_succ, i64_w, i32_w]
      rfl
     refine pure_ (i := 15) (N := some 21) (v := ?_) (a' := ?_) #[true, true, true, true, true, true, true, true, true, true, true, true, true, true, true, true] rfl rfl (any_of HT_.out (by kernel_rfl)) (fun _ _ _ h => h) (Or.inl ⟨by rfl, ?_⟩) ?_ ?_
     rotate_left
     ·intro w'
      go_simp
      with_reducible rfl
     rotate_left
     ·simp only [Act.put, List.setIfInBounds_toArray, List.set_cons_zero, List.set_cons_succ, i64_w, i32_w]
      rfl
     refine done_ (done_of HT_.out (by kernel_rfl)) ?_
     go_wp2
     go_ret
     exact ⟨by rw [show r = (i : Int) from (by have := HE.out; have := HI.out.2.2; have := hST.out; omega)]; rfl, HB.out⟩
   ·have hc1 : decide ((i : Int) < m) = false := decide_eq_false (by rw [← hm]; split <;> omega)
    have hST := Aside0.mk (like_end a0 a1 i (by omega))
    go_wp2
    have n0_ := Aside0.mk (below_drew1 HB.out)
    clear HB
    have HB := n0_
    clear n0_
    refine start_ (n := 16) (S := fun w' => True) (ds := []) #[false, false, false, false, false, false, false, false, false, false, false, false, false, false, false, false] (by kernel_rfl) rfl rfl trivial (fun hHeld => ?_)
    refine with_tabW flist_like_h.tab2 flist_like_h.bits2 (fun HT_ HW_ => ?_)
    refine pure_ (i := 0) (N := some 6) (v := ?_) (a' := ?_) #[true, false, false, false, false, false, false, false, false, false, false, false, false, false, false, false] rfl rfl (any_of HT_.out (by kernel_rfl)) (fun _ _ _ h => h) (Or.inl ⟨by rfl, ?_⟩) ?_ ?_
    rotate_left
    ·intro w'
     go_simp
     with_reducible rfl
    rotate_left
    ·simp only [Act.put, List.setIfInBounds_toArray, List.set_cons_zero, List.set_cons_succ, i64_w, i32_w]
     rfl
    refine pure_ (i := 1) (N := some 7) (v := ?_) (a' := ?_) #[true, true, false, false, false, false, false, false, false, false, false, false, false, false, false, false] rfl rfl (any_of HT_.out (by kernel_rfl)) (fun _ _ _ h => h) (Or.inl ⟨by rfl, ?_⟩) ?_ ?_
    rotate_left
    ·intro w'
     go_simp
     with_reducible rfl
    rotate_left
    ·simp only [Act.put, List.setIfInBounds_toArray, List.set_cons_zero, List.set_cons_succ, i64_w, i32_w]
     rfl
    refine pure_ (i := 2) (N := some 8) (v := ?_) (a' := ?_) #[true, true, true, false, false, false, false, false, false, false, false, false, false, false, false, false] rfl rfl (any_of HT_.out (by kernel_rfl)) (fun _ _ _ h => h) (Or.inl ⟨by rfl, ?_⟩) ?_ ?_
    rotate_left
    ·intro w'
     go_simp
     with_reducible rfl
    rotate_left
    ·simp only [Act.put, List.setIfInBounds_toArray, List.set_cons_zero, List.set_cons_succ, i64_w, i32_w]
     rfl
    refine pure_ (i := 3) (N := some 9) (v := ?_) (a' := ?_) #[true, true, true, true, false, false, false, false, false, false, false, false, false, false, false, false] rfl rfl (any_of HT_.out (by kernel_rfl)) (fun _ _ _ h => h) (Or.inl ⟨by rfl, ?_⟩) ?_ ?_
    rotate_left
    ·intro w'
     go_simp
     with_reducible rfl
    rotate_left
    ·simp only [Act.put, List.setIfInBounds_toArray, List.set_cons_zero, List.set_cons_succ, i64_w, i32_w]
     rfl
    refine pure_ (i := 4) (N := some 10) (v := ?_) (a' := ?_) #[true, true, true, true, true, false, false, false, false, false, false, false, false, false, false, false] rfl rfl (any_of HT_.out (by kernel_rfl)) (fun _ _ _ h => h) (Or.inl ⟨by rfl, ?_⟩) ?_ ?_
    rotate_left
    ·intro w'
     go_simp
     with_reducible rfl
    rotate_left
    ·simp only [Act.put, List.setIfInBounds_toArray, List.set_cons_zero, List.set_cons_succ, i64_w, i32_w]
     rfl
    refine pure_ (i := 5) (N := some 11) (v := ?_) (a' := ?_) #[true, true, true, true, true, true, false, false, false, false, false, false, false, false, false, false] rfl rfl (any_of HT_.out (by kernel_rfl)) (fun _ _ _ h => h) (Or.inl ⟨by rfl, ?_⟩) ?_ ?_
    rotate_left
    ·intro w'
     go_simp
     with_reducible rfl
    rotate_left
    ·simp only [Act.put, List.setIfInBounds_toArray, List.set_cons_zero, List.set_cons_succ, i64_w, i32_w]
     rfl
    refine pure_ (i := 6) (N := some 12) (v := ?_) (a' := ?_) #[true, true, true, true, true, true, true, false, false, false, false, false, false, false, false, false] rfl rfl (any_of HT_.out (by kernel_rfl)) (fun _ _ _ h => h) (Or.inl ⟨by rfl, ?_⟩) ?_ ?_
    rotate_left
    ·intro w'
     go_simp
     with_reducible rfl
    rotate_left
    ·simp only [Act.put, List.setIfInBounds_toArray, List.set_cons_zero, List.set_cons_succ, i64_w, i32_w]
     rfl
    refine pure_ (i := 7) (N := some 13) (v := ?_) (a' := ?_) #[true, true, true, true, true, true, true, true, false, false, false, false, false, false, false, false] rfl rfl (any_of HT_.out (by kernel_rfl)) (fun _ _ _ h => h) (Or.inl ⟨by rfl, ?_⟩) ?_ ?_
    rotate_left
    ·intro w'
     go_simp
     with_reducible rfl
    rotate_left
    ·simp only [Act.put, List.setIfInBounds_toArray, List.set_cons_zero, List.set_cons_succ, i64_w, i32_w]
     rfl
    refine pure_ (i := 8) (N := some 14) (v := undef) (a' := ?_) #[true, true, true, true, true, true, true, true, true, false, false, false, false, false, false, false] rfl rfl (any_of HT_.out (by kernel_rfl)) (fun _ _ _ h => h) (Or.inr ⟨by rfl, rfl⟩) ?_ ?_
    rotate_left
    ·simp only [Act.put, List.setIfInBounds_toArray, List.set_cons_zero, List.set_cons_succ, i64_w, i32_w]
     rfl
    refine pure_ (i := 9) (N := some 15) (v := undef) (a' := ?_) #[true, true, true, true, true, true, true, true, true, true, false, false, false, false, false, false] rfl rfl (any_of HT_.out (by kernel_rfl)) (fun _ _ _ h => h) (Or.inr ⟨by rfl, rfl⟩) ?_ ?_
    rotate_left
    ·simp only [Act.put, List.setIfInBounds_toArray, List.set_cons_zero, List.set_cons_succ, i64_w, i32_w]
     rfl
    refine pure_ (i := 10) (N := some 16) (v := undef) (a' := ?_) #[true, true, true, true, true, true, true, true, true, true, true, false, false, false, false, false] rfl rfl (any_of HT_.out (by kernel_rfl)) (fun _ _ _ h => h) (Or.inr ⟨by rfl, rfl⟩) ?_ ?_
    rotate_left
    ·simp only [Act.put, List.setIfInBounds_toArray, List.set_cons_zero, List.set_cons_succ, i64_w, i32_w]
     rfl
    refine pure_ (i := 11) (N := some 17) (v := undef) (a' := ?_) #[true, true, true, true, true, true, true, true, true, true, true, true, false, false, false, false] rfl rfl (any_of HT_.out (by kernel_rfl)) (fun _ _ _ h => h) (Or.inr ⟨by rfl, rfl⟩) ?_ ?_
    rotate_left
    ·simp only [Act.put, List.setIfInBounds_toArray, List.set_cons_zero, List.set_cons_succ, i64_w, i32_w]
     rfl
    refine pure_ (i := 12) (N := some 18) (v := undef) (a' := ?_) #[true, true, true, true, true, true, true, true, true, true, true, true, true, false, false, false] rfl rfl (any_of HT_.out (by kernel_rfl)) (fun _ _ _ h => h) (Or.inr ⟨by rfl, rfl⟩) ?_ ?_
    rotate_left
    ·simp only [Act.put, List.setIfInBounds_toArray, List.set_cons_zero, List.set_cons_succ, i64_w, i32_w]
     rfl
    refine pure_ (i := 13) (N := some 19) (v := undef) (a' := ?_) #[true, true, true, true, true, true, true, true, true, true, true, true, true, true, false, false] rfl rfl (any_of HT_.out (by kernel_rfl)) (fun _ _ _ h => h) (Or.inr ⟨by rfl, rfl⟩) ?_ ?_
    rotate_left
    ·simp only [Act.put, List.setIfInBounds_toArray, List.set_cons_zero, List.set_cons_succ, i64_w, i32_w]
     rfl
    refine pure_ (i := 14) (N := some 20) (v := undef) (a' := ?_) #[true, true, true, true, true, true, true, true, true, true, true, true, true, true, true, false] rfl rfl (any_of HT_.out (by kernel_rfl)) (fun _ _ _ h => h) (Or.inr ⟨by rfl, rfl⟩) ?_ ?_
    rotate_left
    ·simp only [Act.put, List.setIfInBounds_toArray, List.set_cons_zero, List.set_cons_succ, i64_w, i32_w]
     rfl
    refine pure_ (i := 15) (N := some 21) (v := ?_) (a' := ?_) #[true, true, true, true, true, true, true, true, true, true, true, true, true, true, true, true] rfl rfl (any_of HT_.out (by kernel_rfl)) (fun _ _ _ h => h) (Or.inl ⟨by rfl, ?_⟩) ?_ ?_
    rotate_left
    ·intro w'
     go_simp
     with_reducible rfl
    rotate_left
    ·simp only [Act.put, List.setIfInBounds_toArray, List.set_cons_zero, List.set_cons_succ, i64_w, i32_w]
     rfl
    refine done_ (done_of HT_.out (by kernel_rfl)) ?_
    go_wp2
    go_ret
    exact ⟨by rw [show r = (i : Int) from (by have := HE.out; have := HI.out.2.2; have := hST.out; omega)]; rfl, HB.out⟩
 ·rw [if_neg hs] at h
  exact absurd h (by simp)
end Go.Proofs.YtcdmgdegohcmhaaDoor.PA
