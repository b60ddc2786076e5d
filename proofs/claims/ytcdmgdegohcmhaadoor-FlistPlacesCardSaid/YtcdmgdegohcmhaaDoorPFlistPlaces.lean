/- FlistPlaces: for any list the law returns true and leaves its arguments as they were. The table of package crc is laid. -/
import Derived.BigQuiet
import Derived.Deep.QuietTactic
import Derived.Great.BuildSlice
import Derived.Laws.NewBlocks
import Derived.Outline
import Derived.Test.YtcdmgdegohcmhaaDoorPG2
import Derived.Test.YtcdmgdegohcmhaaDoorPG1
import Derived.Test.YtcdmgdegohcmhaaDoorPG4
import Derived.Test.YtcdmgdegohcmhaaDoorPG3
import Derived.Laws.AppendOwn
import Derived.Lib.ConvBytes
import Derived.Laws.BitsAllLaws
import Derived.Laws.BitsLemmas
import Derived.ProofKit
import Derived.Test.YtcdmgdegohcmhaaDoorRows
import Derived.WalkKit
import Derived.Below
import Derived.Carry
import Derived.ChangeOld
import Derived.LaidMore
import Derived.Lay
import Derived.OpenShut
import Derived.SevenTiedAt
import Derived.ShutString
import Derived.SizedLaws
import Derived.Stop.Joined
import Derived.Test.YtcdmgdegohcmhaaDoorCards
import Derived.Test.YtcdmgdegohcmhaaDoorTie
namespace Go.Proofs.YtcdmgdegohcmhaaDoor.PA
open Go.RowKit Go.Proofs.YtcdmgdegohcmhaaDoorW.PrintWords Go.Proofs.YtcdmgdegohcmhaaDoorW.PrintLast Go.Proofs.YtcdmgdegohcmhaaDoorW.PrintMore
attribute [local go_sem] max2_int min2_int max_two min_two max_three min_three max_four min_four
set_option linter.unusedVariables false
set_option linter.unusedSimpArgs false
def belowB (top : ByteArray) (y : S35) : Bool := decide (top.size = 0) || (decide (y.f0 ≠ top) && preB (splitL top) (splitL y.f0))
def belowL (l : List S35) (top : ByteArray) : List S35 := l.filter (belowB top)
def smlL (l : List S35) : Prop := l.length < 1000000000 ∧ ∀ y ∈ l, sml y.f0
theorem wrapS35 (i : Nat) (h : i < 9223372036854775807) : wrap64 ((i : Int) + 1) = ((i + 1 : Nat) : Int) := by
 rw [wr64 _ (by omega) (by omega)]
 rfl
theorem below_no (top : ByteArray) (y : S35) (h0 : ¬ top.size = 0) : belowB top y = (decide (y.f0 ≠ top) && preB (splitL top) (splitL y.f0)) := by
 unfold belowB
 rw [decide_eq_false h0, Bool.false_or]
theorem filter_step35 (l : List S35) (p : S35 → Bool) (i : Nat) (h : i < l.length) : (l.take (i + 1)).filter p = (l.take i).filter p ++ (if p l[i] = true then [l[i]] else []) := by
 rw [List.take_succ_eq_append_getElem h, List.filter_append]
 congr 1
 rw [List.filter_cons, List.filter_nil]
set_option maxHeartbeats 2000000 in
set_option maxRecDepth 100000 in
theorem below_yes (top : ByteArray) (g : Nat) (y : S35) (w : World) (hg : w.cell? ⟨g, 0, none⟩ = some (.string top)) (ht : sml top) (hy : sml y.f0) :
  Calls Tryd.prog 43 #[.agg #[.string y.f0, .int .i64 y.f1, .int .i64 y.f2, .int .i64 y.f3.f0, .int .i64 y.f3.f1, .int .i64 y.f3.f2, .int .i64 y.f3.f3, .int .i64 y.f3.f4, .string y.f4, .string y.f5, .int .i64 y.f6], .pointer (some ⟨g, 0, none⟩)] w fun e w' => e = .returned (.bool (belowB top y)) ∧ Below w.heap.size w w' := by
 have hlt := World.block_lt_of_cell? w _ hg
 have hu := Tryd.underlying35
 have HB := Aside0.mk (below_alloc (Below.refl w.heap.size w) (.cells #[.string y.f0, .int .i64 y.f1, .int .i64 y.f2, .int .i64 y.f3.f0, .int .i64 y.f3.f1, .int .i64 y.f3.f2, .int .i64 y.f3.f3, .int .i64 y.f3.f4, .string y.f4, .string y.f5, .int .i64 y.f6] 35 (0, 0)))
 have hg2 : ∀ o, (w.alloc o).cell? ⟨g, 0, none⟩ = some (.string top) := fun o => ((below_alloc (Below.refl w.heap.size w) o).cell hlt).trans hg
 obtain ⟨k, hk⟩ : ∃ k, k = 1048600 := ⟨_, rfl⟩
 have hun := fun W => path_Under.calls k y.f0 top _ W (under_f y.f0 top hy ht k (by omega))
 by_cases h0 : top.size = 0
 ·have b1 : (top.toList == ([] : List UInt8)) = true := by rw [tl_beq20]; exact decide_eq_true h0
  have b1e : top.toList.isEmpty = true := by rw [(size_tl20 top).2 h0]; rfl
  have HR := Aside0.mk (show belowB top y = true by unfold belowB; rw [decide_eq_true h0]; rfl)
  clear h0
  go_enter Tryd.func43, Tryd.ntmps43
  go_wp2
  go_ret
  exact ⟨by rw [HR.out]; rfl, HB.out⟩
 ·have b1 : (top.toList == ([] : List UInt8)) = false := by rw [tl_beq20]; exact decide_eq_false h0
  have b1e : top.toList.isEmpty = false := by
   cases hc : top.toList with
   | nil => exact absurd ((size_tl20 top).1 hc) h0
   | cons _ _ => rfl
  have hno := below_no top y h0
  by_cases h1 : y.f0 = top
  ·have b2 : (y.f0.toList == top.toList) = true := beq_iff_eq.mpr (by rw [h1])
   have b3 : (y.f0.toList != top.toList) = false := bne_eq_false_iff_eq.mpr (by rw [h1])
   have HR := Aside0.mk (show belowB top y = false by rw [hno, h1]; simp)
   clear h0 h1 hno
   go_enter Tryd.func43, Tryd.ntmps43
   go_wp2
   go_ret
   exact ⟨by rw [HR.out]; rfl, HB.out⟩
  ·have b2 : (y.f0.toList == top.toList) = false := beq_eq_false_iff_ne.mpr (fun e => h1 ((tl_eq _ _).1 e))
   have b3 : (y.f0.toList != top.toList) = true := bne_iff_ne.mpr (fun e => h1 ((tl_eq _ _).1 e))
   have HR := Aside0.mk (show belowB top y = preB (splitL top) (splitL y.f0) by rw [hno]; simp [h1])
   clear h0 h1 hno
   go_enter Tryd.func43, Tryd.ntmps43
   go_wp2_with (go_at_call 44; (with_reducible refine (hun _).mono ?_); rintro e w1 ⟨rfl, hb⟩; have n0_ := Aside0.mk (below_step HB.out hb); clear HB hb; have HB := n0_; clear n0_)
   go_ret
   exact ⟨by rw [HR.out]; rfl, HB.out⟩
theorem chosen_rel (l0 : List S35) (top : ByteArray) (i : Nat) (hi : i < l0.length) (hx : l0.length < 1000000000) : ((l0.take i).filter (belowB top)).length < 1256584717458 := by
 have h1 := List.length_filter_le (belowB top) (l0.take i)
 have h2 := List.length_take_le i l0
 omega
set_option maxHeartbeats 4000000 in
set_option maxRecDepth 100000 in
theorem chosen_below (top : ByteArray) (g : Nat) (A0 : Option Addr) (c0 : Nat) (l0 : List S35) (w : World) (hg : w.cell? ⟨g, 0, none⟩ = some (.string top)) (hr0 : Kd.C k35 w A0 l0.length l0) (hsm : smlL l0) (ht : sml top) :
  Calls Tryd.prog 42 #[.slice A0 l0.length c0, .func (.func 43) #[] #[.pointer (some ⟨g, 0, none⟩)]] w fun e w' => ∃ v0_ : Value, e = .returned v0_ ∧ Kd.R k35 35 w' w.heap.size (fun _ => True) v0_ (belowL l0 top) ∧ Below w.heap.size w w' := by
 have hlt := World.block_lt_of_cell? w _ hg
 have HG := Aside0.mk hg
 have HR0 := Aside0.mk hr0
 have HS := Aside0.mk hsm
 have HTm := Aside0.mk ht
 have HL := Aside0.mk hlt
 clear hg hr0 hsm ht hlt
 have hu := Tryd.underlying35
 have HB := Aside0.mk (Below.refl w.heap.size w)
 go_enter Tryd.func42, Tryd.ntmps42
 go_wp2
 go_loopw [5, 10] (fun v5 v10 wr => ∃ i : Nat, v10 = .int .i64 (i : Int) ∧ Aside0 (i ≤ l0.length) ∧ Aside0 (Kd.R k35 35 wr w.heap.size (fun _ => True) v5 ((l0.take i).filter (belowB top))) ∧ Aside0 (Below w.heap.size w wr)) (fun _ v10 _ => l0.length - (intOf v10).toNat)
 case atStart => exact ⟨0, rfl, ⟨Nat.zero_le _⟩, ⟨Kd.R_nil _ _ _ _ _⟩, HB⟩
 case round =>
  obtain ⟨i, rfl, HI, HO, HB⟩ := hrel
  by_cases hi : i < l0.length
  ·have hd : decide ((i : Int) < (l0.length : Int)) = true := decide_eq_true (by omega)
   obtain ⟨y, hy⟩ : ∃ y, rd_T35 l0 (i : Int) = y := ⟨_, rfl⟩
   have hye : l0[i] = y := by rw [← hy, rd35_get l0 i hi]
   obtain ⟨ad, ea, hx_0, hx_1, hx_2, hx_3, hx_4, hx_5, hx_6, hx_7, hx_8, hx_9, hx_10⟩ := at_T35 HR0.out (i : Int) (by omega) (by omega)
   cases ea
   rw [Int.toNat_natCast] at hx_0 hx_1 hx_2 hx_3 hx_4 hx_5 hx_6 hx_7 hx_8 hx_9 hx_10
   rw [hy] at hx_0 hx_1 hx_2 hx_3 hx_4 hx_5 hx_6 hx_7 hx_8 hx_9 hx_10
   replace hx_0 := (HB.out.cell (World.block_lt_of_cell? w _ hx_0)).trans hx_0
   replace hx_1 := (HB.out.cell (World.block_lt_of_cell? w _ hx_1)).trans hx_1
   replace hx_2 := (HB.out.cell (World.block_lt_of_cell? w _ hx_2)).trans hx_2
   replace hx_3 := (HB.out.cell (World.block_lt_of_cell? w _ hx_3)).trans hx_3
   replace hx_4 := (HB.out.cell (World.block_lt_of_cell? w _ hx_4)).trans hx_4
   replace hx_5 := (HB.out.cell (World.block_lt_of_cell? w _ hx_5)).trans hx_5
   replace hx_6 := (HB.out.cell (World.block_lt_of_cell? w _ hx_6)).trans hx_6
   replace hx_7 := (HB.out.cell (World.block_lt_of_cell? w _ hx_7)).trans hx_7
   replace hx_8 := (HB.out.cell (World.block_lt_of_cell? w _ hx_8)).trans hx_8
   replace hx_9 := (HB.out.cell (World.block_lt_of_cell? w _ hx_9)).trans hx_9
   replace hx_10 := (HB.out.cell (World.block_lt_of_cell? w _ hx_10)).trans hx_10
   have p1 : (0 ≤ (i : Int)) = True := eq_true (by omega)
   have p2 : ((i : Int) < (l0.length : Int)) = True := eq_true (by omega)
   have Hy := Aside0.mk (HS.out.2 y (hye ▸ List.getElem_mem hi))
   have Hst := Aside0.mk (show (l0.take (i + 1)).filter (belowB top) = (l0.take i).filter (belowB top) ++ (if belowB top y = true then [y] else []) by rw [filter_step35 l0 _ i hi, hye])
   have Hlen := Aside0.mk (chosen_rel l0 top i hi HS.out.1)
   have Hi := Aside0.mk hi
   have hw1 : wrap64 ((i : Int) + 1) = ((i + 1 : Nat) : Int) := wrapS35 i (by have := HS.out.1; omega)
   have HW := Aside0.mk hw1
   have hcall : ∀ W, Below w.heap.size w W → Calls Tryd.prog 43 #[.agg #[.string y.f0, .int .i64 y.f1, .int .i64 y.f2, .int .i64 y.f3.f0, .int .i64 y.f3.f1, .int .i64 y.f3.f2, .int .i64 y.f3.f3, .int .i64 y.f3.f4, .string y.f4, .string y.f5, .int .i64 y.f6], .pointer (some ⟨g, 0, none⟩)] W fun e w' => e = .returned (.bool (belowB top y)) ∧ Below W.heap.size W w' := fun W hb => below_yes top g y W ((hb.cell HL.out).trans HG.out) HTm.out Hy.out
   clear hw1 hi hy hye
   obtain ⟨bb, hbb⟩ : ∃ bb, belowB top y = bb := ⟨_, rfl⟩
   rw [hbb] at hcall
   have HBB := Aside0.mk hbb
   clear hbb
   cases bb with
   | false =>
    go_wp2_with (first | (go_at_call 43; (with_reducible refine (hcall _ (by repeat (first | (with_reducible first | exact HB.out | apply below_alloc | apply pw_below_drewN | apply below_drew1) | exact HB.out))).mono ?_); rintro e w9 ⟨rfl, hb⟩; have n0_ := Aside0.mk (below_step (by repeat (first | (with_reducible first | exact HB.out | apply below_alloc | apply pw_below_drewN | apply below_drew1) | exact HB.out)) hb); have n1_ := Aside0.mk (Kd.R_below (by (with_reducible repeat (first | apply Kd.R_alloc | apply Kd.R_drewN | apply Kd.R_drew)); exact HO.out) hb); have BK := Aside0.mk (blk_below (blk_new wr (.cells #[.string y.f0, .int .i64 y.f1, .int .i64 y.f2, .int .i64 y.f3.f0, .int .i64 y.f3.f1, .int .i64 y.f3.f2, .int .i64 y.f3.f3, .int .i64 y.f3.f4, .string y.f4, .string y.f5, .int .i64 y.f6] 35 (0, 0))) hb); clear HB HO hb; have HB := n0_; have HO := n1_; clear n0_ n1_; have hcz_0 : w9.cell? ⟨wr.heap.size, 0, none⟩ = some (.string y.f0) := (blk_cell BK.out 0).trans rfl; have hcz_1 : w9.cell? ⟨wr.heap.size, 1, none⟩ = some (.int .i64 y.f1) := (blk_cell BK.out 1).trans rfl; have hcz_2 : w9.cell? ⟨wr.heap.size, 2, none⟩ = some (.int .i64 y.f2) := (blk_cell BK.out 2).trans rfl; have hcz_3 : w9.cell? ⟨wr.heap.size, 3, none⟩ = some (.int .i64 y.f3.f0) := (blk_cell BK.out 3).trans rfl; have hcz_4 : w9.cell? ⟨wr.heap.size, 4, none⟩ = some (.int .i64 y.f3.f1) := (blk_cell BK.out 4).trans rfl; have hcz_5 : w9.cell? ⟨wr.heap.size, 5, none⟩ = some (.int .i64 y.f3.f2) := (blk_cell BK.out 5).trans rfl; have hcz_6 : w9.cell? ⟨wr.heap.size, 6, none⟩ = some (.int .i64 y.f3.f3) := (blk_cell BK.out 6).trans rfl; have hcz_7 : w9.cell? ⟨wr.heap.size, 7, none⟩ = some (.int .i64 y.f3.f4) := (blk_cell BK.out 7).trans rfl; have hcz_8 : w9.cell? ⟨wr.heap.size, 8, none⟩ = some (.string y.f4) := (blk_cell BK.out 8).trans rfl; have hcz_9 : w9.cell? ⟨wr.heap.size, 9, none⟩ = some (.string y.f5) := (blk_cell BK.out 9).trans rfl; have hcz_10 : w9.cell? ⟨wr.heap.size, 10, none⟩ = some (.int .i64 y.f6) := (blk_cell BK.out 10).trans rfl))
    go_roundw
    case rel => exact ⟨i + 1, by rw [HW.out], ⟨by have := Hi.out; omega⟩, ⟨by rw [Hst.out, HBB.out, if_neg (by decide), List.append_nil]; exact HO.out⟩, HB⟩
    case measure =>
     rw [HW.out]
     show l0.length - ((i + 1 : Nat) : Int).toNat < l0.length - (i : Int).toNat
     rw [Int.toNat_natCast, Int.toNat_natCast]
     have := Hi.out
     omega
   | true =>
    go_wp2_with (first | (go_at_call 43; (with_reducible refine (hcall _ (by repeat (first | (with_reducible first | exact HB.out | apply below_alloc | apply pw_below_drewN | apply below_drew1) | exact HB.out))).mono ?_); rintro e w9 ⟨rfl, hb⟩; have n0_ := Aside0.mk (below_step (by repeat (first | (with_reducible first | exact HB.out | apply below_alloc | apply pw_below_drewN | apply below_drew1) | exact HB.out)) hb); have n1_ := Aside0.mk (Kd.R_below (by (with_reducible repeat (first | apply Kd.R_alloc | apply Kd.R_drewN | apply Kd.R_drew)); exact HO.out) hb); have BK := Aside0.mk (blk_below (blk_new wr (.cells #[.string y.f0, .int .i64 y.f1, .int .i64 y.f2, .int .i64 y.f3.f0, .int .i64 y.f3.f1, .int .i64 y.f3.f2, .int .i64 y.f3.f3, .int .i64 y.f3.f4, .string y.f4, .string y.f5, .int .i64 y.f6] 35 (0, 0))) hb); clear HB HO hb; have HB := n0_; have HO := n1_; clear n0_ n1_; have hcz_0 : w9.cell? ⟨wr.heap.size, 0, none⟩ = some (.string y.f0) := (blk_cell BK.out 0).trans rfl; have hcz_1 : w9.cell? ⟨wr.heap.size, 1, none⟩ = some (.int .i64 y.f1) := (blk_cell BK.out 1).trans rfl; have hcz_2 : w9.cell? ⟨wr.heap.size, 2, none⟩ = some (.int .i64 y.f2) := (blk_cell BK.out 2).trans rfl; have hcz_3 : w9.cell? ⟨wr.heap.size, 3, none⟩ = some (.int .i64 y.f3.f0) := (blk_cell BK.out 3).trans rfl; have hcz_4 : w9.cell? ⟨wr.heap.size, 4, none⟩ = some (.int .i64 y.f3.f1) := (blk_cell BK.out 4).trans rfl; have hcz_5 : w9.cell? ⟨wr.heap.size, 5, none⟩ = some (.int .i64 y.f3.f2) := (blk_cell BK.out 5).trans rfl; have hcz_6 : w9.cell? ⟨wr.heap.size, 6, none⟩ = some (.int .i64 y.f3.f3) := (blk_cell BK.out 6).trans rfl; have hcz_7 : w9.cell? ⟨wr.heap.size, 7, none⟩ = some (.int .i64 y.f3.f4) := (blk_cell BK.out 7).trans rfl; have hcz_8 : w9.cell? ⟨wr.heap.size, 8, none⟩ = some (.string y.f4) := (blk_cell BK.out 8).trans rfl; have hcz_9 : w9.cell? ⟨wr.heap.size, 9, none⟩ = some (.string y.f5) := (blk_cell BK.out 9).trans rfl; have hcz_10 : w9.cell? ⟨wr.heap.size, 10, none⟩ = some (.int .i64 y.f6) := (blk_cell BK.out 10).trans rfl) | ((with_reducible refine gate_builtin (b := .append) (xs := #[.tmp 17, .tmp 19]) rfl ?_); at_builtin; refine Kd.R_append k35 (w0 := w) w.heap.size rfl (.tmp 17) (.tmp 19) 22 35 (.agg #[(.string ⟨#[]⟩), (.int .i64 0), (.int .i64 0), (.int .i64 0), (.int .i64 0), (.int .i64 0), (.int .i64 0), (.int .i64 0), (.string ⟨#[]⟩), (.string ⟨#[]⟩), (.int .i64 0)]) 112 rfl Tryd.underlying22 info35 rfl (by decide) (by omega) u5 ((l0.take i).filter (belowB top)) y [.string y.f0, .int .i64 y.f1, .int .i64 y.f2, .int .i64 y.f3.f0, .int .i64 y.f3.f1, .int .i64 y.f3.f2, .int .i64 y.f3.f3, .int .i64 y.f3.f4, .string y.f4, .string y.f5, .int .i64 y.f6] (fun _ => True) (fun _ => False) rfl rfl ?aP (fun _ hk => hk.elim) ?aF ?aO ?aB ?aS ?aL ?_; (case aP => exact k35_mkM _ _ _ y); (case aB => exact (by repeat (first | (with_reducible first | exact HB.out | apply below_alloc | apply pw_below_drewN | apply below_drew1) | exact HB.out))); (case aF => exact (fun _ _ => trivial)); (case aO => exact (by (with_reducible repeat (first | apply Kd.R_alloc | apply Kd.R_drewN | apply Kd.R_drew)); exact HO.out)); (case aS => exact (below_size (by repeat (first | (with_reducible first | exact HB.out | apply below_alloc | apply pw_below_drewN | apply below_drew1) | exact HB.out)))); (case aL => have := Hlen.out; omega); intro v103 w7 ho hb hgr hat; have n0_ := Aside0.mk hb; have n1_ := Aside0.mk ho; clear HB HO; have HB := n0_; have HO := n1_; clear n0_ n1_ ho hb hgr hat))
    go_roundw
    case rel => exact ⟨i + 1, by rw [HW.out], ⟨by have := Hi.out; omega⟩, ⟨by rw [Hst.out, HBB.out, if_pos rfl]; exact HO.out⟩, HB⟩
    case measure =>
     rw [HW.out]
     show l0.length - ((i + 1 : Nat) : Int).toNat < l0.length - (i : Int).toNat
     rw [Int.toNat_natCast, Int.toNat_natCast]
     have := Hi.out
     omega
  ·have hd : decide (i < l0.length) = false := decide_eq_false hi
   have Hi := Aside0.mk hi
   clear hi
   go_wp2
   go_ret
   exact ⟨_, rfl, by have h := HO.out; rw [show i = l0.length from by have := HI.out; have := Hi.out; omega, List.take_length] at h; exact h, HB.out⟩
def flist_Below.f (l0 : List S35) (a1 : ByteArray) : Option (List S35) := if l0.length < 1000000000 ∧ (∀ y ∈ l0, y.f0.size ≤ 1048576) ∧ a1.size ≤ 1048576 then some (belowL l0 a1) else none
set_option maxHeartbeats 2000000 in
set_option maxRecDepth 100000 in
theorem flist_Below.calls (A0 : Option Addr) (c0 : Nat) (l0 : List S35) (a1 : ByteArray) (r : List S35) (w : World) (hr0 : Kd.C k35 w A0 l0.length l0) (hc0 : l0.length ≤ c0) (h : flist_Below.f l0 a1 = some r) :
  Calls Tryd.prog 17 #[.slice A0 l0.length c0, .string a1] w fun e w' => ∃ v0_ : Value, e = .returned v0_ ∧ Kd.R k35 35 w' w.heap.size (fun _ => True) v0_ r ∧ Below w.heap.size w w' := by
 unfold flist_Below.f at h
 split at h
 ·rename_i hs
  obtain rfl := Option.some.inj h
  have hb1 := below_alloc (Below.refl w.heap.size w) (.cells #[.string a1] 9 (0, 0))
  have hch := chosen_below a1 w.heap.size A0 c0 l0 (w.alloc (.cells #[.string a1] 9 (0, 0))) ((blk_cell (blk_new _ _) 0).trans rfl) (Kd.C_below hr0 hb1) ⟨hs.1, fun y hy => hs.2.1 y hy⟩ hs.2.2
  have HC := Aside0.mk hch
  have HB := Aside0.mk hb1
  clear hch hb1 hs
  go_enter Tryd.func17, Tryd.ntmps17
  go_wp2_with (go_at_call 42; (with_reducible refine HC.out.mono ?_); rintro e w1 ⟨v1, rfl, ho, hb⟩; have HO := Aside0.mk (Kd.R_lower ho (below_size HB.out)); have n0_ := Aside0.mk (below_step HB.out hb); clear HB hb ho; have HB := n0_; clear n0_)
  go_ret
  exact ⟨_, rfl, HO.out, HB.out⟩
 ·exact absurd h (by simp)
end Go.Proofs.YtcdmgdegohcmhaaDoor.PA
namespace Go.Proofs.YtcdmgdegohcmhaaDoor.PA
open Go.RowKit Go.Proofs.YtcdmgdegohcmhaaDoorW.PrintWords Go.Proofs.YtcdmgdegohcmhaaDoorW.PrintLast Go.Proofs.YtcdmgdegohcmhaaDoorW.PrintMore
attribute [local go_sem] max2_int min2_int max_two min_two max_three min_three max_four min_four   -- for this text's walks alone
set_option linter.unusedVariables false
set_option linter.unusedSimpArgs false
mutual
def remoralaw20_FlistPlaces.j0 : Nat → List (S35) → Bool → Option (Bool)
 | 0, _, _ => none
 | k + 1, x0, x14 => if x14 = true then ((remoralaw20_awake.f k).bind fun t103 => (some t103)) else (remoralaw20_FlistPlaces.l0 k x0 0)
def remoralaw20_FlistPlaces.l0 : Nat → List (S35) → Int → Option (Bool)
 | 0, _, _ => none
 | k + 1, x0, x3 => if x3 < (x0.length : Int) then (if 0 ≤ x3 then ((flist_Find.f k x0 ((rd_T35 x0 x3).f0)).bind fun bt110 => ((flist_Below.f x0 ((rd_T35 x0 x3).f0)).bind fun t113 => (if bt110.2 = true then (if bt110.1 = x3 then (if ((rd_T35 x0 x3).f1) = 2 then (if (wrap64 ((wrap64 (x3 + 1)) + (t113.length : Int))) > (x0.length : Int) then (some false) else (if 0 ≤ (wrap64 (x3 + 1)) then (if (wrap64 (x3 + 1)) ≤ (wrap64 ((wrap64 (x3 + 1)) + (t113.length : Int))) then (if (wrap64 ((wrap64 (x3 + 1)) + (t113.length : Int))) ≤ (x0.length : Int) then ((flist_Same.f k t113 ((x0.take ((wrap64 ((wrap64 (x3 + 1)) + (t113.length : Int))) : Int).toNat).drop ((wrap64 (x3 + 1)) : Int).toNat)).bind fun t121 => (if t121 = true then (remoralaw20_FlistPlaces.l0 k x0 (wrap64 (x3 + 1))) else (some false))) else (none)) else (none)) else (none))) else (if (t113.length : Int) > 0 then (some false) else (if (wrap64 ((wrap64 (x3 + 1)) + (t113.length : Int))) > (x0.length : Int) then (some false) else (if 0 ≤ (wrap64 (x3 + 1)) then (if (wrap64 (x3 + 1)) ≤ (wrap64 ((wrap64 (x3 + 1)) + (t113.length : Int))) then (if (wrap64 ((wrap64 (x3 + 1)) + (t113.length : Int))) ≤ (x0.length : Int) then ((flist_Same.f k t113 ((x0.take ((wrap64 ((wrap64 (x3 + 1)) + (t113.length : Int))) : Int).toNat).drop ((wrap64 (x3 + 1)) : Int).toNat)).bind fun t126 => (if t126 = true then (remoralaw20_FlistPlaces.l0 k x0 (wrap64 (x3 + 1))) else (some false))) else (none)) else (none)) else (none))))) else (some false)) else (some false)))) else (none)) else ((flist_Below.f x0 (⟨#[]⟩ : ByteArray)).bind fun t104 => ((flist_Same.f k t104 x0).bind fun t107 => (if t107 = true then ((remoralaw20_awake.f k).bind fun t108 => (some t108)) else (some false))))
end
def remoralaw20_FlistPlaces.f (k : Nat) (l0 : List (S35)) : Option (Bool) := (remoraref20_Small.f k l0).bind fun t101 => (if t101 = true then ((flist_Check.f l0).bind fun t102 => (remoralaw20_FlistPlaces.j0 k l0 (t102 != 0))) else (remoralaw20_FlistPlaces.j0 k l0 true))
set_option maxHeartbeats 8000000 in
set_option maxRecDepth 100000 in
theorem remoralaw20_FlistPlaces.calls (k : Nat) (A0 : Option Addr) (c0 : Nat) (l0 : List (S35)) (r : Bool) (w : World) (hr0 : Kd.C k35 w A0 l0.length l0) (hc0 : l0.length ≤ c0) (h : remoralaw20_FlistPlaces.f k l0 = some r) (hT_ : TabW w) :
  Calls Tryd.prog 5 #[.slice A0 l0.length c0] w fun e w' => e = .returned (.bool r) ∧ Below w.heap.size w w' := by
 have HR0 := Aside0.mk hr0
 have HC0 := Aside0.mk hc0
 clear hr0 hc0
 have HT := Aside0.mk hT_
 clear hT_
 have HB := Aside0.mk (Below.refl w.heap.size w)
 have H : ((remoraref20_Small.f k l0).bind fun t101 => (if t101 = true then ((flist_Check.f l0).bind fun t102 => (remoralaw20_FlistPlaces.j0 k l0 (t102 != 0))) else (remoralaw20_FlistPlaces.j0 k l0 true))) = some r := h
 clear h
 have HC2 := Aside0.mk H
 clear H
 go_enter Tryd.func5, Tryd.ntmps5
 go_upto_region 1 with (fail)
 go_cut [14] (fun v14 wc => ∃ (kq : Nat) (x14_1 : Bool), v14 = .bool x14_1 ∧ Aside0 (remoralaw20_FlistPlaces.j0 kq l0 x14_1 = some r) ∧ Aside0 (kq ≤ k) ∧ Aside0 (Below w.heap.size w wc))
 case first =>
  have H := HC2.out
  clear HC2
  replace H := Option.bind_eq_some_iff.mp H
  obtain ⟨t101, A30, H⟩ := H
  replace H : (if t101 = true then ((flist_Check.f l0).bind fun t102 => (remoralaw20_FlistPlaces.j0 k l0 (t102 != 0))) else (remoralaw20_FlistPlaces.j0 k l0 true)) = some r := H
  have A3 := Aside0.mk A30
  clear A30
  by_cases c4 : t101 = true
  ·subst c4
   have H1 : ((flist_Check.f l0).bind fun t102 => (remoralaw20_FlistPlaces.j0 k l0 (t102 != 0))) = some r := by rw [if_pos rfl] at H; exact H
   clear H
   have H := H1
   clear H1
   replace H := Option.bind_eq_some_iff.mp H
   obtain ⟨t102, A50, H⟩ := H
   replace H : (remoralaw20_FlistPlaces.j0 k l0 (t102 != 0)) = some r := H
   have A5 := Aside0.mk A50
   clear A50
   have H' := Aside0.mk H
   clear H
   go_wp2_with (first | ((with_reducible refine gate_callee (f := 10) rfl ?_); refine goesL_ (some 8) rfl rfl Tryd.func10 (by kernel_rfl) rfl #[.slice A0 l0.length c0] rfl (by (try simp only [List.map_toArray, List.map_cons, List.map_nil]); first | done | rfl | (simp only [List.length_drop, List.length_take]; rfl)) ?_; (with_reducible refine (remoraref20_Small.calls k _ _ l0 true _ ?side1 ?side2 A3.out).mono ?_); (case side1 => repeat (first | exact (Kd.C_below HR0.out HB.out) | (with_reducible refine Kd.C_alloc ?_ _) | (with_reducible refine Kd.C_drewN ?_ _) | (with_reducible refine Kd.C_drew ?_))); (case side2 => exact HC0.out); rintro e w' ⟨rfl, ⟨nd, rfl⟩⟩; refine ⟨_, rfl, ?_⟩) | (go_at_call 12; (with_reducible refine (flist_Check.calls _ _ l0 t102 _ ?side1 ?side2 A5.out).mono ?_); (case side1 => repeat (first | exact (Kd.C_below HR0.out (by repeat (first | (with_reducible first | exact HB.out | apply below_alloc | apply pw_below_drewN | apply below_drew1) | exact HB.out))) | (with_reducible refine Kd.C_alloc ?_ _) | (with_reducible refine Kd.C_drewN ?_ _) | (with_reducible refine Kd.C_drew ?_))); (case side2 => exact HC0.out); rintro e w6 ⟨rfl, hb⟩; have n0_ := Aside0.mk (below_step (by repeat (first | (with_reducible first | exact HB.out | apply below_alloc | apply pw_below_drewN | apply below_drew1) | exact HB.out)) hb); clear HB; have HB := n0_; clear n0_; (try clear hb); (try clear hb2); (try clear hk); (try clear hi)))
   go_meet
   case rel => exact ⟨_, ((t102 != 0)), (by first | rfl | (simp; done) | (simp [*]; done)), H', ⟨by first | omega | exact Nat.le_refl _⟩, ⟨by repeat (first | (with_reducible first | exact HB.out | apply below_alloc | apply pw_below_drewN | apply below_drew1) | exact HB.out)⟩⟩
  ·replace c4 := Bool.eq_false_iff.mpr c4
   subst c4
   have H1 : (remoralaw20_FlistPlaces.j0 k l0 true) = some r := by rw [if_neg (show ¬ (false = true) by decide)] at H; exact H
   clear H
   have H := H1
   clear H1
   have H' := Aside0.mk H
   clear H
   go_wp2_with (first | ((with_reducible refine gate_callee (f := 10) rfl ?_); refine goesL_ (some 8) rfl rfl Tryd.func10 (by kernel_rfl) rfl #[.slice A0 l0.length c0] rfl (by (try simp only [List.map_toArray, List.map_cons, List.map_nil]); first | done | rfl | (simp only [List.length_drop, List.length_take]; rfl)) ?_; (with_reducible refine (remoraref20_Small.calls k _ _ l0 false _ ?side1 ?side2 A3.out).mono ?_); (case side1 => repeat (first | exact (Kd.C_below HR0.out HB.out) | (with_reducible refine Kd.C_alloc ?_ _) | (with_reducible refine Kd.C_drewN ?_ _) | (with_reducible refine Kd.C_drew ?_))); (case side2 => exact HC0.out); rintro e w' ⟨rfl, ⟨nd, rfl⟩⟩; refine ⟨_, rfl, ?_⟩))
   go_meet
   case rel => exact ⟨_, (true), (by first | rfl | (simp; done) | (simp [*]; done)), H', ⟨by first | omega | exact Nat.le_refl _⟩, ⟨by repeat (first | (with_reducible first | exact HB.out | apply below_alloc | apply pw_below_drewN | apply below_drew1) | exact HB.out)⟩⟩
 case rest =>
  clear HC2
  try clear c1
  try clear p2
  try clear c4
  try clear c5
  obtain ⟨kq, x14_1, rfl, HA, HJ1, HB⟩ := hcut
  cases kq with
  | zero => exact absurd HA.out (by simp [remoralaw20_FlistPlaces.j0])
  | succ kj1 =>
   have H := HA.out
   clear HA
   simp only [remoralaw20_FlistPlaces.j0] at H
   by_cases c7 : x14_1 = true
   ·subst c7
    have H1 : ((remoralaw20_awake.f kj1).bind fun t103 => (some t103)) = some r := by rw [if_pos rfl] at H; exact H
    clear H
    have H := H1
    clear H1
    replace H := Option.bind_eq_some_iff.mp H
    obtain ⟨t103, A80, H⟩ := H
    replace H : (some t103) = some r := H
    have A8 := Aside0.mk A80
    clear A80
    obtain rfl := Option.some.inj H
    go_wp2_with (first | ((with_reducible refine gate_callee (f := 11) rfl ?_); refine goesL_ (some 15) rfl rfl Tryd.func11 (by kernel_rfl) rfl #[] rfl (by (try simp only [List.map_toArray, List.map_cons, List.map_nil]); first | done | rfl | (simp only [List.length_drop, List.length_take]; rfl)) ?_; (with_reducible refine (remoralaw20_awake.calls kj1  t103 _ A8.out ?sideT).mono ?_); (case sideT => exact HT.out.step (by repeat (first | (with_reducible first | exact HB.out | apply below_alloc | apply pw_below_drewN | apply below_drew1) | exact HB.out))); rintro e w9 ⟨rfl, hb⟩; refine ⟨_, rfl, ?_⟩; have n0_ := Aside0.mk (below_step (by repeat (first | (with_reducible first | exact HB.out | apply below_alloc | apply pw_below_drewN | apply below_drew1) | exact HB.out)) hb); clear HB; have HB := n0_; clear n0_; (try clear hb); (try clear hb2); (try clear hk); (try clear hi)))
    go_ret
    exact ⟨by first | rfl | (simp [errW_none, errW_some] <;> rfl) | (simp [*, errW_none, errW_some] <;> rfl), by repeat (first | (with_reducible first | exact HB.out | apply below_alloc | apply pw_below_drewN | apply below_drew1) | exact HB.out)⟩
   ·replace c7 := Bool.eq_false_iff.mpr c7
    subst c7
    have H1 : (remoralaw20_FlistPlaces.l0 kj1 l0 0) = some r := by rw [if_neg (show ¬ (false = true) by decide)] at H; exact H
    clear H
    have H := H1
    clear H1
    have H' := Aside0.mk H
    clear H
    go_wp2
    go_loopg [3] kj1 (fun kq v3 w' => ∃ (x3_2 : Int), v3 = .int .i64 x3_2 ∧ Aside0 (remoralaw20_FlistPlaces.l0 kq l0 x3_2 = some r) ∧ Aside0 (kq ≤ kj1) ∧ Aside0 (Below w.heap.size w w'))
    case atStart => exact ⟨(0), (by first | rfl | (simp; done) | (simp [*]; done)), H', ⟨Nat.le_refl _⟩, ⟨by repeat (first | (with_reducible first | exact HB.out | apply below_alloc | apply pw_below_drewN | apply below_drew1) | exact HB.out)⟩⟩
    case round =>
     clear H'
     try clear c1
     try clear p2
     try clear c4
     try clear c5
     try clear c7
     try clear p2
     obtain ⟨x3_2, rfl, HA, HK2, HB⟩ := hrel
     cases gk with
     | zero => exact absurd HA.out (by simp [remoralaw20_FlistPlaces.l0])
     | succ k2 =>
      have H := HA.out
      clear HA
      simp only [remoralaw20_FlistPlaces.l0] at H
      by_cases c10 : x3_2 < (l0.length : Int)
      ·rw [if_pos c10] at H
       have c10b0 : decide (x3_2 < (l0.length : Int)) = true := decide_eq_true c10
       clear c10
       by_cases c11 : 0 ≤ x3_2
       ·rw [if_pos c11] at H
        have c11b0 : decide (0 ≤ x3_2) = true := decide_eq_true c11
        clear c11
        replace H := Option.bind_eq_some_iff.mp H
        obtain ⟨⟨t110, t111⟩, A120, H⟩ := H
        replace H : ((flist_Below.f l0 ((rd_T35 l0 x3_2).f0)).bind fun t113 => (if t111 = true then (if t110 = x3_2 then (if ((rd_T35 l0 x3_2).f1) = 2 then (if (wrap64 ((wrap64 (x3_2 + 1)) + (t113.length : Int))) > (l0.length : Int) then (some false) else (if 0 ≤ (wrap64 (x3_2 + 1)) then (if (wrap64 (x3_2 + 1)) ≤ (wrap64 ((wrap64 (x3_2 + 1)) + (t113.length : Int))) then (if (wrap64 ((wrap64 (x3_2 + 1)) + (t113.length : Int))) ≤ (l0.length : Int) then ((flist_Same.f k2 t113 ((l0.take ((wrap64 ((wrap64 (x3_2 + 1)) + (t113.length : Int))) : Int).toNat).drop ((wrap64 (x3_2 + 1)) : Int).toNat)).bind fun t121 => (if t121 = true then (remoralaw20_FlistPlaces.l0 k2 l0 (wrap64 (x3_2 + 1))) else (some false))) else (none)) else (none)) else (none))) else (if (t113.length : Int) > 0 then (some false) else (if (wrap64 ((wrap64 (x3_2 + 1)) + (t113.length : Int))) > (l0.length : Int) then (some false) else (if 0 ≤ (wrap64 (x3_2 + 1)) then (if (wrap64 (x3_2 + 1)) ≤ (wrap64 ((wrap64 (x3_2 + 1)) + (t113.length : Int))) then (if (wrap64 ((wrap64 (x3_2 + 1)) + (t113.length : Int))) ≤ (l0.length : Int) then ((flist_Same.f k2 t113 ((l0.take ((wrap64 ((wrap64 (x3_2 + 1)) + (t113.length : Int))) : Int).toNat).drop ((wrap64 (x3_2 + 1)) : Int).toNat)).bind fun t126 => (if t126 = true then (remoralaw20_FlistPlaces.l0 k2 l0 (wrap64 (x3_2 + 1))) else (some false))) else (none)) else (none)) else (none))))) else (some false)) else (some false))) = some r := H
        have A12 := Aside0.mk A120
        clear A120
        replace H := Option.bind_eq_some_iff.mp H
        obtain ⟨t113, A130, H⟩ := H
        replace H : (if t111 = true then (if t110 = x3_2 then (if ((rd_T35 l0 x3_2).f1) = 2 then (if (wrap64 ((wrap64 (x3_2 + 1)) + (t113.length : Int))) > (l0.length : Int) then (some false) else (if 0 ≤ (wrap64 (x3_2 + 1)) then (if (wrap64 (x3_2 + 1)) ≤ (wrap64 ((wrap64 (x3_2 + 1)) + (t113.length : Int))) then (if (wrap64 ((wrap64 (x3_2 + 1)) + (t113.length : Int))) ≤ (l0.length : Int) then ((flist_Same.f k2 t113 ((l0.take ((wrap64 ((wrap64 (x3_2 + 1)) + (t113.length : Int))) : Int).toNat).drop ((wrap64 (x3_2 + 1)) : Int).toNat)).bind fun t121 => (if t121 = true then (remoralaw20_FlistPlaces.l0 k2 l0 (wrap64 (x3_2 + 1))) else (some false))) else (none)) else (none)) else (none))) else (if (t113.length : Int) > 0 then (some false) else (if (wrap64 ((wrap64 (x3_2 + 1)) + (t113.length : Int))) > (l0.length : Int) then (some false) else (if 0 ≤ (wrap64 (x3_2 + 1)) then (if (wrap64 (x3_2 + 1)) ≤ (wrap64 ((wrap64 (x3_2 + 1)) + (t113.length : Int))) then (if (wrap64 ((wrap64 (x3_2 + 1)) + (t113.length : Int))) ≤ (l0.length : Int) then ((flist_Same.f k2 t113 ((l0.take ((wrap64 ((wrap64 (x3_2 + 1)) + (t113.length : Int))) : Int).toNat).drop ((wrap64 (x3_2 + 1)) : Int).toNat)).bind fun t126 => (if t126 = true then (remoralaw20_FlistPlaces.l0 k2 l0 (wrap64 (x3_2 + 1))) else (some false))) else (none)) else (none)) else (none))))) else (some false)) else (some false)) = some r := H
        have A13 := Aside0.mk A130
        clear A130
        by_cases c14 : t111 = true
        ·subst c14
         have H1 : (if t110 = x3_2 then (if ((rd_T35 l0 x3_2).f1) = 2 then (if (wrap64 ((wrap64 (x3_2 + 1)) + (t113.length : Int))) > (l0.length : Int) then (some false) else (if 0 ≤ (wrap64 (x3_2 + 1)) then (if (wrap64 (x3_2 + 1)) ≤ (wrap64 ((wrap64 (x3_2 + 1)) + (t113.length : Int))) then (if (wrap64 ((wrap64 (x3_2 + 1)) + (t113.length : Int))) ≤ (l0.length : Int) then ((flist_Same.f k2 t113 ((l0.take ((wrap64 ((wrap64 (x3_2 + 1)) + (t113.length : Int))) : Int).toNat).drop ((wrap64 (x3_2 + 1)) : Int).toNat)).bind fun t121 => (if t121 = true then (remoralaw20_FlistPlaces.l0 k2 l0 (wrap64 (x3_2 + 1))) else (some false))) else (none)) else (none)) else (none))) else (if (t113.length : Int) > 0 then (some false) else (if (wrap64 ((wrap64 (x3_2 + 1)) + (t113.length : Int))) > (l0.length : Int) then (some false) else (if 0 ≤ (wrap64 (x3_2 + 1)) then (if (wrap64 (x3_2 + 1)) ≤ (wrap64 ((wrap64 (x3_2 + 1)) + (t113.length : Int))) then (if (wrap64 ((wrap64 (x3_2 + 1)) + (t113.length : Int))) ≤ (l0.length : Int) then ((flist_Same.f k2 t113 ((l0.take ((wrap64 ((wrap64 (x3_2 + 1)) + (t113.length : Int))) : Int).toNat).drop ((wrap64 (x3_2 + 1)) : Int).toNat)).bind fun t126 => (if t126 = true then (remoralaw20_FlistPlaces.l0 k2 l0 (wrap64 (x3_2 + 1))) else (some false))) else (none)) else (none)) else (none))))) else (some false)) = some r := by rw [if_pos rfl] at H; exact H
         clear H
         have H := H1
         clear H1
         by_cases c15 : t110 = x3_2
         ·rw [if_pos c15] at H
          have c15b0 : (t110 == x3_2) = true := beq_iff_eq.mpr c15
          have c15b1 : (t110 != x3_2) = false := bne_eq_false_iff_eq.mpr c15
          clear c15
          by_cases c16 : ((rd_T35 l0 x3_2).f1) = 2
          ·rw [if_pos c16] at H
           have c16b0 : (((rd_T35 l0 x3_2).f1) == 2) = true := beq_iff_eq.mpr c16
           have c16b1 : (((rd_T35 l0 x3_2).f1) != 2) = false := bne_eq_false_iff_eq.mpr c16
           clear c16
           by_cases c17 : (wrap64 ((wrap64 (x3_2 + 1)) + (t113.length : Int))) > (l0.length : Int)
           ·rw [if_pos c17] at H
            have c17b0 : decide ((l0.length : Int) < (wrap64 ((wrap64 (x3_2 + 1)) + (t113.length : Int)))) = true := decide_eq_true c17
            clear c17
            obtain rfl := Option.some.inj H
            have p109 : 0 ≤ (x3_2 : Int) := of_decide_eq_true (by first | (with_reducible assumption) | assumption)
            have q109 : x3_2 < (l0.length : Int) := of_decide_eq_true (by first | (with_reducible assumption) | assumption)
            obtain ⟨ad109, e109, hx109_0, hx109_1, hx109_2, hx109_3, hx109_4, hx109_5, hx109_6, hx109_7, hx109_8, hx109_9, hx109_10⟩ := at_T35 HR0.out x3_2 p109 q109
            cases e109
            replace hx109_0 := (HB.out.cell (World.block_lt_of_cell? w _ hx109_0)).trans hx109_0
            replace hx109_1 := (HB.out.cell (World.block_lt_of_cell? w _ hx109_1)).trans hx109_1
            replace hx109_2 := (HB.out.cell (World.block_lt_of_cell? w _ hx109_2)).trans hx109_2
            replace hx109_3 := (HB.out.cell (World.block_lt_of_cell? w _ hx109_3)).trans hx109_3
            replace hx109_4 := (HB.out.cell (World.block_lt_of_cell? w _ hx109_4)).trans hx109_4
            replace hx109_5 := (HB.out.cell (World.block_lt_of_cell? w _ hx109_5)).trans hx109_5
            replace hx109_6 := (HB.out.cell (World.block_lt_of_cell? w _ hx109_6)).trans hx109_6
            replace hx109_7 := (HB.out.cell (World.block_lt_of_cell? w _ hx109_7)).trans hx109_7
            replace hx109_8 := (HB.out.cell (World.block_lt_of_cell? w _ hx109_8)).trans hx109_8
            replace hx109_9 := (HB.out.cell (World.block_lt_of_cell? w _ hx109_9)).trans hx109_9
            replace hx109_10 := (HB.out.cell (World.block_lt_of_cell? w _ hx109_10)).trans hx109_10
            replace p109 := eq_true p109
            replace q109 := eq_true q109
            go_wp2_with (first | ((with_reducible refine gate_callee (f := 16) rfl ?_); refine goesL_ (some 29) rfl rfl Tryd.func16 (by kernel_rfl) rfl #[.slice (some ad109) l0.length c0, .string ((rd_T35 l0 x3_2).f0)] rfl (by (try simp only [List.map_toArray, List.map_cons, List.map_nil]); first | done | rfl | (simp only [List.length_drop, List.length_take]; rfl)) ?_; (with_reducible refine (flist_Find.calls k2 _ _ l0 ((rd_T35 l0 x3_2).f0) t110 true _ ?side1 ?side2 A12.out).mono ?_); (case side1 => repeat (first | exact (Kd.C_below HR0.out HB.out) | (with_reducible refine Kd.C_alloc ?_ _) | (with_reducible refine Kd.C_drewN ?_ _) | (with_reducible refine Kd.C_drew ?_))); (case side2 => exact HC0.out); rintro e w18 ⟨rfl, hb⟩; refine ⟨_, rfl, ?_⟩; have n0_ := Aside0.mk (below_step (by repeat (first | (with_reducible first | exact HB.out | apply below_alloc | apply pw_below_drewN | apply below_drew1) | exact HB.out)) hb); clear HB; have HB := n0_; clear n0_; (try clear hb); (try clear hb2); (try clear hk); (try clear hi); have p112 : 0 ≤ (x3_2 : Int) := of_decide_eq_true (by first | (with_reducible assumption) | assumption); have q112 : x3_2 < (l0.length : Int) := of_decide_eq_true (by first | (with_reducible assumption) | assumption); obtain ⟨ad112, e112, hx112_0, hx112_1, hx112_2, hx112_3, hx112_4, hx112_5, hx112_6, hx112_7, hx112_8, hx112_9, hx112_10⟩ := at_T35 HR0.out x3_2 p112 q112; obtain rfl : ad109 = ad112 := (by injection e112); replace hx112_0 := (HB.out.cell (World.block_lt_of_cell? w _ hx112_0)).trans hx112_0; replace hx112_1 := (HB.out.cell (World.block_lt_of_cell? w _ hx112_1)).trans hx112_1; replace hx112_2 := (HB.out.cell (World.block_lt_of_cell? w _ hx112_2)).trans hx112_2; replace hx112_3 := (HB.out.cell (World.block_lt_of_cell? w _ hx112_3)).trans hx112_3; replace hx112_4 := (HB.out.cell (World.block_lt_of_cell? w _ hx112_4)).trans hx112_4; replace hx112_5 := (HB.out.cell (World.block_lt_of_cell? w _ hx112_5)).trans hx112_5; replace hx112_6 := (HB.out.cell (World.block_lt_of_cell? w _ hx112_6)).trans hx112_6; replace hx112_7 := (HB.out.cell (World.block_lt_of_cell? w _ hx112_7)).trans hx112_7; replace hx112_8 := (HB.out.cell (World.block_lt_of_cell? w _ hx112_8)).trans hx112_8; replace hx112_9 := (HB.out.cell (World.block_lt_of_cell? w _ hx112_9)).trans hx112_9; replace hx112_10 := (HB.out.cell (World.block_lt_of_cell? w _ hx112_10)).trans hx112_10; replace p112 := eq_true p112; replace q112 := eq_true q112) | ((with_reducible refine gate_callee (f := 17) rfl ?_); refine goesL_ (some 38) rfl rfl Tryd.func17 (by kernel_rfl) rfl #[.slice (some ad109) l0.length c0, .string ((rd_T35 l0 x3_2).f0)] rfl (by (try simp only [List.map_toArray, List.map_cons, List.map_nil]); first | done | rfl | (simp only [List.length_drop, List.length_take]; rfl)) ?_; (with_reducible refine (flist_Below.calls _ _ l0 ((rd_T35 l0 x3_2).f0) t113 _ ?side1 ?side2 A13.out).mono ?_); (case side1 => repeat (first | exact (Kd.C_below HR0.out HB.out) | (with_reducible refine Kd.C_alloc ?_ _) | (with_reducible refine Kd.C_drewN ?_ _) | (with_reducible refine Kd.C_drew ?_))); (case side2 => exact HC0.out); rintro e w19 ⟨v114, rfl, ho0, hb⟩; refine ⟨_, rfl, ?_⟩; have n0_ := Aside0.mk (Kd.R_lower ho0 (below_size (by repeat (first | (with_reducible first | exact HB.out | apply below_alloc | apply pw_below_drewN | apply below_drew1) | exact HB.out)))); have n1_ := Aside0.mk (below_step (by repeat (first | (with_reducible first | exact HB.out | apply below_alloc | apply pw_below_drewN | apply below_drew1) | exact HB.out)) hb); clear HB; have HO115 := n0_; have HB := n1_; clear n0_ n1_; (try clear hb); (try clear hb2); (try clear hk); (try clear hi); (try clear ho0); have p116 : 0 ≤ (x3_2 : Int) := of_decide_eq_true (by first | (with_reducible assumption) | assumption); have q116 : x3_2 < (l0.length : Int) := of_decide_eq_true (by first | (with_reducible assumption) | assumption); obtain ⟨ad116, e116, hx116_0, hx116_1, hx116_2, hx116_3, hx116_4, hx116_5, hx116_6, hx116_7, hx116_8, hx116_9, hx116_10⟩ := at_T35 HR0.out x3_2 p116 q116; obtain rfl : ad109 = ad116 := (by injection e116); replace hx116_0 := (HB.out.cell (World.block_lt_of_cell? w _ hx116_0)).trans hx116_0; replace hx116_1 := (HB.out.cell (World.block_lt_of_cell? w _ hx116_1)).trans hx116_1; replace hx116_2 := (HB.out.cell (World.block_lt_of_cell? w _ hx116_2)).trans hx116_2; replace hx116_3 := (HB.out.cell (World.block_lt_of_cell? w _ hx116_3)).trans hx116_3; replace hx116_4 := (HB.out.cell (World.block_lt_of_cell? w _ hx116_4)).trans hx116_4; replace hx116_5 := (HB.out.cell (World.block_lt_of_cell? w _ hx116_5)).trans hx116_5; replace hx116_6 := (HB.out.cell (World.block_lt_of_cell? w _ hx116_6)).trans hx116_6; replace hx116_7 := (HB.out.cell (World.block_lt_of_cell? w _ hx116_7)).trans hx116_7; replace hx116_8 := (HB.out.cell (World.block_lt_of_cell? w _ hx116_8)).trans hx116_8; replace hx116_9 := (HB.out.cell (World.block_lt_of_cell? w _ hx116_9)).trans hx116_9; replace hx116_10 := (HB.out.cell (World.block_lt_of_cell? w _ hx116_10)).trans hx116_10; replace p116 := eq_true p116; replace q116 := eq_true q116; obtain ⟨Ao20, co20, eo20⟩ := Kd.R_slice HO115.out; subst eo20))
            go_ret
            exact ⟨by first | rfl | (simp [errW_none, errW_some] <;> rfl) | (simp [*, errW_none, errW_some] <;> rfl), by repeat (first | (with_reducible first | exact HB.out | apply below_alloc | apply pw_below_drewN | apply below_drew1) | exact HB.out)⟩
           ·rw [if_neg c17] at H
            have c17b0 : decide ((l0.length : Int) < (wrap64 ((wrap64 (x3_2 + 1)) + (t113.length : Int)))) = false := decide_eq_false c17
            clear c17
            obtain ⟨ji21, hji21⟩ : ∃ j_ : Int, (wrap64 (x3_2 + 1)) = j_ := ⟨_, rfl⟩
            replace H : (if 0 ≤ (ji21) then (if (ji21) ≤ (wrap64 ((ji21) + (t113.length : Int))) then (if (wrap64 ((ji21) + (t113.length : Int))) ≤ (l0.length : Int) then ((flist_Same.f k2 t113 ((l0.take ((wrap64 ((ji21) + (t113.length : Int))) : Int).toNat).drop ((ji21) : Int).toNat)).bind fun t121 => (if t121 = true then (remoralaw20_FlistPlaces.l0 k2 l0 ji21) else (some false))) else (none)) else (none)) else (none)) = some r := by first | (rw [hji21] at H; exact H) | (simp only [hji21] at H ⊢; exact H)
            (try rw [hji21] at c17b0)
            (try rw [hji21] at A12)
            (try rw [hji21] at A13)
            have hji21w : (IntKind.i64.wrap (x3_2 + 1)) = ji21 := (i64_w _).trans hji21
            by_cases c22 : 0 ≤ (ji21)
            ·rw [if_pos c22] at H
             have c22b0 := eq_true c22
             have c22b1 : decide (0 ≤ (ji21)) = true := decide_eq_true c22
             clear c22
             by_cases c23 : (ji21) ≤ (wrap64 ((ji21) + (t113.length : Int)))
             ·rw [if_pos c23] at H
              have c23b0 := eq_true c23
              have c23b1 : decide ((ji21) ≤ (wrap64 ((ji21) + (t113.length : Int)))) = true := decide_eq_true c23
              by_cases c24 : (wrap64 ((ji21) + (t113.length : Int))) ≤ (l0.length : Int)
              ·rw [if_pos c24] at H
               have c24b0 := eq_true c24
               have c24b1 : decide ((wrap64 ((ji21) + (t113.length : Int))) ≤ (l0.length : Int)) = true := decide_eq_true c24
               obtain ⟨y117, hy117⟩ : ∃ y_ : List (S35), y_ = ((l0.take ((wrap64 ((ji21) + (t113.length : Int))) : Int).toNat).drop ((ji21) : Int).toNat) := ⟨_, rfl⟩
               replace H : ((flist_Same.f k2 t113 y117).bind fun t121 => (if t121 = true then (remoralaw20_FlistPlaces.l0 k2 l0 ji21) else (some false))) = some r := by first | (rw [hy117]; with_reducible exact H) | (have H2_ := (Option.bind_some _ _).symm.trans H; rw [hy117]; with_reducible exact H2_) | (have H2_ := (Option.bind_some _ _).symm.trans H; with_reducible exact H2_) | with_reducible exact H | (rw [hy117]; exact H) | exact H
               have Ny117 := Aside0.mk hy117
               clear hy117
               replace H := Option.bind_eq_some_iff.mp H
               obtain ⟨t121, A250, H⟩ := H
               replace H : (if t121 = true then (remoralaw20_FlistPlaces.l0 k2 l0 ji21) else (some false)) = some r := H
               have A25 := Aside0.mk A250
               clear A250
               by_cases c26 : t121 = true
               ·subst c26
                have H1 : (remoralaw20_FlistPlaces.l0 k2 l0 ji21) = some r := by rw [if_pos rfl] at H; exact H
                clear H
                have H := H1
                clear H1
                have H' := Aside0.mk H
                clear H
                have p109 : 0 ≤ (x3_2 : Int) := of_decide_eq_true (by first | (with_reducible assumption) | assumption)
                have q109 : x3_2 < (l0.length : Int) := of_decide_eq_true (by first | (with_reducible assumption) | assumption)
                obtain ⟨ad109, e109, hx109_0, hx109_1, hx109_2, hx109_3, hx109_4, hx109_5, hx109_6, hx109_7, hx109_8, hx109_9, hx109_10⟩ := at_T35 HR0.out x3_2 p109 q109
                cases e109
                replace hx109_0 := (HB.out.cell (World.block_lt_of_cell? w _ hx109_0)).trans hx109_0
                replace hx109_1 := (HB.out.cell (World.block_lt_of_cell? w _ hx109_1)).trans hx109_1
                replace hx109_2 := (HB.out.cell (World.block_lt_of_cell? w _ hx109_2)).trans hx109_2
                replace hx109_3 := (HB.out.cell (World.block_lt_of_cell? w _ hx109_3)).trans hx109_3
                replace hx109_4 := (HB.out.cell (World.block_lt_of_cell? w _ hx109_4)).trans hx109_4
                replace hx109_5 := (HB.out.cell (World.block_lt_of_cell? w _ hx109_5)).trans hx109_5
                replace hx109_6 := (HB.out.cell (World.block_lt_of_cell? w _ hx109_6)).trans hx109_6
                replace hx109_7 := (HB.out.cell (World.block_lt_of_cell? w _ hx109_7)).trans hx109_7
                replace hx109_8 := (HB.out.cell (World.block_lt_of_cell? w _ hx109_8)).trans hx109_8
                replace hx109_9 := (HB.out.cell (World.block_lt_of_cell? w _ hx109_9)).trans hx109_9
                replace hx109_10 := (HB.out.cell (World.block_lt_of_cell? w _ hx109_10)).trans hx109_10
                replace p109 := eq_true p109
                replace q109 := eq_true q109
                go_wp2_with (first | ((with_reducible refine gate_callee (f := 16) rfl ?_); refine goesL_ (some 29) rfl rfl Tryd.func16 (by kernel_rfl) rfl #[.slice (some ad109) l0.length c0, .string ((rd_T35 l0 x3_2).f0)] rfl (by (try simp only [List.map_toArray, List.map_cons, List.map_nil]); first | done | rfl | (simp only [List.length_drop, List.length_take]; rfl)) ?_; (with_reducible refine (flist_Find.calls k2 _ _ l0 ((rd_T35 l0 x3_2).f0) t110 true _ ?side1 ?side2 A12.out).mono ?_); (case side1 => repeat (first | exact (Kd.C_below HR0.out HB.out) | (with_reducible refine Kd.C_alloc ?_ _) | (with_reducible refine Kd.C_drewN ?_ _) | (with_reducible refine Kd.C_drew ?_))); (case side2 => exact HC0.out); rintro e w27 ⟨rfl, hb⟩; refine ⟨_, rfl, ?_⟩; have n0_ := Aside0.mk (below_step (by repeat (first | (with_reducible first | exact HB.out | apply below_alloc | apply pw_below_drewN | apply below_drew1) | exact HB.out)) hb); clear HB; have HB := n0_; clear n0_; (try clear hb); (try clear hb2); (try clear hk); (try clear hi); have p112 : 0 ≤ (x3_2 : Int) := of_decide_eq_true (by first | (with_reducible assumption) | assumption); have q112 : x3_2 < (l0.length : Int) := of_decide_eq_true (by first | (with_reducible assumption) | assumption); obtain ⟨ad112, e112, hx112_0, hx112_1, hx112_2, hx112_3, hx112_4, hx112_5, hx112_6, hx112_7, hx112_8, hx112_9, hx112_10⟩ := at_T35 HR0.out x3_2 p112 q112; obtain rfl : ad109 = ad112 := (by injection e112); replace hx112_0 := (HB.out.cell (World.block_lt_of_cell? w _ hx112_0)).trans hx112_0; replace hx112_1 := (HB.out.cell (World.block_lt_of_cell? w _ hx112_1)).trans hx112_1; replace hx112_2 := (HB.out.cell (World.block_lt_of_cell? w _ hx112_2)).trans hx112_2; replace hx112_3 := (HB.out.cell (World.block_lt_of_cell? w _ hx112_3)).trans hx112_3; replace hx112_4 := (HB.out.cell (World.block_lt_of_cell? w _ hx112_4)).trans hx112_4; replace hx112_5 := (HB.out.cell (World.block_lt_of_cell? w _ hx112_5)).trans hx112_5; replace hx112_6 := (HB.out.cell (World.block_lt_of_cell? w _ hx112_6)).trans hx112_6; replace hx112_7 := (HB.out.cell (World.block_lt_of_cell? w _ hx112_7)).trans hx112_7; replace hx112_8 := (HB.out.cell (World.block_lt_of_cell? w _ hx112_8)).trans hx112_8; replace hx112_9 := (HB.out.cell (World.block_lt_of_cell? w _ hx112_9)).trans hx112_9; replace hx112_10 := (HB.out.cell (World.block_lt_of_cell? w _ hx112_10)).trans hx112_10; replace p112 := eq_true p112; replace q112 := eq_true q112) | ((with_reducible refine gate_callee (f := 17) rfl ?_); refine goesL_ (some 38) rfl rfl Tryd.func17 (by kernel_rfl) rfl #[.slice (some ad109) l0.length c0, .string ((rd_T35 l0 x3_2).f0)] rfl (by (try simp only [List.map_toArray, List.map_cons, List.map_nil]); first | done | rfl | (simp only [List.length_drop, List.length_take]; rfl)) ?_; (with_reducible refine (flist_Below.calls _ _ l0 ((rd_T35 l0 x3_2).f0) t113 _ ?side1 ?side2 A13.out).mono ?_); (case side1 => repeat (first | exact (Kd.C_below HR0.out HB.out) | (with_reducible refine Kd.C_alloc ?_ _) | (with_reducible refine Kd.C_drewN ?_ _) | (with_reducible refine Kd.C_drew ?_))); (case side2 => exact HC0.out); rintro e w28 ⟨v114, rfl, ho0, hb⟩; refine ⟨_, rfl, ?_⟩; have n0_ := Aside0.mk (Kd.R_lower ho0 (below_size (by repeat (first | (with_reducible first | exact HB.out | apply below_alloc | apply pw_below_drewN | apply below_drew1) | exact HB.out)))); have n1_ := Aside0.mk (below_step (by repeat (first | (with_reducible first | exact HB.out | apply below_alloc | apply pw_below_drewN | apply below_drew1) | exact HB.out)) hb); clear HB; have HO115 := n0_; have HB := n1_; clear n0_ n1_; (try clear hb); (try clear hb2); (try clear hk); (try clear hi); (try clear ho0); have p116 : 0 ≤ (x3_2 : Int) := of_decide_eq_true (by first | (with_reducible assumption) | assumption); have q116 : x3_2 < (l0.length : Int) := of_decide_eq_true (by first | (with_reducible assumption) | assumption); obtain ⟨ad116, e116, hx116_0, hx116_1, hx116_2, hx116_3, hx116_4, hx116_5, hx116_6, hx116_7, hx116_8, hx116_9, hx116_10⟩ := at_T35 HR0.out x3_2 p116 q116; obtain rfl : ad109 = ad116 := (by injection e116); replace hx116_0 := (HB.out.cell (World.block_lt_of_cell? w _ hx116_0)).trans hx116_0; replace hx116_1 := (HB.out.cell (World.block_lt_of_cell? w _ hx116_1)).trans hx116_1; replace hx116_2 := (HB.out.cell (World.block_lt_of_cell? w _ hx116_2)).trans hx116_2; replace hx116_3 := (HB.out.cell (World.block_lt_of_cell? w _ hx116_3)).trans hx116_3; replace hx116_4 := (HB.out.cell (World.block_lt_of_cell? w _ hx116_4)).trans hx116_4; replace hx116_5 := (HB.out.cell (World.block_lt_of_cell? w _ hx116_5)).trans hx116_5; replace hx116_6 := (HB.out.cell (World.block_lt_of_cell? w _ hx116_6)).trans hx116_6; replace hx116_7 := (HB.out.cell (World.block_lt_of_cell? w _ hx116_7)).trans hx116_7; replace hx116_8 := (HB.out.cell (World.block_lt_of_cell? w _ hx116_8)).trans hx116_8; replace hx116_9 := (HB.out.cell (World.block_lt_of_cell? w _ hx116_9)).trans hx116_9; replace hx116_10 := (HB.out.cell (World.block_lt_of_cell? w _ hx116_10)).trans hx116_10; replace p116 := eq_true p116; replace q116 := eq_true q116; obtain ⟨Ao29, co29, eo29⟩ := Kd.R_slice HO115.out; subst eo29; have q30 : ((wrap64 ((ji21) + (t113.length : Int))) : Int) ≤ ((l0.length : Int) : Int) := of_decide_eq_true (by first | (with_reducible assumption) | assumption); obtain ⟨i030, hi030, _, hsz30, _⟩ := info_parts info35; have hroom30 : l0.length ≤ c0 := HC0.out; have hC30 : Kd.C k35 _ (some ad109) l0.length l0 := HR0.out; have ql30 : ((ji21) : Int) ≤ ((wrap64 ((ji21) + (t113.length : Int))) : Int) := of_decide_eq_true (by first | (with_reducible assumption) | assumption); have q030 : (0 : Int) ≤ ((ji21) : Int) := of_decide_eq_true (by first | (with_reducible assumption) | assumption); have hcut30 := cut_mid (P := Tryd.prog) 22 35 .i64 .i64 Tryd.underlying22 hi030 11 hsz30 (some ad109) l0.length c0 (ji21) (wrap64 ((ji21) + (t113.length : Int))) q030 ql30 q30 hroom30; have hr30 := Kd.C_mid (lo := ((ji21) : Int).toNat) (hi := ((wrap64 ((ji21) + (t113.length : Int))) : Int).toNat) (c := c0) hC30 (by omega) (by omega) hroom30; obtain ⟨A30, hA30⟩ : ∃ A1, A1 = (if c0 = ((ji21) : Int).toNat then (some ad109) else ((some ad109) : Option Addr).map (·.add (((ji21) : Int).toNat * 11))) := ⟨_, rfl⟩; obtain ⟨c30, hc30⟩ : ∃ c1, c1 = c0 - ((ji21) : Int).toNat := ⟨_, rfl⟩; have hy30 : y117.length = ((wrap64 ((ji21) + (t113.length : Int))) : Int).toNat - ((ji21) : Int).toNat := (by rw [Ny117.out, List.length_drop, List.length_take] <;> omega); rw [show ((l0).take ((wrap64 ((ji21) + (t113.length : Int))) : Int).toNat).drop ((ji21) : Int).toNat = y117 from Ny117.out.symm] at hr30; replace hr30 : Kd.C k35 _ A30 y117.length y117 := (by rw [hA30]; exact hr30); rw [← hy30, ← hA30, ← hc30] at hcut30; have HR120 := Aside0.mk hr30; have HC120 := Aside0.mk (show y117.length ≤ c30 from by rw [hy30, hc30]; exact Nat.sub_le_sub_right (Nat.le_trans (by omega) hroom30) _); clear hr30 hC30 hroom30 hi030 hsz30 hc30; have KY30 := Aside0.mk hy30; have KA30 := Aside0.mk hA30; clear hy30 hA30; replace q30 := eq_true q30) | (go_at_call 18; (with_reducible refine (flist_Same.calls k2 _ _ t113 _ _ y117 true _ ?side1 ?side2 ?side3 ?side4 A25.out).mono ?_); (case side1 => repeat (first | exact (Kd.R_reads' HO115.out).2.2 | (with_reducible refine Kd.C_alloc ?_ _) | (with_reducible refine Kd.C_drewN ?_ _) | (with_reducible refine Kd.C_drew ?_))); (case side2 => exact (Kd.R_reads' HO115.out).2.1); (case side3 => repeat (first | exact (Kd.C_below HR120.out HB.out) | (with_reducible refine Kd.C_alloc ?_ _) | (with_reducible refine Kd.C_drewN ?_ _) | (with_reducible refine Kd.C_drew ?_))); (case side4 => exact HC120.out); rintro e w' ⟨rfl, ⟨nd, rfl⟩⟩))
                go_roundg k2
                case measure => have := HJ1.out; have := HK2.out; omega
                case rel => exact ⟨(ji21), (by first | rfl | (simp; done) | (simp only [← hji21] <;> (first | rfl | simp)) | (simp [*]; done)), H', ⟨by have := HJ1.out; have := HK2.out; omega⟩, ⟨by repeat (first | (with_reducible first | exact HB.out | apply below_alloc | apply pw_below_drewN | apply below_drew1) | exact HB.out)⟩⟩
               ·replace c26 := Bool.eq_false_iff.mpr c26
                subst c26
                have H1 : (some false) = some r := by rw [if_neg (show ¬ (false = true) by decide)] at H; exact H
                clear H
                have H := H1
                clear H1
                obtain rfl := Option.some.inj H
                have p109 : 0 ≤ (x3_2 : Int) := of_decide_eq_true (by first | (with_reducible assumption) | assumption)
                have q109 : x3_2 < (l0.length : Int) := of_decide_eq_true (by first | (with_reducible assumption) | assumption)
                obtain ⟨ad109, e109, hx109_0, hx109_1, hx109_2, hx109_3, hx109_4, hx109_5, hx109_6, hx109_7, hx109_8, hx109_9, hx109_10⟩ := at_T35 HR0.out x3_2 p109 q109
                cases e109
                replace hx109_0 := (HB.out.cell (World.block_lt_of_cell? w _ hx109_0)).trans hx109_0
                replace hx109_1 := (HB.out.cell (World.block_lt_of_cell? w _ hx109_1)).trans hx109_1
                replace hx109_2 := (HB.out.cell (World.block_lt_of_cell? w _ hx109_2)).trans hx109_2
                replace hx109_3 := (HB.out.cell (World.block_lt_of_cell? w _ hx109_3)).trans hx109_3
                replace hx109_4 := (HB.out.cell (World.block_lt_of_cell? w _ hx109_4)).trans hx109_4
                replace hx109_5 := (HB.out.cell (World.block_lt_of_cell? w _ hx109_5)).trans hx109_5
                replace hx109_6 := (HB.out.cell (World.block_lt_of_cell? w _ hx109_6)).trans hx109_6
                replace hx109_7 := (HB.out.cell (World.block_lt_of_cell? w _ hx109_7)).trans hx109_7
                replace hx109_8 := (HB.out.cell (World.block_lt_of_cell? w _ hx109_8)).trans hx109_8
                replace hx109_9 := (HB.out.cell (World.block_lt_of_cell? w _ hx109_9)).trans hx109_9
                replace hx109_10 := (HB.out.cell (World.block_lt_of_cell? w _ hx109_10)).trans hx109_10
                replace p109 := eq_true p109
                replace q109 := eq_true q109
                go_wp2_with (first | ((with_reducible refine gate_callee (f := 16) rfl ?_); refine goesL_ (some 29) rfl rfl Tryd.func16 (by kernel_rfl) rfl #[.slice (some ad109) l0.length c0, .string ((rd_T35 l0 x3_2).f0)] rfl (by (try simp only [List.map_toArray, List.map_cons, List.map_nil]); first | done | rfl | (simp only [List.length_drop, List.length_take]; rfl)) ?_; (with_reducible refine (flist_Find.calls k2 _ _ l0 ((rd_T35 l0 x3_2).f0) t110 true _ ?side1 ?side2 A12.out).mono ?_); (case side1 => repeat (first | exact (Kd.C_below HR0.out HB.out) | (with_reducible refine Kd.C_alloc ?_ _) | (with_reducible refine Kd.C_drewN ?_ _) | (with_reducible refine Kd.C_drew ?_))); (case side2 => exact HC0.out); rintro e w31 ⟨rfl, hb⟩; refine ⟨_, rfl, ?_⟩; have n0_ := Aside0.mk (below_step (by repeat (first | (with_reducible first | exact HB.out | apply below_alloc | apply pw_below_drewN | apply below_drew1) | exact HB.out)) hb); clear HB; have HB := n0_; clear n0_; (try clear hb); (try clear hb2); (try clear hk); (try clear hi); have p112 : 0 ≤ (x3_2 : Int) := of_decide_eq_true (by first | (with_reducible assumption) | assumption); have q112 : x3_2 < (l0.length : Int) := of_decide_eq_true (by first | (with_reducible assumption) | assumption); obtain ⟨ad112, e112, hx112_0, hx112_1, hx112_2, hx112_3, hx112_4, hx112_5, hx112_6, hx112_7, hx112_8, hx112_9, hx112_10⟩ := at_T35 HR0.out x3_2 p112 q112; obtain rfl : ad109 = ad112 := (by injection e112); replace hx112_0 := (HB.out.cell (World.block_lt_of_cell? w _ hx112_0)).trans hx112_0; replace hx112_1 := (HB.out.cell (World.block_lt_of_cell? w _ hx112_1)).trans hx112_1; replace hx112_2 := (HB.out.cell (World.block_lt_of_cell? w _ hx112_2)).trans hx112_2; replace hx112_3 := (HB.out.cell (World.block_lt_of_cell? w _ hx112_3)).trans hx112_3; replace hx112_4 := (HB.out.cell (World.block_lt_of_cell? w _ hx112_4)).trans hx112_4; replace hx112_5 := (HB.out.cell (World.block_lt_of_cell? w _ hx112_5)).trans hx112_5; replace hx112_6 := (HB.out.cell (World.block_lt_of_cell? w _ hx112_6)).trans hx112_6; replace hx112_7 := (HB.out.cell (World.block_lt_of_cell? w _ hx112_7)).trans hx112_7; replace hx112_8 := (HB.out.cell (World.block_lt_of_cell? w _ hx112_8)).trans hx112_8; replace hx112_9 := (HB.out.cell (World.block_lt_of_cell? w _ hx112_9)).trans hx112_9; replace hx112_10 := (HB.out.cell (World.block_lt_of_cell? w _ hx112_10)).trans hx112_10; replace p112 := eq_true p112; replace q112 := eq_true q112) | ((with_reducible refine gate_callee (f := 17) rfl ?_); refine goesL_ (some 38) rfl rfl Tryd.func17 (by kernel_rfl) rfl #[.slice (some ad109) l0.length c0, .string ((rd_T35 l0 x3_2).f0)] rfl (by (try simp only [List.map_toArray, List.map_cons, List.map_nil]); first | done | rfl | (simp only [List.length_drop, List.length_take]; rfl)) ?_; (with_reducible refine (flist_Below.calls _ _ l0 ((rd_T35 l0 x3_2).f0) t113 _ ?side1 ?side2 A13.out).mono ?_); (case side1 => repeat (first | exact (Kd.C_below HR0.out HB.out) | (with_reducible refine Kd.C_alloc ?_ _) | (with_reducible refine Kd.C_drewN ?_ _) | (with_reducible refine Kd.C_drew ?_))); (case side2 => exact HC0.out); rintro e w32 ⟨v114, rfl, ho0, hb⟩; refine ⟨_, rfl, ?_⟩; have n0_ := Aside0.mk (Kd.R_lower ho0 (below_size (by repeat (first | (with_reducible first | exact HB.out | apply below_alloc | apply pw_below_drewN | apply below_drew1) | exact HB.out)))); have n1_ := Aside0.mk (below_step (by repeat (first | (with_reducible first | exact HB.out | apply below_alloc | apply pw_below_drewN | apply below_drew1) | exact HB.out)) hb); clear HB; have HO115 := n0_; have HB := n1_; clear n0_ n1_; (try clear hb); (try clear hb2); (try clear hk); (try clear hi); (try clear ho0); have p116 : 0 ≤ (x3_2 : Int) := of_decide_eq_true (by first | (with_reducible assumption) | assumption); have q116 : x3_2 < (l0.length : Int) := of_decide_eq_true (by first | (with_reducible assumption) | assumption); obtain ⟨ad116, e116, hx116_0, hx116_1, hx116_2, hx116_3, hx116_4, hx116_5, hx116_6, hx116_7, hx116_8, hx116_9, hx116_10⟩ := at_T35 HR0.out x3_2 p116 q116; obtain rfl : ad109 = ad116 := (by injection e116); replace hx116_0 := (HB.out.cell (World.block_lt_of_cell? w _ hx116_0)).trans hx116_0; replace hx116_1 := (HB.out.cell (World.block_lt_of_cell? w _ hx116_1)).trans hx116_1; replace hx116_2 := (HB.out.cell (World.block_lt_of_cell? w _ hx116_2)).trans hx116_2; replace hx116_3 := (HB.out.cell (World.block_lt_of_cell? w _ hx116_3)).trans hx116_3; replace hx116_4 := (HB.out.cell (World.block_lt_of_cell? w _ hx116_4)).trans hx116_4; replace hx116_5 := (HB.out.cell (World.block_lt_of_cell? w _ hx116_5)).trans hx116_5; replace hx116_6 := (HB.out.cell (World.block_lt_of_cell? w _ hx116_6)).trans hx116_6; replace hx116_7 := (HB.out.cell (World.block_lt_of_cell? w _ hx116_7)).trans hx116_7; replace hx116_8 := (HB.out.cell (World.block_lt_of_cell? w _ hx116_8)).trans hx116_8; replace hx116_9 := (HB.out.cell (World.block_lt_of_cell? w _ hx116_9)).trans hx116_9; replace hx116_10 := (HB.out.cell (World.block_lt_of_cell? w _ hx116_10)).trans hx116_10; replace p116 := eq_true p116; replace q116 := eq_true q116; obtain ⟨Ao33, co33, eo33⟩ := Kd.R_slice HO115.out; subst eo33; have q34 : ((wrap64 ((ji21) + (t113.length : Int))) : Int) ≤ ((l0.length : Int) : Int) := of_decide_eq_true (by first | (with_reducible assumption) | assumption); obtain ⟨i034, hi034, _, hsz34, _⟩ := info_parts info35; have hroom34 : l0.length ≤ c0 := HC0.out; have hC34 : Kd.C k35 _ (some ad109) l0.length l0 := HR0.out; have ql34 : ((ji21) : Int) ≤ ((wrap64 ((ji21) + (t113.length : Int))) : Int) := of_decide_eq_true (by first | (with_reducible assumption) | assumption); have q034 : (0 : Int) ≤ ((ji21) : Int) := of_decide_eq_true (by first | (with_reducible assumption) | assumption); have hcut34 := cut_mid (P := Tryd.prog) 22 35 .i64 .i64 Tryd.underlying22 hi034 11 hsz34 (some ad109) l0.length c0 (ji21) (wrap64 ((ji21) + (t113.length : Int))) q034 ql34 q34 hroom34; have hr34 := Kd.C_mid (lo := ((ji21) : Int).toNat) (hi := ((wrap64 ((ji21) + (t113.length : Int))) : Int).toNat) (c := c0) hC34 (by omega) (by omega) hroom34; obtain ⟨A34, hA34⟩ : ∃ A1, A1 = (if c0 = ((ji21) : Int).toNat then (some ad109) else ((some ad109) : Option Addr).map (·.add (((ji21) : Int).toNat * 11))) := ⟨_, rfl⟩; obtain ⟨c34, hc34⟩ : ∃ c1, c1 = c0 - ((ji21) : Int).toNat := ⟨_, rfl⟩; have hy34 : y117.length = ((wrap64 ((ji21) + (t113.length : Int))) : Int).toNat - ((ji21) : Int).toNat := (by rw [Ny117.out, List.length_drop, List.length_take] <;> omega); rw [show ((l0).take ((wrap64 ((ji21) + (t113.length : Int))) : Int).toNat).drop ((ji21) : Int).toNat = y117 from Ny117.out.symm] at hr34; replace hr34 : Kd.C k35 _ A34 y117.length y117 := (by rw [hA34]; exact hr34); rw [← hy34, ← hA34, ← hc34] at hcut34; have HR120 := Aside0.mk hr34; have HC120 := Aside0.mk (show y117.length ≤ c34 from by rw [hy34, hc34]; exact Nat.sub_le_sub_right (Nat.le_trans (by omega) hroom34) _); clear hr34 hC34 hroom34 hi034 hsz34 hc34; have KY34 := Aside0.mk hy34; have KA34 := Aside0.mk hA34; clear hy34 hA34; replace q34 := eq_true q34) | (go_at_call 18; (with_reducible refine (flist_Same.calls k2 _ _ t113 _ _ y117 false _ ?side1 ?side2 ?side3 ?side4 A25.out).mono ?_); (case side1 => repeat (first | exact (Kd.R_reads' HO115.out).2.2 | (with_reducible refine Kd.C_alloc ?_ _) | (with_reducible refine Kd.C_drewN ?_ _) | (with_reducible refine Kd.C_drew ?_))); (case side2 => exact (Kd.R_reads' HO115.out).2.1); (case side3 => repeat (first | exact (Kd.C_below HR120.out HB.out) | (with_reducible refine Kd.C_alloc ?_ _) | (with_reducible refine Kd.C_drewN ?_ _) | (with_reducible refine Kd.C_drew ?_))); (case side4 => exact HC120.out); rintro e w' ⟨rfl, ⟨nd, rfl⟩⟩))
                go_ret
                exact ⟨by first | rfl | (simp [errW_none, errW_some] <;> rfl) | (simp only [← hji21]; first | rfl | (simp [errW_none, errW_some] <;> rfl)) | (simp [*, errW_none, errW_some] <;> rfl), by repeat (first | (with_reducible first | exact HB.out | apply below_alloc | apply pw_below_drewN | apply below_drew1) | exact HB.out)⟩
              ·rw [if_neg c24] at H
               exact absurd H (by simp)
             ·rw [if_neg c23] at H
              exact absurd H (by simp)
            ·rw [if_neg c22] at H
             exact absurd H (by simp)
          ·rw [if_neg c16] at H
           have c16b0 : (((rd_T35 l0 x3_2).f1) == 2) = false := beq_eq_false_iff_ne.mpr c16
           have c16b1 : (((rd_T35 l0 x3_2).f1) != 2) = true := bne_iff_ne.mpr c16
           by_cases c35 : (t113.length : Int) > 0
           ·rw [if_pos c35] at H
            have c35b0 : decide (0 < (t113.length : Int)) = true := decide_eq_true c35
            have c35b1 : decide (0 < t113.length) = true := decide_eq_true (by omega)
            clear c35
            obtain rfl := Option.some.inj H
            have p109 : 0 ≤ (x3_2 : Int) := of_decide_eq_true (by first | (with_reducible assumption) | assumption)
            have q109 : x3_2 < (l0.length : Int) := of_decide_eq_true (by first | (with_reducible assumption) | assumption)
            obtain ⟨ad109, e109, hx109_0, hx109_1, hx109_2, hx109_3, hx109_4, hx109_5, hx109_6, hx109_7, hx109_8, hx109_9, hx109_10⟩ := at_T35 HR0.out x3_2 p109 q109
            cases e109
            replace hx109_0 := (HB.out.cell (World.block_lt_of_cell? w _ hx109_0)).trans hx109_0
            replace hx109_1 := (HB.out.cell (World.block_lt_of_cell? w _ hx109_1)).trans hx109_1
            replace hx109_2 := (HB.out.cell (World.block_lt_of_cell? w _ hx109_2)).trans hx109_2
            replace hx109_3 := (HB.out.cell (World.block_lt_of_cell? w _ hx109_3)).trans hx109_3
            replace hx109_4 := (HB.out.cell (World.block_lt_of_cell? w _ hx109_4)).trans hx109_4
            replace hx109_5 := (HB.out.cell (World.block_lt_of_cell? w _ hx109_5)).trans hx109_5
            replace hx109_6 := (HB.out.cell (World.block_lt_of_cell? w _ hx109_6)).trans hx109_6
            replace hx109_7 := (HB.out.cell (World.block_lt_of_cell? w _ hx109_7)).trans hx109_7
            replace hx109_8 := (HB.out.cell (World.block_lt_of_cell? w _ hx109_8)).trans hx109_8
            replace hx109_9 := (HB.out.cell (World.block_lt_of_cell? w _ hx109_9)).trans hx109_9
            replace hx109_10 := (HB.out.cell (World.block_lt_of_cell? w _ hx109_10)).trans hx109_10
            replace p109 := eq_true p109
            replace q109 := eq_true q109
            go_wp2_with (first | ((with_reducible refine gate_callee (f := 16) rfl ?_); refine goesL_ (some 29) rfl rfl Tryd.func16 (by kernel_rfl) rfl #[.slice (some ad109) l0.length c0, .string ((rd_T35 l0 x3_2).f0)] rfl (by (try simp only [List.map_toArray, List.map_cons, List.map_nil]); first | done | rfl | (simp only [List.length_drop, List.length_take]; rfl)) ?_; (with_reducible refine (flist_Find.calls k2 _ _ l0 ((rd_T35 l0 x3_2).f0) t110 true _ ?side1 ?side2 A12.out).mono ?_); (case side1 => repeat (first | exact (Kd.C_below HR0.out HB.out) | (with_reducible refine Kd.C_alloc ?_ _) | (with_reducible refine Kd.C_drewN ?_ _) | (with_reducible refine Kd.C_drew ?_))); (case side2 => exact HC0.out); rintro e w36 ⟨rfl, hb⟩; refine ⟨_, rfl, ?_⟩; have n0_ := Aside0.mk (below_step (by repeat (first | (with_reducible first | exact HB.out | apply below_alloc | apply pw_below_drewN | apply below_drew1) | exact HB.out)) hb); clear HB; have HB := n0_; clear n0_; (try clear hb); (try clear hb2); (try clear hk); (try clear hi); have p112 : 0 ≤ (x3_2 : Int) := of_decide_eq_true (by first | (with_reducible assumption) | assumption); have q112 : x3_2 < (l0.length : Int) := of_decide_eq_true (by first | (with_reducible assumption) | assumption); obtain ⟨ad112, e112, hx112_0, hx112_1, hx112_2, hx112_3, hx112_4, hx112_5, hx112_6, hx112_7, hx112_8, hx112_9, hx112_10⟩ := at_T35 HR0.out x3_2 p112 q112; obtain rfl : ad109 = ad112 := (by injection e112); replace hx112_0 := (HB.out.cell (World.block_lt_of_cell? w _ hx112_0)).trans hx112_0; replace hx112_1 := (HB.out.cell (World.block_lt_of_cell? w _ hx112_1)).trans hx112_1; replace hx112_2 := (HB.out.cell (World.block_lt_of_cell? w _ hx112_2)).trans hx112_2; replace hx112_3 := (HB.out.cell (World.block_lt_of_cell? w _ hx112_3)).trans hx112_3; replace hx112_4 := (HB.out.cell (World.block_lt_of_cell? w _ hx112_4)).trans hx112_4; replace hx112_5 := (HB.out.cell (World.block_lt_of_cell? w _ hx112_5)).trans hx112_5; replace hx112_6 := (HB.out.cell (World.block_lt_of_cell? w _ hx112_6)).trans hx112_6; replace hx112_7 := (HB.out.cell (World.block_lt_of_cell? w _ hx112_7)).trans hx112_7; replace hx112_8 := (HB.out.cell (World.block_lt_of_cell? w _ hx112_8)).trans hx112_8; replace hx112_9 := (HB.out.cell (World.block_lt_of_cell? w _ hx112_9)).trans hx112_9; replace hx112_10 := (HB.out.cell (World.block_lt_of_cell? w _ hx112_10)).trans hx112_10; replace p112 := eq_true p112; replace q112 := eq_true q112) | ((with_reducible refine gate_callee (f := 17) rfl ?_); refine goesL_ (some 38) rfl rfl Tryd.func17 (by kernel_rfl) rfl #[.slice (some ad109) l0.length c0, .string ((rd_T35 l0 x3_2).f0)] rfl (by (try simp only [List.map_toArray, List.map_cons, List.map_nil]); first | done | rfl | (simp only [List.length_drop, List.length_take]; rfl)) ?_; (with_reducible refine (flist_Below.calls _ _ l0 ((rd_T35 l0 x3_2).f0) t113 _ ?side1 ?side2 A13.out).mono ?_); (case side1 => repeat (first | exact (Kd.C_below HR0.out HB.out) | (with_reducible refine Kd.C_alloc ?_ _) | (with_reducible refine Kd.C_drewN ?_ _) | (with_reducible refine Kd.C_drew ?_))); (case side2 => exact HC0.out); rintro e w37 ⟨v114, rfl, ho0, hb⟩; refine ⟨_, rfl, ?_⟩; have n0_ := Aside0.mk (Kd.R_lower ho0 (below_size (by repeat (first | (with_reducible first | exact HB.out | apply below_alloc | apply pw_below_drewN | apply below_drew1) | exact HB.out)))); have n1_ := Aside0.mk (below_step (by repeat (first | (with_reducible first | exact HB.out | apply below_alloc | apply pw_below_drewN | apply below_drew1) | exact HB.out)) hb); clear HB; have HO115 := n0_; have HB := n1_; clear n0_ n1_; (try clear hb); (try clear hb2); (try clear hk); (try clear hi); (try clear ho0); have p116 : 0 ≤ (x3_2 : Int) := of_decide_eq_true (by first | (with_reducible assumption) | assumption); have q116 : x3_2 < (l0.length : Int) := of_decide_eq_true (by first | (with_reducible assumption) | assumption); obtain ⟨ad116, e116, hx116_0, hx116_1, hx116_2, hx116_3, hx116_4, hx116_5, hx116_6, hx116_7, hx116_8, hx116_9, hx116_10⟩ := at_T35 HR0.out x3_2 p116 q116; obtain rfl : ad109 = ad116 := (by injection e116); replace hx116_0 := (HB.out.cell (World.block_lt_of_cell? w _ hx116_0)).trans hx116_0; replace hx116_1 := (HB.out.cell (World.block_lt_of_cell? w _ hx116_1)).trans hx116_1; replace hx116_2 := (HB.out.cell (World.block_lt_of_cell? w _ hx116_2)).trans hx116_2; replace hx116_3 := (HB.out.cell (World.block_lt_of_cell? w _ hx116_3)).trans hx116_3; replace hx116_4 := (HB.out.cell (World.block_lt_of_cell? w _ hx116_4)).trans hx116_4; replace hx116_5 := (HB.out.cell (World.block_lt_of_cell? w _ hx116_5)).trans hx116_5; replace hx116_6 := (HB.out.cell (World.block_lt_of_cell? w _ hx116_6)).trans hx116_6; replace hx116_7 := (HB.out.cell (World.block_lt_of_cell? w _ hx116_7)).trans hx116_7; replace hx116_8 := (HB.out.cell (World.block_lt_of_cell? w _ hx116_8)).trans hx116_8; replace hx116_9 := (HB.out.cell (World.block_lt_of_cell? w _ hx116_9)).trans hx116_9; replace hx116_10 := (HB.out.cell (World.block_lt_of_cell? w _ hx116_10)).trans hx116_10; replace p116 := eq_true p116; replace q116 := eq_true q116; obtain ⟨Ao38, co38, eo38⟩ := Kd.R_slice HO115.out; subst eo38))
            go_ret
            exact ⟨by first | rfl | (simp [errW_none, errW_some] <;> rfl) | (simp [*, errW_none, errW_some] <;> rfl), by repeat (first | (with_reducible first | exact HB.out | apply below_alloc | apply pw_below_drewN | apply below_drew1) | exact HB.out)⟩
           ·rw [if_neg c35] at H
            have c35b0 : decide (0 < (t113.length : Int)) = false := decide_eq_false c35
            have c35b1 : decide (0 < t113.length) = false := decide_eq_false (by omega)
            clear c35
            by_cases c39 : (wrap64 ((wrap64 (x3_2 + 1)) + (t113.length : Int))) > (l0.length : Int)
            ·rw [if_pos c39] at H
             have c39b0 : decide ((l0.length : Int) < (wrap64 ((wrap64 (x3_2 + 1)) + (t113.length : Int)))) = true := decide_eq_true c39
             clear c39
             obtain rfl := Option.some.inj H
             have p109 : 0 ≤ (x3_2 : Int) := of_decide_eq_true (by first | (with_reducible assumption) | assumption)
             have q109 : x3_2 < (l0.length : Int) := of_decide_eq_true (by first | (with_reducible assumption) | assumption)
             obtain ⟨ad109, e109, hx109_0, hx109_1, hx109_2, hx109_3, hx109_4, hx109_5, hx109_6, hx109_7, hx109_8, hx109_9, hx109_10⟩ := at_T35 HR0.out x3_2 p109 q109
             cases e109
             replace hx109_0 := (HB.out.cell (World.block_lt_of_cell? w _ hx109_0)).trans hx109_0
             replace hx109_1 := (HB.out.cell (World.block_lt_of_cell? w _ hx109_1)).trans hx109_1
             replace hx109_2 := (HB.out.cell (World.block_lt_of_cell? w _ hx109_2)).trans hx109_2
             replace hx109_3 := (HB.out.cell (World.block_lt_of_cell? w _ hx109_3)).trans hx109_3
             replace hx109_4 := (HB.out.cell (World.block_lt_of_cell? w _ hx109_4)).trans hx109_4
             replace hx109_5 := (HB.out.cell (World.block_lt_of_cell? w _ hx109_5)).trans hx109_5
             replace hx109_6 := (HB.out.cell (World.block_lt_of_cell? w _ hx109_6)).trans hx109_6
             replace hx109_7 := (HB.out.cell (World.block_lt_of_cell? w _ hx109_7)).trans hx109_7
             replace hx109_8 := (HB.out.cell (World.block_lt_of_cell? w _ hx109_8)).trans hx109_8
             replace hx109_9 := (HB.out.cell (World.block_lt_of_cell? w _ hx109_9)).trans hx109_9
             replace hx109_10 := (HB.out.cell (World.block_lt_of_cell? w _ hx109_10)).trans hx109_10
             replace p109 := eq_true p109
             replace q109 := eq_true q109
             go_wp2_with (first | ((with_reducible refine gate_callee (f := 16) rfl ?_); refine goesL_ (some 29) rfl rfl Tryd.func16 (by kernel_rfl) rfl #[.slice (some ad109) l0.length c0, .string ((rd_T35 l0 x3_2).f0)] rfl (by (try simp only [List.map_toArray, List.map_cons, List.map_nil]); first | done | rfl | (simp only [List.length_drop, List.length_take]; rfl)) ?_; (with_reducible refine (flist_Find.calls k2 _ _ l0 ((rd_T35 l0 x3_2).f0) t110 true _ ?side1 ?side2 A12.out).mono ?_); (case side1 => repeat (first | exact (Kd.C_below HR0.out HB.out) | (with_reducible refine Kd.C_alloc ?_ _) | (with_reducible refine Kd.C_drewN ?_ _) | (with_reducible refine Kd.C_drew ?_))); (case side2 => exact HC0.out); rintro e w40 ⟨rfl, hb⟩; refine ⟨_, rfl, ?_⟩; have n0_ := Aside0.mk (below_step (by repeat (first | (with_reducible first | exact HB.out | apply below_alloc | apply pw_below_drewN | apply below_drew1) | exact HB.out)) hb); clear HB; have HB := n0_; clear n0_; (try clear hb); (try clear hb2); (try clear hk); (try clear hi); have p112 : 0 ≤ (x3_2 : Int) := of_decide_eq_true (by first | (with_reducible assumption) | assumption); have q112 : x3_2 < (l0.length : Int) := of_decide_eq_true (by first | (with_reducible assumption) | assumption); obtain ⟨ad112, e112, hx112_0, hx112_1, hx112_2, hx112_3, hx112_4, hx112_5, hx112_6, hx112_7, hx112_8, hx112_9, hx112_10⟩ := at_T35 HR0.out x3_2 p112 q112; obtain rfl : ad109 = ad112 := (by injection e112); replace hx112_0 := (HB.out.cell (World.block_lt_of_cell? w _ hx112_0)).trans hx112_0; replace hx112_1 := (HB.out.cell (World.block_lt_of_cell? w _ hx112_1)).trans hx112_1; replace hx112_2 := (HB.out.cell (World.block_lt_of_cell? w _ hx112_2)).trans hx112_2; replace hx112_3 := (HB.out.cell (World.block_lt_of_cell? w _ hx112_3)).trans hx112_3; replace hx112_4 := (HB.out.cell (World.block_lt_of_cell? w _ hx112_4)).trans hx112_4; replace hx112_5 := (HB.out.cell (World.block_lt_of_cell? w _ hx112_5)).trans hx112_5; replace hx112_6 := (HB.out.cell (World.block_lt_of_cell? w _ hx112_6)).trans hx112_6; replace hx112_7 := (HB.out.cell (World.block_lt_of_cell? w _ hx112_7)).trans hx112_7; replace hx112_8 := (HB.out.cell (World.block_lt_of_cell? w _ hx112_8)).trans hx112_8; replace hx112_9 := (HB.out.cell (World.block_lt_of_cell? w _ hx112_9)).trans hx112_9; replace hx112_10 := (HB.out.cell (World.block_lt_of_cell? w _ hx112_10)).trans hx112_10; replace p112 := eq_true p112; replace q112 := eq_true q112) | ((with_reducible refine gate_callee (f := 17) rfl ?_); refine goesL_ (some 38) rfl rfl Tryd.func17 (by kernel_rfl) rfl #[.slice (some ad109) l0.length c0, .string ((rd_T35 l0 x3_2).f0)] rfl (by (try simp only [List.map_toArray, List.map_cons, List.map_nil]); first | done | rfl | (simp only [List.length_drop, List.length_take]; rfl)) ?_; (with_reducible refine (flist_Below.calls _ _ l0 ((rd_T35 l0 x3_2).f0) t113 _ ?side1 ?side2 A13.out).mono ?_); (case side1 => repeat (first | exact (Kd.C_below HR0.out HB.out) | (with_reducible refine Kd.C_alloc ?_ _) | (with_reducible refine Kd.C_drewN ?_ _) | (with_reducible refine Kd.C_drew ?_))); (case side2 => exact HC0.out); rintro e w41 ⟨v114, rfl, ho0, hb⟩; refine ⟨_, rfl, ?_⟩; have n0_ := Aside0.mk (Kd.R_lower ho0 (below_size (by repeat (first | (with_reducible first | exact HB.out | apply below_alloc | apply pw_below_drewN | apply below_drew1) | exact HB.out)))); have n1_ := Aside0.mk (below_step (by repeat (first | (with_reducible first | exact HB.out | apply below_alloc | apply pw_below_drewN | apply below_drew1) | exact HB.out)) hb); clear HB; have HO115 := n0_; have HB := n1_; clear n0_ n1_; (try clear hb); (try clear hb2); (try clear hk); (try clear hi); (try clear ho0); have p116 : 0 ≤ (x3_2 : Int) := of_decide_eq_true (by first | (with_reducible assumption) | assumption); have q116 : x3_2 < (l0.length : Int) := of_decide_eq_true (by first | (with_reducible assumption) | assumption); obtain ⟨ad116, e116, hx116_0, hx116_1, hx116_2, hx116_3, hx116_4, hx116_5, hx116_6, hx116_7, hx116_8, hx116_9, hx116_10⟩ := at_T35 HR0.out x3_2 p116 q116; obtain rfl : ad109 = ad116 := (by injection e116); replace hx116_0 := (HB.out.cell (World.block_lt_of_cell? w _ hx116_0)).trans hx116_0; replace hx116_1 := (HB.out.cell (World.block_lt_of_cell? w _ hx116_1)).trans hx116_1; replace hx116_2 := (HB.out.cell (World.block_lt_of_cell? w _ hx116_2)).trans hx116_2; replace hx116_3 := (HB.out.cell (World.block_lt_of_cell? w _ hx116_3)).trans hx116_3; replace hx116_4 := (HB.out.cell (World.block_lt_of_cell? w _ hx116_4)).trans hx116_4; replace hx116_5 := (HB.out.cell (World.block_lt_of_cell? w _ hx116_5)).trans hx116_5; replace hx116_6 := (HB.out.cell (World.block_lt_of_cell? w _ hx116_6)).trans hx116_6; replace hx116_7 := (HB.out.cell (World.block_lt_of_cell? w _ hx116_7)).trans hx116_7; replace hx116_8 := (HB.out.cell (World.block_lt_of_cell? w _ hx116_8)).trans hx116_8; replace hx116_9 := (HB.out.cell (World.block_lt_of_cell? w _ hx116_9)).trans hx116_9; replace hx116_10 := (HB.out.cell (World.block_lt_of_cell? w _ hx116_10)).trans hx116_10; replace p116 := eq_true p116; replace q116 := eq_true q116; obtain ⟨Ao42, co42, eo42⟩ := Kd.R_slice HO115.out; subst eo42))
             go_ret
             exact ⟨by first | rfl | (simp [errW_none, errW_some] <;> rfl) | (simp [*, errW_none, errW_some] <;> rfl), by repeat (first | (with_reducible first | exact HB.out | apply below_alloc | apply pw_below_drewN | apply below_drew1) | exact HB.out)⟩
            ·rw [if_neg c39] at H
             have c39b0 : decide ((l0.length : Int) < (wrap64 ((wrap64 (x3_2 + 1)) + (t113.length : Int)))) = false := decide_eq_false c39
             clear c39
             obtain ⟨ji43, hji43⟩ : ∃ j_ : Int, (wrap64 (x3_2 + 1)) = j_ := ⟨_, rfl⟩
             replace H : (if 0 ≤ (ji43) then (if (ji43) ≤ (wrap64 ((ji43) + (t113.length : Int))) then (if (wrap64 ((ji43) + (t113.length : Int))) ≤ (l0.length : Int) then ((flist_Same.f k2 t113 ((l0.take ((wrap64 ((ji43) + (t113.length : Int))) : Int).toNat).drop ((ji43) : Int).toNat)).bind fun t126 => (if t126 = true then (remoralaw20_FlistPlaces.l0 k2 l0 ji43) else (some false))) else (none)) else (none)) else (none)) = some r := by first | (rw [hji43] at H; exact H) | (simp only [hji43] at H ⊢; exact H)
             (try rw [hji43] at c39b0)
             (try rw [hji43] at A12)
             (try rw [hji43] at A13)
             have hji43w : (IntKind.i64.wrap (x3_2 + 1)) = ji43 := (i64_w _).trans hji43
             by_cases c44 : 0 ≤ (ji43)
             ·rw [if_pos c44] at H
              have c44b0 := eq_true c44
              have c44b1 : decide (0 ≤ (ji43)) = true := decide_eq_true c44
              clear c44
              by_cases c45 : (ji43) ≤ (wrap64 ((ji43) + (t113.length : Int)))
              ·rw [if_pos c45] at H
               have c45b0 := eq_true c45
               have c45b1 : decide ((ji43) ≤ (wrap64 ((ji43) + (t113.length : Int)))) = true := decide_eq_true c45
               by_cases c46 : (wrap64 ((ji43) + (t113.length : Int))) ≤ (l0.length : Int)
               ·rw [if_pos c46] at H
                have c46b0 := eq_true c46
                have c46b1 : decide ((wrap64 ((ji43) + (t113.length : Int))) ≤ (l0.length : Int)) = true := decide_eq_true c46
                obtain ⟨y122, hy122⟩ : ∃ y_ : List (S35), y_ = ((l0.take ((wrap64 ((ji43) + (t113.length : Int))) : Int).toNat).drop ((ji43) : Int).toNat) := ⟨_, rfl⟩
                replace H : ((flist_Same.f k2 t113 y122).bind fun t126 => (if t126 = true then (remoralaw20_FlistPlaces.l0 k2 l0 ji43) else (some false))) = some r := by first | (rw [hy122]; with_reducible exact H) | (have H2_ := (Option.bind_some _ _).symm.trans H; rw [hy122]; with_reducible exact H2_) | (have H2_ := (Option.bind_some _ _).symm.trans H; with_reducible exact H2_) | with_reducible exact H | (rw [hy122]; exact H) | exact H
                have Ny122 := Aside0.mk hy122
                clear hy122
                replace H := Option.bind_eq_some_iff.mp H
                obtain ⟨t126, A470, H⟩ := H
                replace H : (if t126 = true then (remoralaw20_FlistPlaces.l0 k2 l0 ji43) else (some false)) = some r := H
                have A47 := Aside0.mk A470
                clear A470
                by_cases c48 : t126 = true
                ·subst c48
                 have H1 : (remoralaw20_FlistPlaces.l0 k2 l0 ji43) = some r := by rw [if_pos rfl] at H; exact H
                 clear H
                 have H := H1
                 clear H1
                 have H' := Aside0.mk H
                 clear H
                 have p109 : 0 ≤ (x3_2 : Int) := of_decide_eq_true (by first | (with_reducible assumption) | assumption)
                 have q109 : x3_2 < (l0.length : Int) := of_decide_eq_true (by first | (with_reducible assumption) | assumption)
                 obtain ⟨ad109, e109, hx109_0, hx109_1, hx109_2, hx109_3, hx109_4, hx109_5, hx109_6, hx109_7, hx109_8, hx109_9, hx109_10⟩ := at_T35 HR0.out x3_2 p109 q109
                 cases e109
                 replace hx109_0 := (HB.out.cell (World.block_lt_of_cell? w _ hx109_0)).trans hx109_0
                 replace hx109_1 := (HB.out.cell (World.block_lt_of_cell? w _ hx109_1)).trans hx109_1
                 replace hx109_2 := (HB.out.cell (World.block_lt_of_cell? w _ hx109_2)).trans hx109_2
                 replace hx109_3 := (HB.out.cell (World.block_lt_of_cell? w _ hx109_3)).trans hx109_3
                 replace hx109_4 := (HB.out.cell (World.block_lt_of_cell? w _ hx109_4)).trans hx109_4
                 replace hx109_5 := (HB.out.cell (World.block_lt_of_cell? w _ hx109_5)).trans hx109_5
                 replace hx109_6 := (HB.out.cell (World.block_lt_of_cell? w _ hx109_6)).trans hx109_6
                 replace hx109_7 := (HB.out.cell (World.block_lt_of_cell? w _ hx109_7)).trans hx109_7
                 replace hx109_8 := (HB.out.cell (World.block_lt_of_cell? w _ hx109_8)).trans hx109_8
                 replace hx109_9 := (HB.out.cell (World.block_lt_of_cell? w _ hx109_9)).trans hx109_9
                 replace hx109_10 := (HB.out.cell (World.block_lt_of_cell? w _ hx109_10)).trans hx109_10
                 replace p109 := eq_true p109
                 replace q109 := eq_true q109
                 go_wp2_with (first | ((with_reducible refine gate_callee (f := 16) rfl ?_); refine goesL_ (some 29) rfl rfl Tryd.func16 (by kernel_rfl) rfl #[.slice (some ad109) l0.length c0, .string ((rd_T35 l0 x3_2).f0)] rfl (by (try simp only [List.map_toArray, List.map_cons, List.map_nil]); first | done | rfl | (simp only [List.length_drop, List.length_take]; rfl)) ?_; (with_reducible refine (flist_Find.calls k2 _ _ l0 ((rd_T35 l0 x3_2).f0) t110 true _ ?side1 ?side2 A12.out).mono ?_); (case side1 => repeat (first | exact (Kd.C_below HR0.out HB.out) | (with_reducible refine Kd.C_alloc ?_ _) | (with_reducible refine Kd.C_drewN ?_ _) | (with_reducible refine Kd.C_drew ?_))); (case side2 => exact HC0.out); rintro e w49 ⟨rfl, hb⟩; refine ⟨_, rfl, ?_⟩; have n0_ := Aside0.mk (below_step (by repeat (first | (with_reducible first | exact HB.out | apply below_alloc | apply pw_below_drewN | apply below_drew1) | exact HB.out)) hb); clear HB; have HB := n0_; clear n0_; (try clear hb); (try clear hb2); (try clear hk); (try clear hi); have p112 : 0 ≤ (x3_2 : Int) := of_decide_eq_true (by first | (with_reducible assumption) | assumption); have q112 : x3_2 < (l0.length : Int) := of_decide_eq_true (by first | (with_reducible assumption) | assumption); obtain ⟨ad112, e112, hx112_0, hx112_1, hx112_2, hx112_3, hx112_4, hx112_5, hx112_6, hx112_7, hx112_8, hx112_9, hx112_10⟩ := at_T35 HR0.out x3_2 p112 q112; obtain rfl : ad109 = ad112 := (by injection e112); replace hx112_0 := (HB.out.cell (World.block_lt_of_cell? w _ hx112_0)).trans hx112_0; replace hx112_1 := (HB.out.cell (World.block_lt_of_cell? w _ hx112_1)).trans hx112_1; replace hx112_2 := (HB.out.cell (World.block_lt_of_cell? w _ hx112_2)).trans hx112_2; replace hx112_3 := (HB.out.cell (World.block_lt_of_cell? w _ hx112_3)).trans hx112_3; replace hx112_4 := (HB.out.cell (World.block_lt_of_cell? w _ hx112_4)).trans hx112_4; replace hx112_5 := (HB.out.cell (World.block_lt_of_cell? w _ hx112_5)).trans hx112_5; replace hx112_6 := (HB.out.cell (World.block_lt_of_cell? w _ hx112_6)).trans hx112_6; replace hx112_7 := (HB.out.cell (World.block_lt_of_cell? w _ hx112_7)).trans hx112_7; replace hx112_8 := (HB.out.cell (World.block_lt_of_cell? w _ hx112_8)).trans hx112_8; replace hx112_9 := (HB.out.cell (World.block_lt_of_cell? w _ hx112_9)).trans hx112_9; replace hx112_10 := (HB.out.cell (World.block_lt_of_cell? w _ hx112_10)).trans hx112_10; replace p112 := eq_true p112; replace q112 := eq_true q112) | ((with_reducible refine gate_callee (f := 17) rfl ?_); refine goesL_ (some 38) rfl rfl Tryd.func17 (by kernel_rfl) rfl #[.slice (some ad109) l0.length c0, .string ((rd_T35 l0 x3_2).f0)] rfl (by (try simp only [List.map_toArray, List.map_cons, List.map_nil]); first | done | rfl | (simp only [List.length_drop, List.length_take]; rfl)) ?_; (with_reducible refine (flist_Below.calls _ _ l0 ((rd_T35 l0 x3_2).f0) t113 _ ?side1 ?side2 A13.out).mono ?_); (case side1 => repeat (first | exact (Kd.C_below HR0.out HB.out) | (with_reducible refine Kd.C_alloc ?_ _) | (with_reducible refine Kd.C_drewN ?_ _) | (with_reducible refine Kd.C_drew ?_))); (case side2 => exact HC0.out); rintro e w50 ⟨v114, rfl, ho0, hb⟩; refine ⟨_, rfl, ?_⟩; have n0_ := Aside0.mk (Kd.R_lower ho0 (below_size (by repeat (first | (with_reducible first | exact HB.out | apply below_alloc | apply pw_below_drewN | apply below_drew1) | exact HB.out)))); have n1_ := Aside0.mk (below_step (by repeat (first | (with_reducible first | exact HB.out | apply below_alloc | apply pw_below_drewN | apply below_drew1) | exact HB.out)) hb); clear HB; have HO115 := n0_; have HB := n1_; clear n0_ n1_; (try clear hb); (try clear hb2); (try clear hk); (try clear hi); (try clear ho0); have p116 : 0 ≤ (x3_2 : Int) := of_decide_eq_true (by first | (with_reducible assumption) | assumption); have q116 : x3_2 < (l0.length : Int) := of_decide_eq_true (by first | (with_reducible assumption) | assumption); obtain ⟨ad116, e116, hx116_0, hx116_1, hx116_2, hx116_3, hx116_4, hx116_5, hx116_6, hx116_7, hx116_8, hx116_9, hx116_10⟩ := at_T35 HR0.out x3_2 p116 q116; obtain rfl : ad109 = ad116 := (by injection e116); replace hx116_0 := (HB.out.cell (World.block_lt_of_cell? w _ hx116_0)).trans hx116_0; replace hx116_1 := (HB.out.cell (World.block_lt_of_cell? w _ hx116_1)).trans hx116_1; replace hx116_2 := (HB.out.cell (World.block_lt_of_cell? w _ hx116_2)).trans hx116_2; replace hx116_3 := (HB.out.cell (World.block_lt_of_cell? w _ hx116_3)).trans hx116_3; replace hx116_4 := (HB.out.cell (World.block_lt_of_cell? w _ hx116_4)).trans hx116_4; replace hx116_5 := (HB.out.cell (World.block_lt_of_cell? w _ hx116_5)).trans hx116_5; replace hx116_6 := (HB.out.cell (World.block_lt_of_cell? w _ hx116_6)).trans hx116_6; replace hx116_7 := (HB.out.cell (World.block_lt_of_cell? w _ hx116_7)).trans hx116_7; replace hx116_8 := (HB.out.cell (World.block_lt_of_cell? w _ hx116_8)).trans hx116_8; replace hx116_9 := (HB.out.cell (World.block_lt_of_cell? w _ hx116_9)).trans hx116_9; replace hx116_10 := (HB.out.cell (World.block_lt_of_cell? w _ hx116_10)).trans hx116_10; replace p116 := eq_true p116; replace q116 := eq_true q116; obtain ⟨Ao51, co51, eo51⟩ := Kd.R_slice HO115.out; subst eo51; have q52 : ((wrap64 ((ji43) + (t113.length : Int))) : Int) ≤ ((l0.length : Int) : Int) := of_decide_eq_true (by first | (with_reducible assumption) | assumption); obtain ⟨i052, hi052, _, hsz52, _⟩ := info_parts info35; have hroom52 : l0.length ≤ c0 := HC0.out; have hC52 : Kd.C k35 _ (some ad109) l0.length l0 := HR0.out; have ql52 : ((ji43) : Int) ≤ ((wrap64 ((ji43) + (t113.length : Int))) : Int) := of_decide_eq_true (by first | (with_reducible assumption) | assumption); have q052 : (0 : Int) ≤ ((ji43) : Int) := of_decide_eq_true (by first | (with_reducible assumption) | assumption); have hcut52 := cut_mid (P := Tryd.prog) 22 35 .i64 .i64 Tryd.underlying22 hi052 11 hsz52 (some ad109) l0.length c0 (ji43) (wrap64 ((ji43) + (t113.length : Int))) q052 ql52 q52 hroom52; have hr52 := Kd.C_mid (lo := ((ji43) : Int).toNat) (hi := ((wrap64 ((ji43) + (t113.length : Int))) : Int).toNat) (c := c0) hC52 (by omega) (by omega) hroom52; obtain ⟨A52, hA52⟩ : ∃ A1, A1 = (if c0 = ((ji43) : Int).toNat then (some ad109) else ((some ad109) : Option Addr).map (·.add (((ji43) : Int).toNat * 11))) := ⟨_, rfl⟩; obtain ⟨c52, hc52⟩ : ∃ c1, c1 = c0 - ((ji43) : Int).toNat := ⟨_, rfl⟩; have hy52 : y122.length = ((wrap64 ((ji43) + (t113.length : Int))) : Int).toNat - ((ji43) : Int).toNat := (by rw [Ny122.out, List.length_drop, List.length_take] <;> omega); rw [show ((l0).take ((wrap64 ((ji43) + (t113.length : Int))) : Int).toNat).drop ((ji43) : Int).toNat = y122 from Ny122.out.symm] at hr52; replace hr52 : Kd.C k35 _ A52 y122.length y122 := (by rw [hA52]; exact hr52); rw [← hy52, ← hA52, ← hc52] at hcut52; have HR125 := Aside0.mk hr52; have HC125 := Aside0.mk (show y122.length ≤ c52 from by rw [hy52, hc52]; exact Nat.sub_le_sub_right (Nat.le_trans (by omega) hroom52) _); clear hr52 hC52 hroom52 hi052 hsz52 hc52; have KY52 := Aside0.mk hy52; have KA52 := Aside0.mk hA52; clear hy52 hA52; replace q52 := eq_true q52) | (go_at_call 18; (with_reducible refine (flist_Same.calls k2 _ _ t113 _ _ y122 true _ ?side1 ?side2 ?side3 ?side4 A47.out).mono ?_); (case side1 => repeat (first | exact (Kd.R_reads' HO115.out).2.2 | (with_reducible refine Kd.C_alloc ?_ _) | (with_reducible refine Kd.C_drewN ?_ _) | (with_reducible refine Kd.C_drew ?_))); (case side2 => exact (Kd.R_reads' HO115.out).2.1); (case side3 => repeat (first | exact (Kd.C_below HR125.out HB.out) | (with_reducible refine Kd.C_alloc ?_ _) | (with_reducible refine Kd.C_drewN ?_ _) | (with_reducible refine Kd.C_drew ?_))); (case side4 => exact HC125.out); rintro e w' ⟨rfl, ⟨nd, rfl⟩⟩))
                 go_roundg k2
                 case measure => have := HJ1.out; have := HK2.out; omega
                 case rel => exact ⟨(ji43), (by first | rfl | (simp; done) | (simp only [← hji43] <;> (first | rfl | simp)) | (simp [*]; done)), H', ⟨by have := HJ1.out; have := HK2.out; omega⟩, ⟨by repeat (first | (with_reducible first | exact HB.out | apply below_alloc | apply pw_below_drewN | apply below_drew1) | exact HB.out)⟩⟩
                ·replace c48 := Bool.eq_false_iff.mpr c48
                 subst c48
                 have H1 : (some false) = some r := by rw [if_neg (show ¬ (false = true) by decide)] at H; exact H
                 clear H
                 have H := H1
                 clear H1
                 obtain rfl := Option.some.inj H
                 have p109 : 0 ≤ (x3_2 : Int) := of_decide_eq_true (by first | (with_reducible assumption) | assumption)
                 have q109 : x3_2 < (l0.length : Int) := of_decide_eq_true (by first | (with_reducible assumption) | assumption)
                 obtain ⟨ad109, e109, hx109_0, hx109_1, hx109_2, hx109_3, hx109_4, hx109_5, hx109_6, hx109_7, hx109_8, hx109_9, hx109_10⟩ := at_T35 HR0.out x3_2 p109 q109
                 cases e109
                 replace hx109_0 := (HB.out.cell (World.block_lt_of_cell? w _ hx109_0)).trans hx109_0
                 replace hx109_1 := (HB.out.cell (World.block_lt_of_cell? w _ hx109_1)).trans hx109_1
                 replace hx109_2 := (HB.out.cell (World.block_lt_of_cell? w _ hx109_2)).trans hx109_2
                 replace hx109_3 := (HB.out.cell (World.block_lt_of_cell? w _ hx109_3)).trans hx109_3
                 replace hx109_4 := (HB.out.cell (World.block_lt_of_cell? w _ hx109_4)).trans hx109_4
                 replace hx109_5 := (HB.out.cell (World.block_lt_of_cell? w _ hx109_5)).trans hx109_5
                 replace hx109_6 := (HB.out.cell (World.block_lt_of_cell? w _ hx109_6)).trans hx109_6
                 replace hx109_7 := (HB.out.cell (World.block_lt_of_cell? w _ hx109_7)).trans hx109_7
                 replace hx109_8 := (HB.out.cell (World.block_lt_of_cell? w _ hx109_8)).trans hx109_8
                 replace hx109_9 := (HB.out.cell (World.block_lt_of_cell? w _ hx109_9)).trans hx109_9
                 replace hx109_10 := (HB.out.cell (World.block_lt_of_cell? w _ hx109_10)).trans hx109_10
                 replace p109 := eq_true p109
                 replace q109 := eq_true q109
                 go_wp2_with (first | ((with_reducible refine gate_callee (f := 16) rfl ?_); refine goesL_ (some 29) rfl rfl Tryd.func16 (by kernel_rfl) rfl #[.slice (some ad109) l0.length c0, .string ((rd_T35 l0 x3_2).f0)] rfl (by (try simp only [List.map_toArray, List.map_cons, List.map_nil]); first | done | rfl | (simp only [List.length_drop, List.length_take]; rfl)) ?_; (with_reducible refine (flist_Find.calls k2 _ _ l0 ((rd_T35 l0 x3_2).f0) t110 true _ ?side1 ?side2 A12.out).mono ?_); (case side1 => repeat (first | exact (Kd.C_below HR0.out HB.out) | (with_reducible refine Kd.C_alloc ?_ _) | (with_reducible refine Kd.C_drewN ?_ _) | (with_reducible refine Kd.C_drew ?_))); (case side2 => exact HC0.out); rintro e w53 ⟨rfl, hb⟩; refine ⟨_, rfl, ?_⟩; have n0_ := Aside0.mk (below_step (by repeat (first | (with_reducible first | exact HB.out | apply below_alloc | apply pw_below_drewN | apply below_drew1) | exact HB.out)) hb); clear HB; have HB := n0_; clear n0_; (try clear hb); (try clear hb2); (try clear hk); (try clear hi); have p112 : 0 ≤ (x3_2 : Int) := of_decide_eq_true (by first | (with_reducible assumption) | assumption); have q112 : x3_2 < (l0.length : Int) := of_decide_eq_true (by first | (with_reducible assumption) | assumption); obtain ⟨ad112, e112, hx112_0, hx112_1, hx112_2, hx112_3, hx112_4, hx112_5, hx112_6, hx112_7, hx112_8, hx112_9, hx112_10⟩ := at_T35 HR0.out x3_2 p112 q112; obtain rfl : ad109 = ad112 := (by injection e112); replace hx112_0 := (HB.out.cell (World.block_lt_of_cell? w _ hx112_0)).trans hx112_0; replace hx112_1 := (HB.out.cell (World.block_lt_of_cell? w _ hx112_1)).trans hx112_1; replace hx112_2 := (HB.out.cell (World.block_lt_of_cell? w _ hx112_2)).trans hx112_2; replace hx112_3 := (HB.out.cell (World.block_lt_of_cell? w _ hx112_3)).trans hx112_3; replace hx112_4 := (HB.out.cell (World.block_lt_of_cell? w _ hx112_4)).trans hx112_4; replace hx112_5 := (HB.out.cell (World.block_lt_of_cell? w _ hx112_5)).trans hx112_5; replace hx112_6 := (HB.out.cell (World.block_lt_of_cell? w _ hx112_6)).trans hx112_6; replace hx112_7 := (HB.out.cell (World.block_lt_of_cell? w _ hx112_7)).trans hx112_7; replace hx112_8 := (HB.out.cell (World.block_lt_of_cell? w _ hx112_8)).trans hx112_8; replace hx112_9 := (HB.out.cell (World.block_lt_of_cell? w _ hx112_9)).trans hx112_9; replace hx112_10 := (HB.out.cell (World.block_lt_of_cell? w _ hx112_10)).trans hx112_10; replace p112 := eq_true p112; replace q112 := eq_true q112) | ((with_reducible refine gate_callee (f := 17) rfl ?_); refine goesL_ (some 38) rfl rfl Tryd.func17 (by kernel_rfl) rfl #[.slice (some ad109) l0.length c0, .string ((rd_T35 l0 x3_2).f0)] rfl (by (try simp only [List.map_toArray, List.map_cons, List.map_nil]); first | done | rfl | (simp only [List.length_drop, List.length_take]; rfl)) ?_; (with_reducible refine (flist_Below.calls _ _ l0 ((rd_T35 l0 x3_2).f0) t113 _ ?side1 ?side2 A13.out).mono ?_); (case side1 => repeat (first | exact (Kd.C_below HR0.out HB.out) | (with_reducible refine Kd.C_alloc ?_ _) | (with_reducible refine Kd.C_drewN ?_ _) | (with_reducible refine Kd.C_drew ?_))); (case side2 => exact HC0.out); rintro e w54 ⟨v114, rfl, ho0, hb⟩; refine ⟨_, rfl, ?_⟩; have n0_ := Aside0.mk (Kd.R_lower ho0 (below_size (by repeat (first | (with_reducible first | exact HB.out | apply below_alloc | apply pw_below_drewN | apply below_drew1) | exact HB.out)))); have n1_ := Aside0.mk (below_step (by repeat (first | (with_reducible first | exact HB.out | apply below_alloc | apply pw_below_drewN | apply below_drew1) | exact HB.out)) hb); clear HB; have HO115 := n0_; have HB := n1_; clear n0_ n1_; (try clear hb); (try clear hb2); (try clear hk); (try clear hi); (try clear ho0); have p116 : 0 ≤ (x3_2 : Int) := of_decide_eq_true (by first | (with_reducible assumption) | assumption); have q116 : x3_2 < (l0.length : Int) := of_decide_eq_true (by first | (with_reducible assumption) | assumption); obtain ⟨ad116, e116, hx116_0, hx116_1, hx116_2, hx116_3, hx116_4, hx116_5, hx116_6, hx116_7, hx116_8, hx116_9, hx116_10⟩ := at_T35 HR0.out x3_2 p116 q116; obtain rfl : ad109 = ad116 := (by injection e116); replace hx116_0 := (HB.out.cell (World.block_lt_of_cell? w _ hx116_0)).trans hx116_0; replace hx116_1 := (HB.out.cell (World.block_lt_of_cell? w _ hx116_1)).trans hx116_1; replace hx116_2 := (HB.out.cell (World.block_lt_of_cell? w _ hx116_2)).trans hx116_2; replace hx116_3 := (HB.out.cell (World.block_lt_of_cell? w _ hx116_3)).trans hx116_3; replace hx116_4 := (HB.out.cell (World.block_lt_of_cell? w _ hx116_4)).trans hx116_4; replace hx116_5 := (HB.out.cell (World.block_lt_of_cell? w _ hx116_5)).trans hx116_5; replace hx116_6 := (HB.out.cell (World.block_lt_of_cell? w _ hx116_6)).trans hx116_6; replace hx116_7 := (HB.out.cell (World.block_lt_of_cell? w _ hx116_7)).trans hx116_7; replace hx116_8 := (HB.out.cell (World.block_lt_of_cell? w _ hx116_8)).trans hx116_8; replace hx116_9 := (HB.out.cell (World.block_lt_of_cell? w _ hx116_9)).trans hx116_9; replace hx116_10 := (HB.out.cell (World.block_lt_of_cell? w _ hx116_10)).trans hx116_10; replace p116 := eq_true p116; replace q116 := eq_true q116; obtain ⟨Ao55, co55, eo55⟩ := Kd.R_slice HO115.out; subst eo55; have q56 : ((wrap64 ((ji43) + (t113.length : Int))) : Int) ≤ ((l0.length : Int) : Int) := of_decide_eq_true (by first | (with_reducible assumption) | assumption); obtain ⟨i056, hi056, _, hsz56, _⟩ := info_parts info35; have hroom56 : l0.length ≤ c0 := HC0.out; have hC56 : Kd.C k35 _ (some ad109) l0.length l0 := HR0.out; have ql56 : ((ji43) : Int) ≤ ((wrap64 ((ji43) + (t113.length : Int))) : Int) := of_decide_eq_true (by first | (with_reducible assumption) | assumption); have q056 : (0 : Int) ≤ ((ji43) : Int) := of_decide_eq_true (by first | (with_reducible assumption) | assumption); have hcut56 := cut_mid (P := Tryd.prog) 22 35 .i64 .i64 Tryd.underlying22 hi056 11 hsz56 (some ad109) l0.length c0 (ji43) (wrap64 ((ji43) + (t113.length : Int))) q056 ql56 q56 hroom56; have hr56 := Kd.C_mid (lo := ((ji43) : Int).toNat) (hi := ((wrap64 ((ji43) + (t113.length : Int))) : Int).toNat) (c := c0) hC56 (by omega) (by omega) hroom56; obtain ⟨A56, hA56⟩ : ∃ A1, A1 = (if c0 = ((ji43) : Int).toNat then (some ad109) else ((some ad109) : Option Addr).map (·.add (((ji43) : Int).toNat * 11))) := ⟨_, rfl⟩; obtain ⟨c56, hc56⟩ : ∃ c1, c1 = c0 - ((ji43) : Int).toNat := ⟨_, rfl⟩; have hy56 : y122.length = ((wrap64 ((ji43) + (t113.length : Int))) : Int).toNat - ((ji43) : Int).toNat := (by rw [Ny122.out, List.length_drop, List.length_take] <;> omega); rw [show ((l0).take ((wrap64 ((ji43) + (t113.length : Int))) : Int).toNat).drop ((ji43) : Int).toNat = y122 from Ny122.out.symm] at hr56; replace hr56 : Kd.C k35 _ A56 y122.length y122 := (by rw [hA56]; exact hr56); rw [← hy56, ← hA56, ← hc56] at hcut56; have HR125 := Aside0.mk hr56; have HC125 := Aside0.mk (show y122.length ≤ c56 from by rw [hy56, hc56]; exact Nat.sub_le_sub_right (Nat.le_trans (by omega) hroom56) _); clear hr56 hC56 hroom56 hi056 hsz56 hc56; have KY56 := Aside0.mk hy56; have KA56 := Aside0.mk hA56; clear hy56 hA56; replace q56 := eq_true q56) | (go_at_call 18; (with_reducible refine (flist_Same.calls k2 _ _ t113 _ _ y122 false _ ?side1 ?side2 ?side3 ?side4 A47.out).mono ?_); (case side1 => repeat (first | exact (Kd.R_reads' HO115.out).2.2 | (with_reducible refine Kd.C_alloc ?_ _) | (with_reducible refine Kd.C_drewN ?_ _) | (with_reducible refine Kd.C_drew ?_))); (case side2 => exact (Kd.R_reads' HO115.out).2.1); (case side3 => repeat (first | exact (Kd.C_below HR125.out HB.out) | (with_reducible refine Kd.C_alloc ?_ _) | (with_reducible refine Kd.C_drewN ?_ _) | (with_reducible refine Kd.C_drew ?_))); (case side4 => exact HC125.out); rintro e w' ⟨rfl, ⟨nd, rfl⟩⟩))
                 go_ret
                 exact ⟨by first | rfl | (simp [errW_none, errW_some] <;> rfl) | (simp only [← hji43]; first | rfl | (simp [errW_none, errW_some] <;> rfl)) | (simp [*, errW_none, errW_some] <;> rfl), by repeat (first | (with_reducible first | exact HB.out | apply below_alloc | apply pw_below_drewN | apply below_drew1) | exact HB.out)⟩
               ·rw [if_neg c46] at H
                exact absurd H (by simp)
              ·rw [if_neg c45] at H
               exact absurd H (by simp)
             ·rw [if_neg c44] at H
              exact absurd H (by simp)
         ·rw [if_neg c15] at H
          have c15b0 : (t110 == x3_2) = false := beq_eq_false_iff_ne.mpr c15
          have c15b1 : (t110 != x3_2) = true := bne_iff_ne.mpr c15
          obtain rfl := Option.some.inj H
          have p109 : 0 ≤ (x3_2 : Int) := of_decide_eq_true (by first | (with_reducible assumption) | assumption)
          have q109 : x3_2 < (l0.length : Int) := of_decide_eq_true (by first | (with_reducible assumption) | assumption)
          obtain ⟨ad109, e109, hx109_0, hx109_1, hx109_2, hx109_3, hx109_4, hx109_5, hx109_6, hx109_7, hx109_8, hx109_9, hx109_10⟩ := at_T35 HR0.out x3_2 p109 q109
          cases e109
          replace hx109_0 := (HB.out.cell (World.block_lt_of_cell? w _ hx109_0)).trans hx109_0
          replace hx109_1 := (HB.out.cell (World.block_lt_of_cell? w _ hx109_1)).trans hx109_1
          replace hx109_2 := (HB.out.cell (World.block_lt_of_cell? w _ hx109_2)).trans hx109_2
          replace hx109_3 := (HB.out.cell (World.block_lt_of_cell? w _ hx109_3)).trans hx109_3
          replace hx109_4 := (HB.out.cell (World.block_lt_of_cell? w _ hx109_4)).trans hx109_4
          replace hx109_5 := (HB.out.cell (World.block_lt_of_cell? w _ hx109_5)).trans hx109_5
          replace hx109_6 := (HB.out.cell (World.block_lt_of_cell? w _ hx109_6)).trans hx109_6
          replace hx109_7 := (HB.out.cell (World.block_lt_of_cell? w _ hx109_7)).trans hx109_7
          replace hx109_8 := (HB.out.cell (World.block_lt_of_cell? w _ hx109_8)).trans hx109_8
          replace hx109_9 := (HB.out.cell (World.block_lt_of_cell? w _ hx109_9)).trans hx109_9
          replace hx109_10 := (HB.out.cell (World.block_lt_of_cell? w _ hx109_10)).trans hx109_10
          replace p109 := eq_true p109
          replace q109 := eq_true q109
          go_wp2_with (first | ((with_reducible refine gate_callee (f := 16) rfl ?_); refine goesL_ (some 29) rfl rfl Tryd.func16 (by kernel_rfl) rfl #[.slice (some ad109) l0.length c0, .string ((rd_T35 l0 x3_2).f0)] rfl (by (try simp only [List.map_toArray, List.map_cons, List.map_nil]); first | done | rfl | (simp only [List.length_drop, List.length_take]; rfl)) ?_; (with_reducible refine (flist_Find.calls k2 _ _ l0 ((rd_T35 l0 x3_2).f0) t110 true _ ?side1 ?side2 A12.out).mono ?_); (case side1 => repeat (first | exact (Kd.C_below HR0.out HB.out) | (with_reducible refine Kd.C_alloc ?_ _) | (with_reducible refine Kd.C_drewN ?_ _) | (with_reducible refine Kd.C_drew ?_))); (case side2 => exact HC0.out); rintro e w57 ⟨rfl, hb⟩; refine ⟨_, rfl, ?_⟩; have n0_ := Aside0.mk (below_step (by repeat (first | (with_reducible first | exact HB.out | apply below_alloc | apply pw_below_drewN | apply below_drew1) | exact HB.out)) hb); clear HB; have HB := n0_; clear n0_; (try clear hb); (try clear hb2); (try clear hk); (try clear hi); have p112 : 0 ≤ (x3_2 : Int) := of_decide_eq_true (by first | (with_reducible assumption) | assumption); have q112 : x3_2 < (l0.length : Int) := of_decide_eq_true (by first | (with_reducible assumption) | assumption); obtain ⟨ad112, e112, hx112_0, hx112_1, hx112_2, hx112_3, hx112_4, hx112_5, hx112_6, hx112_7, hx112_8, hx112_9, hx112_10⟩ := at_T35 HR0.out x3_2 p112 q112; obtain rfl : ad109 = ad112 := (by injection e112); replace hx112_0 := (HB.out.cell (World.block_lt_of_cell? w _ hx112_0)).trans hx112_0; replace hx112_1 := (HB.out.cell (World.block_lt_of_cell? w _ hx112_1)).trans hx112_1; replace hx112_2 := (HB.out.cell (World.block_lt_of_cell? w _ hx112_2)).trans hx112_2; replace hx112_3 := (HB.out.cell (World.block_lt_of_cell? w _ hx112_3)).trans hx112_3; replace hx112_4 := (HB.out.cell (World.block_lt_of_cell? w _ hx112_4)).trans hx112_4; replace hx112_5 := (HB.out.cell (World.block_lt_of_cell? w _ hx112_5)).trans hx112_5; replace hx112_6 := (HB.out.cell (World.block_lt_of_cell? w _ hx112_6)).trans hx112_6; replace hx112_7 := (HB.out.cell (World.block_lt_of_cell? w _ hx112_7)).trans hx112_7; replace hx112_8 := (HB.out.cell (World.block_lt_of_cell? w _ hx112_8)).trans hx112_8; replace hx112_9 := (HB.out.cell (World.block_lt_of_cell? w _ hx112_9)).trans hx112_9; replace hx112_10 := (HB.out.cell (World.block_lt_of_cell? w _ hx112_10)).trans hx112_10; replace p112 := eq_true p112; replace q112 := eq_true q112) | ((with_reducible refine gate_callee (f := 17) rfl ?_); refine goesL_ (some 38) rfl rfl Tryd.func17 (by kernel_rfl) rfl #[.slice (some ad109) l0.length c0, .string ((rd_T35 l0 x3_2).f0)] rfl (by (try simp only [List.map_toArray, List.map_cons, List.map_nil]); first | done | rfl | (simp only [List.length_drop, List.length_take]; rfl)) ?_; (with_reducible refine (flist_Below.calls _ _ l0 ((rd_T35 l0 x3_2).f0) t113 _ ?side1 ?side2 A13.out).mono ?_); (case side1 => repeat (first | exact (Kd.C_below HR0.out HB.out) | (with_reducible refine Kd.C_alloc ?_ _) | (with_reducible refine Kd.C_drewN ?_ _) | (with_reducible refine Kd.C_drew ?_))); (case side2 => exact HC0.out); rintro e w58 ⟨v114, rfl, ho0, hb⟩; refine ⟨_, rfl, ?_⟩; have n0_ := Aside0.mk (Kd.R_lower ho0 (below_size (by repeat (first | (with_reducible first | exact HB.out | apply below_alloc | apply pw_below_drewN | apply below_drew1) | exact HB.out)))); have n1_ := Aside0.mk (below_step (by repeat (first | (with_reducible first | exact HB.out | apply below_alloc | apply pw_below_drewN | apply below_drew1) | exact HB.out)) hb); clear HB; have HO115 := n0_; have HB := n1_; clear n0_ n1_; (try clear hb); (try clear hb2); (try clear hk); (try clear hi); (try clear ho0)))
          go_ret
          exact ⟨by first | rfl | (simp [errW_none, errW_some] <;> rfl) | (simp [*, errW_none, errW_some] <;> rfl), by repeat (first | (with_reducible first | exact HB.out | apply below_alloc | apply pw_below_drewN | apply below_drew1) | exact HB.out)⟩
        ·replace c14 := Bool.eq_false_iff.mpr c14
         subst c14
         have H1 : (some false) = some r := by rw [if_neg (show ¬ (false = true) by decide)] at H; exact H
         clear H
         have H := H1
         clear H1
         obtain rfl := Option.some.inj H
         have p109 : 0 ≤ (x3_2 : Int) := of_decide_eq_true (by first | (with_reducible assumption) | assumption)
         have q109 : x3_2 < (l0.length : Int) := of_decide_eq_true (by first | (with_reducible assumption) | assumption)
         obtain ⟨ad109, e109, hx109_0, hx109_1, hx109_2, hx109_3, hx109_4, hx109_5, hx109_6, hx109_7, hx109_8, hx109_9, hx109_10⟩ := at_T35 HR0.out x3_2 p109 q109
         cases e109
         replace hx109_0 := (HB.out.cell (World.block_lt_of_cell? w _ hx109_0)).trans hx109_0
         replace hx109_1 := (HB.out.cell (World.block_lt_of_cell? w _ hx109_1)).trans hx109_1
         replace hx109_2 := (HB.out.cell (World.block_lt_of_cell? w _ hx109_2)).trans hx109_2
         replace hx109_3 := (HB.out.cell (World.block_lt_of_cell? w _ hx109_3)).trans hx109_3
         replace hx109_4 := (HB.out.cell (World.block_lt_of_cell? w _ hx109_4)).trans hx109_4
         replace hx109_5 := (HB.out.cell (World.block_lt_of_cell? w _ hx109_5)).trans hx109_5
         replace hx109_6 := (HB.out.cell (World.block_lt_of_cell? w _ hx109_6)).trans hx109_6
         replace hx109_7 := (HB.out.cell (World.block_lt_of_cell? w _ hx109_7)).trans hx109_7
         replace hx109_8 := (HB.out.cell (World.block_lt_of_cell? w _ hx109_8)).trans hx109_8
         replace hx109_9 := (HB.out.cell (World.block_lt_of_cell? w _ hx109_9)).trans hx109_9
         replace hx109_10 := (HB.out.cell (World.block_lt_of_cell? w _ hx109_10)).trans hx109_10
         replace p109 := eq_true p109
         replace q109 := eq_true q109
         go_wp2_with (first | ((with_reducible refine gate_callee (f := 16) rfl ?_); refine goesL_ (some 29) rfl rfl Tryd.func16 (by kernel_rfl) rfl #[.slice (some ad109) l0.length c0, .string ((rd_T35 l0 x3_2).f0)] rfl (by (try simp only [List.map_toArray, List.map_cons, List.map_nil]); first | done | rfl | (simp only [List.length_drop, List.length_take]; rfl)) ?_; (with_reducible refine (flist_Find.calls k2 _ _ l0 ((rd_T35 l0 x3_2).f0) t110 false _ ?side1 ?side2 A12.out).mono ?_); (case side1 => repeat (first | exact (Kd.C_below HR0.out HB.out) | (with_reducible refine Kd.C_alloc ?_ _) | (with_reducible refine Kd.C_drewN ?_ _) | (with_reducible refine Kd.C_drew ?_))); (case side2 => exact HC0.out); rintro e w59 ⟨rfl, hb⟩; refine ⟨_, rfl, ?_⟩; have n0_ := Aside0.mk (below_step (by repeat (first | (with_reducible first | exact HB.out | apply below_alloc | apply pw_below_drewN | apply below_drew1) | exact HB.out)) hb); clear HB; have HB := n0_; clear n0_; (try clear hb); (try clear hb2); (try clear hk); (try clear hi); have p112 : 0 ≤ (x3_2 : Int) := of_decide_eq_true (by first | (with_reducible assumption) | assumption); have q112 : x3_2 < (l0.length : Int) := of_decide_eq_true (by first | (with_reducible assumption) | assumption); obtain ⟨ad112, e112, hx112_0, hx112_1, hx112_2, hx112_3, hx112_4, hx112_5, hx112_6, hx112_7, hx112_8, hx112_9, hx112_10⟩ := at_T35 HR0.out x3_2 p112 q112; obtain rfl : ad109 = ad112 := (by injection e112); replace hx112_0 := (HB.out.cell (World.block_lt_of_cell? w _ hx112_0)).trans hx112_0; replace hx112_1 := (HB.out.cell (World.block_lt_of_cell? w _ hx112_1)).trans hx112_1; replace hx112_2 := (HB.out.cell (World.block_lt_of_cell? w _ hx112_2)).trans hx112_2; replace hx112_3 := (HB.out.cell (World.block_lt_of_cell? w _ hx112_3)).trans hx112_3; replace hx112_4 := (HB.out.cell (World.block_lt_of_cell? w _ hx112_4)).trans hx112_4; replace hx112_5 := (HB.out.cell (World.block_lt_of_cell? w _ hx112_5)).trans hx112_5; replace hx112_6 := (HB.out.cell (World.block_lt_of_cell? w _ hx112_6)).trans hx112_6; replace hx112_7 := (HB.out.cell (World.block_lt_of_cell? w _ hx112_7)).trans hx112_7; replace hx112_8 := (HB.out.cell (World.block_lt_of_cell? w _ hx112_8)).trans hx112_8; replace hx112_9 := (HB.out.cell (World.block_lt_of_cell? w _ hx112_9)).trans hx112_9; replace hx112_10 := (HB.out.cell (World.block_lt_of_cell? w _ hx112_10)).trans hx112_10; replace p112 := eq_true p112; replace q112 := eq_true q112) | ((with_reducible refine gate_callee (f := 17) rfl ?_); refine goesL_ (some 38) rfl rfl Tryd.func17 (by kernel_rfl) rfl #[.slice (some ad109) l0.length c0, .string ((rd_T35 l0 x3_2).f0)] rfl (by (try simp only [List.map_toArray, List.map_cons, List.map_nil]); first | done | rfl | (simp only [List.length_drop, List.length_take]; rfl)) ?_; (with_reducible refine (flist_Below.calls _ _ l0 ((rd_T35 l0 x3_2).f0) t113 _ ?side1 ?side2 A13.out).mono ?_); (case side1 => repeat (first | exact (Kd.C_below HR0.out HB.out) | (with_reducible refine Kd.C_alloc ?_ _) | (with_reducible refine Kd.C_drewN ?_ _) | (with_reducible refine Kd.C_drew ?_))); (case side2 => exact HC0.out); rintro e w60 ⟨v114, rfl, ho0, hb⟩; refine ⟨_, rfl, ?_⟩; have n0_ := Aside0.mk (Kd.R_lower ho0 (below_size (by repeat (first | (with_reducible first | exact HB.out | apply below_alloc | apply pw_below_drewN | apply below_drew1) | exact HB.out)))); have n1_ := Aside0.mk (below_step (by repeat (first | (with_reducible first | exact HB.out | apply below_alloc | apply pw_below_drewN | apply below_drew1) | exact HB.out)) hb); clear HB; have HO115 := n0_; have HB := n1_; clear n0_ n1_; (try clear hb); (try clear hb2); (try clear hk); (try clear hi); (try clear ho0)))
         go_ret
         exact ⟨by first | rfl | (simp [errW_none, errW_some] <;> rfl) | (simp [*, errW_none, errW_some] <;> rfl), by repeat (first | (with_reducible first | exact HB.out | apply below_alloc | apply pw_below_drewN | apply below_drew1) | exact HB.out)⟩
       ·rw [if_neg c11] at H
        exact absurd H (by simp)
      ·rw [if_neg c10] at H
       have c10b0 : decide (x3_2 < (l0.length : Int)) = false := decide_eq_false c10
       clear c10
       replace H := Option.bind_eq_some_iff.mp H
       obtain ⟨t104, A610, H⟩ := H
       replace H : ((flist_Same.f k2 t104 l0).bind fun t107 => (if t107 = true then ((remoralaw20_awake.f k2).bind fun t108 => (some t108)) else (some false))) = some r := H
       have A61 := Aside0.mk A610
       clear A610
       replace H := Option.bind_eq_some_iff.mp H
       obtain ⟨t107, A620, H⟩ := H
       replace H : (if t107 = true then ((remoralaw20_awake.f k2).bind fun t108 => (some t108)) else (some false)) = some r := H
       have A62 := Aside0.mk A620
       clear A620
       by_cases c63 : t107 = true
       ·subst c63
        have H1 : ((remoralaw20_awake.f k2).bind fun t108 => (some t108)) = some r := by rw [if_pos rfl] at H; exact H
        clear H
        have H := H1
        clear H1
        replace H := Option.bind_eq_some_iff.mp H
        obtain ⟨t108, A640, H⟩ := H
        replace H : (some t108) = some r := H
        have A64 := Aside0.mk A640
        clear A640
        obtain rfl := Option.some.inj H
        go_wp2_with (first | ((with_reducible refine gate_callee (f := 17) rfl ?_); refine goesL_ (some 84) rfl rfl Tryd.func17 (by kernel_rfl) rfl #[.slice A0 l0.length c0, .string (⟨#[]⟩ : ByteArray)] rfl (by (try simp only [List.map_toArray, List.map_cons, List.map_nil]); first | done | rfl | (simp only [List.length_drop, List.length_take]; rfl)) ?_; (with_reducible refine (flist_Below.calls _ _ l0 (⟨#[]⟩ : ByteArray) t104 _ ?side1 ?side2 A61.out).mono ?_); (case side1 => repeat (first | exact (Kd.C_below HR0.out HB.out) | (with_reducible refine Kd.C_alloc ?_ _) | (with_reducible refine Kd.C_drewN ?_ _) | (with_reducible refine Kd.C_drew ?_))); (case side2 => exact HC0.out); rintro e w65 ⟨v105, rfl, ho0, hb⟩; refine ⟨_, rfl, ?_⟩; have n0_ := Aside0.mk (Kd.R_lower ho0 (below_size (by repeat (first | (with_reducible first | exact HB.out | apply below_alloc | apply pw_below_drewN | apply below_drew1) | exact HB.out)))); have n1_ := Aside0.mk (below_step (by repeat (first | (with_reducible first | exact HB.out | apply below_alloc | apply pw_below_drewN | apply below_drew1) | exact HB.out)) hb); clear HB; have HO106 := n0_; have HB := n1_; clear n0_ n1_; (try clear hb); (try clear hb2); (try clear hk); (try clear hi); (try clear ho0); obtain ⟨Ao66, co66, eo66⟩ := Kd.R_slice HO106.out; subst eo66) | ((with_reducible refine gate_callee (f := 18) rfl ?_); refine goesL_ (some 86) rfl rfl Tryd.func18 (by kernel_rfl) rfl #[.slice Ao66 t104.length co66, .slice A0 l0.length c0] rfl (by (try simp only [List.map_toArray, List.map_cons, List.map_nil]); first | done | rfl | (simp only [List.length_drop, List.length_take]; rfl)) ?_; (with_reducible refine (flist_Same.calls k2 _ _ t104 _ _ l0 true _ ?side1 ?side2 ?side3 ?side4 A62.out).mono ?_); (case side1 => repeat (first | exact (Kd.R_reads' HO106.out).2.2 | (with_reducible refine Kd.C_alloc ?_ _) | (with_reducible refine Kd.C_drewN ?_ _) | (with_reducible refine Kd.C_drew ?_))); (case side2 => exact (Kd.R_reads' HO106.out).2.1); (case side3 => repeat (first | exact (Kd.C_below HR0.out HB.out) | (with_reducible refine Kd.C_alloc ?_ _) | (with_reducible refine Kd.C_drewN ?_ _) | (with_reducible refine Kd.C_drew ?_))); (case side4 => exact HC0.out); rintro e w' ⟨rfl, ⟨nd, rfl⟩⟩; refine ⟨_, rfl, ?_⟩) | (go_at_call 11; (with_reducible refine (remoralaw20_awake.calls k2  t108 _ A64.out ?sideT).mono ?_); (case sideT => exact HT.out.step (by repeat (first | (with_reducible first | exact HB.out | apply below_alloc | apply pw_below_drewN | apply below_drew1) | exact HB.out))); rintro e w67 ⟨rfl, hb⟩; have n0_ := Aside0.mk (Kd.R_below (by (with_reducible repeat (first | apply Kd.R_alloc | apply Kd.R_drewN | apply Kd.R_drew)); exact HO106.out) hb); have n1_ := Aside0.mk (below_step (by repeat (first | (with_reducible first | exact HB.out | apply below_alloc | apply pw_below_drewN | apply below_drew1) | exact HB.out)) hb); clear HO106; clear HB; have HO106 := n0_; have HB := n1_; clear n0_ n1_; (try clear hb); (try clear hb2); (try clear hk); (try clear hi)))
        go_ret
        exact ⟨by first | rfl | (simp [errW_none, errW_some] <;> rfl) | (simp [*, errW_none, errW_some] <;> rfl), by repeat (first | (with_reducible first | exact HB.out | apply below_alloc | apply pw_below_drewN | apply below_drew1) | exact HB.out)⟩
       ·replace c63 := Bool.eq_false_iff.mpr c63
        subst c63
        have H1 : (some false) = some r := by rw [if_neg (show ¬ (false = true) by decide)] at H; exact H
        clear H
        have H := H1
        clear H1
        obtain rfl := Option.some.inj H
        go_wp2_with (first | ((with_reducible refine gate_callee (f := 17) rfl ?_); refine goesL_ (some 84) rfl rfl Tryd.func17 (by kernel_rfl) rfl #[.slice A0 l0.length c0, .string (⟨#[]⟩ : ByteArray)] rfl (by (try simp only [List.map_toArray, List.map_cons, List.map_nil]); first | done | rfl | (simp only [List.length_drop, List.length_take]; rfl)) ?_; (with_reducible refine (flist_Below.calls _ _ l0 (⟨#[]⟩ : ByteArray) t104 _ ?side1 ?side2 A61.out).mono ?_); (case side1 => repeat (first | exact (Kd.C_below HR0.out HB.out) | (with_reducible refine Kd.C_alloc ?_ _) | (with_reducible refine Kd.C_drewN ?_ _) | (with_reducible refine Kd.C_drew ?_))); (case side2 => exact HC0.out); rintro e w68 ⟨v105, rfl, ho0, hb⟩; refine ⟨_, rfl, ?_⟩; have n0_ := Aside0.mk (Kd.R_lower ho0 (below_size (by repeat (first | (with_reducible first | exact HB.out | apply below_alloc | apply pw_below_drewN | apply below_drew1) | exact HB.out)))); have n1_ := Aside0.mk (below_step (by repeat (first | (with_reducible first | exact HB.out | apply below_alloc | apply pw_below_drewN | apply below_drew1) | exact HB.out)) hb); clear HB; have HO106 := n0_; have HB := n1_; clear n0_ n1_; (try clear hb); (try clear hb2); (try clear hk); (try clear hi); (try clear ho0); obtain ⟨Ao69, co69, eo69⟩ := Kd.R_slice HO106.out; subst eo69) | ((with_reducible refine gate_callee (f := 18) rfl ?_); refine goesL_ (some 86) rfl rfl Tryd.func18 (by kernel_rfl) rfl #[.slice Ao69 t104.length co69, .slice A0 l0.length c0] rfl (by (try simp only [List.map_toArray, List.map_cons, List.map_nil]); first | done | rfl | (simp only [List.length_drop, List.length_take]; rfl)) ?_; (with_reducible refine (flist_Same.calls k2 _ _ t104 _ _ l0 false _ ?side1 ?side2 ?side3 ?side4 A62.out).mono ?_); (case side1 => repeat (first | exact (Kd.R_reads' HO106.out).2.2 | (with_reducible refine Kd.C_alloc ?_ _) | (with_reducible refine Kd.C_drewN ?_ _) | (with_reducible refine Kd.C_drew ?_))); (case side2 => exact (Kd.R_reads' HO106.out).2.1); (case side3 => repeat (first | exact (Kd.C_below HR0.out HB.out) | (with_reducible refine Kd.C_alloc ?_ _) | (with_reducible refine Kd.C_drewN ?_ _) | (with_reducible refine Kd.C_drew ?_))); (case side4 => exact HC0.out); rintro e w' ⟨rfl, ⟨nd, rfl⟩⟩; refine ⟨_, rfl, ?_⟩))
        go_ret
        exact ⟨by first | rfl | (simp [errW_none, errW_some] <;> rfl) | (simp [*, errW_none, errW_some] <;> rfl), by repeat (first | (with_reducible first | exact HB.out | apply below_alloc | apply pw_below_drewN | apply below_drew1) | exact HB.out)⟩
end Go.Proofs.YtcdmgdegohcmhaaDoor.PA
namespace Go.Proofs.YtcdmgdegohcmhaaDoor.PA
open Go.RowKit Go.Proofs.YtcdmgdegohcmhaaDoorW.PrintWords Go.Proofs.YtcdmgdegohcmhaaDoorW.PrintLast Go.Proofs.YtcdmgdegohcmhaaDoorW.PrintMore
attribute [local go_sem] max2_int min2_int max_two min_two max_three min_three max_four min_four   -- for this text's walks alone
set_option linter.unusedVariables false
set_option linter.unusedSimpArgs false
end Go.Proofs.YtcdmgdegohcmhaaDoor.PA
namespace Go.Proofs.YtcdmgdegohcmhaaDoor.PA
open Go.RowKit Go.Proofs.YtcdmgdegohcmhaaDoorW.PrintWords Go.Proofs.YtcdmgdegohcmhaaDoorW.PrintLast Go.Proofs.YtcdmgdegohcmhaaDoorW.PrintMore
attribute [local go_sem] max2_int min2_int max_two min_two max_three min_three max_four min_four   -- for this text's walks alone
set_option linter.unusedVariables false
set_option linter.unusedSimpArgs false
end Go.Proofs.YtcdmgdegohcmhaaDoor.PA
namespace Go.Proofs.YtcdmgdegohcmhaaDoor.PA
open Go.RowKit Go.Proofs.YtcdmgdegohcmhaaDoorW.PrintWords Go.Proofs.YtcdmgdegohcmhaaDoorW.PrintLast Go.Proofs.YtcdmgdegohcmhaaDoorW.PrintMore
attribute [local go_sem] max2_int min2_int max_two min_two max_three min_three max_four min_four   -- for this text's walks alone
set_option linter.unusedVariables false
set_option linter.unusedSimpArgs false
end Go.Proofs.YtcdmgdegohcmhaaDoor.PA
namespace Go.Proofs.YtcdmgdegohcmhaaDoor.PA
open Go.RowKit Go.Proofs.YtcdmgdegohcmhaaDoorW.PrintWords Go.Proofs.YtcdmgdegohcmhaaDoorW.PrintLast Go.Proofs.YtcdmgdegohcmhaaDoorW.PrintMore
attribute [local go_sem] max2_int min2_int max_two min_two max_three min_three max_four min_four   -- for this text's walks alone
set_option linter.unusedVariables false
set_option linter.unusedSimpArgs false
end Go.Proofs.YtcdmgdegohcmhaaDoor.PA
namespace Go.Proofs.YtcdmgdegohcmhaaDoor.PA
open Go.RowKit Go.Proofs.YtcdmgdegohcmhaaDoorW.PrintWords Go.Proofs.YtcdmgdegohcmhaaDoorW.PrintLast Go.Proofs.YtcdmgdegohcmhaaDoorW.PrintMore
attribute [local go_sem] max2_int min2_int max_two min_two max_three min_three max_four min_four   -- for this text's walks alone
set_option linter.unusedVariables false
set_option linter.unusedSimpArgs false
end Go.Proofs.YtcdmgdegohcmhaaDoor.PA
namespace Go.Proofs.YtcdmgdegohcmhaaDoor.PA
open Go.RowKit Go.Proofs.YtcdmgdegohcmhaaDoorW.PrintWords Go.Proofs.YtcdmgdegohcmhaaDoorW.PrintLast Go.Proofs.YtcdmgdegohcmhaaDoorW.PrintMore
attribute [local go_sem] max2_int min2_int max_two min_two max_three min_three max_four min_four   -- for this text's walks alone
set_option linter.unusedVariables false
set_option linter.unusedSimpArgs false
end Go.Proofs.YtcdmgdegohcmhaaDoor.PA
namespace Go.Proofs.YtcdmgdegohcmhaaDoor.PA
open Go.RowKit Go.Proofs.YtcdmgdegohcmhaaDoorW.PrintWords Go.Proofs.YtcdmgdegohcmhaaDoorW.PrintLast Go.Proofs.YtcdmgdegohcmhaaDoorW.PrintMore
attribute [local go_sem] max2_int min2_int max_two min_two max_three min_three max_four min_four   -- for this text's walks alone
set_option linter.unusedVariables false
set_option linter.unusedSimpArgs false
end Go.Proofs.YtcdmgdegohcmhaaDoor.PA
namespace Go.Proofs.YtcdmgdegohcmhaaDoor.PA
open Go.RowKit Go.Proofs.YtcdmgdegohcmhaaDoorW.PrintWords Go.Proofs.YtcdmgdegohcmhaaDoorW.PrintLast Go.Proofs.YtcdmgdegohcmhaaDoorW.PrintMore
attribute [local go_sem] max2_int min2_int max_two min_two max_three min_three max_four min_four   -- for this text's walks alone
set_option linter.unusedVariables false
set_option linter.unusedSimpArgs false
end Go.Proofs.YtcdmgdegohcmhaaDoor.PA
namespace Go.Proofs.YtcdmgdegohcmhaaDoor.PA
open Go.RowKit Go.Proofs.YtcdmgdegohcmhaaDoorW.PrintWords Go.Proofs.YtcdmgdegohcmhaaDoorW.PrintLast Go.Proofs.YtcdmgdegohcmhaaDoorW.PrintMore
attribute [local go_sem] max2_int min2_int max_two min_two max_three min_three max_four min_four   -- for this text's walks alone
set_option linter.unusedVariables false
set_option linter.unusedSimpArgs false
end Go.Proofs.YtcdmgdegohcmhaaDoor.PA
namespace Go.Proofs.YtcdmgdegohcmhaaDoor.PA
open Go.RowKit Go.Proofs.YtcdmgdegohcmhaaDoorW.PrintWords Go.Proofs.YtcdmgdegohcmhaaDoorW.PrintLast Go.Proofs.YtcdmgdegohcmhaaDoorW.PrintMore
attribute [local go_sem] max2_int min2_int max_two min_two max_three min_three max_four min_four   -- for this text's walks alone
set_option linter.unusedVariables false
set_option linter.unusedSimpArgs false
end Go.Proofs.YtcdmgdegohcmhaaDoor.PA
namespace Go.Proofs.YtcdmgdegohcmhaaDoor.PA
open Go.RowKit Go.Proofs.YtcdmgdegohcmhaaDoorW.PrintWords Go.Proofs.YtcdmgdegohcmhaaDoorW.PrintLast Go.Proofs.YtcdmgdegohcmhaaDoorW.PrintMore
attribute [local go_sem] max2_int min2_int max_two min_two max_three min_three max_four min_four
set_option linter.unusedVariables false
set_option linter.unusedSimpArgs false
theorem putL_len (n : Int) : (putL n).length ≤ 9 := by
 have : ∀ k x, (putN k x).length ≤ k + 1 := by
  intro k
  induction k with
  | zero => intro x; simp [putN]
  | succ k ih =>
   intro x
   unfold putN
   split
   ·have := ih (x / 128)
    simp
    omega
   ·simp
 exact this 8 (clampN n)
end Go.Proofs.YtcdmgdegohcmhaaDoor.PA
namespace Go.Proofs.YtcdmgdegohcmhaaDoor.PA
open Go.RowKit Go.Proofs.YtcdmgdegohcmhaaDoorW.PrintWords Go.Proofs.YtcdmgdegohcmhaaDoorW.PrintLast Go.Proofs.YtcdmgdegohcmhaaDoorW.PrintMore
attribute [local go_sem] max2_int min2_int max_two min_two max_three min_three max_four min_four   -- for this text's walks alone
set_option linter.unusedVariables false
set_option linter.unusedSimpArgs false
end Go.Proofs.YtcdmgdegohcmhaaDoor.PA
namespace Go.Proofs.YtcdmgdegohcmhaaDoor.PA
open Go.RowKit Go.Proofs.YtcdmgdegohcmhaaDoorW.PrintWords Go.Proofs.YtcdmgdegohcmhaaDoorW.PrintLast Go.Proofs.YtcdmgdegohcmhaaDoorW.PrintMore
attribute [local go_sem] max2_int min2_int max_two min_two max_three min_three max_four min_four   -- for this text's walks alone
set_option linter.unusedVariables false
set_option linter.unusedSimpArgs false
end Go.Proofs.YtcdmgdegohcmhaaDoor.PA
namespace Go.Proofs.YtcdmgdegohcmhaaDoor.PA
open Go.RowKit Go.Proofs.YtcdmgdegohcmhaaDoorW.PrintWords Go.Proofs.YtcdmgdegohcmhaaDoorW.PrintLast Go.Proofs.YtcdmgdegohcmhaaDoorW.PrintMore
attribute [local go_sem] max2_int min2_int max_two min_two max_three min_three max_four min_four   -- for this text's walks alone
set_option linter.unusedVariables false
set_option linter.unusedSimpArgs false
end Go.Proofs.YtcdmgdegohcmhaaDoor.PA
namespace Go.Proofs.YtcdmgdegohcmhaaDoor.PA
open Go.RowKit Go.Proofs.YtcdmgdegohcmhaaDoorW.PrintWords Go.Proofs.YtcdmgdegohcmhaaDoorW.PrintLast Go.Proofs.YtcdmgdegohcmhaaDoorW.PrintMore
attribute [local go_sem] max2_int min2_int max_two min_two max_three min_three max_four min_four
set_option linter.unusedVariables false
set_option linter.unusedSimpArgs false
def okL (l : List Int) : Prop := ∀ c ∈ l, 0 ≤ c ∧ c < 256
theorem okL_app {a b : List Int} (ha : okL a) (hb : okL b) : okL (a ++ b) := fun c hc => by
 rcases List.mem_append.1 hc with h | h
 ·exact ha c h
 ·exact hb c h
theorem okL_nil : okL [] := fun c hc => absurd hc (by simp)
end Go.Proofs.YtcdmgdegohcmhaaDoor.PA
namespace Go.Proofs.YtcdmgdegohcmhaaDoor.PA
open Go.RowKit Go.Proofs.YtcdmgdegohcmhaaDoorW.PrintWords Go.Proofs.YtcdmgdegohcmhaaDoorW.PrintLast Go.Proofs.YtcdmgdegohcmhaaDoorW.PrintMore
attribute [local go_sem] max2_int min2_int max_two min_two max_three min_three max_four min_four
set_option linter.unusedVariables false
set_option linter.unusedSimpArgs false
theorem wrap_succ (i : Nat) (h : i < 9223372036854775807) : wrap64 ((i : Int) + 1) = ((i + 1 : Nat) : Int) := by
 rw [wr64 _ (by omega) (by omega)]
 rfl
def putS (n : Int) : List Int := if mn (mx n (-2305843009213693952)) 2305843009213693951 < 0 then putL ((-2) * mn (mx n (-2305843009213693952)) 2305843009213693951 - 1) else putL (2 * mn (mx n (-2305843009213693952)) 2305843009213693951)
theorem put_ok (l : List Int) (n : Int) (h : l.length < 1000000000) : num_Put.f l n = some (l ++ putL n) := if_pos h
theorem putint_f (l : List Int) (n : Int) (h : l.length < 1000000000) : num_PutInt.f l n = some (l ++ putS n) := by
 unfold num_PutInt.f putS
 split
 ·rw [put_ok _ _ h]
  rfl
 ·rw [put_ok _ _ h]
  rfl
theorem putS_len (n : Int) : (putS n).length ≤ 9 := by
 unfold putS
 split <;> exact putL_len _
def metaL (a b c d e : Int) : List Int := if metaOk a b c d e = true then putL a ++ putS b ++ putL c ++ putL d ++ putL e else []
theorem metaL_len (a b c d e : Int) : (metaL a b c d e).length ≤ 45 := by
 have h1 := putL_len a
 have h2 := putS_len b
 have h3 := putL_len c
 have h4 := putL_len d
 have h5 := putL_len e
 unfold metaL
 split
 ·simp only [List.length_append]
  omega
 ·simp
theorem metab_f (a b c d e : Int) : meta_Bytes.f a b c d e = some (metaL a b c d e, if metaOk a b c d e = true then 0 else 2) := by
 have h1 := putL_len a
 have h2 := putS_len b
 have h3 := putL_len c
 have h4 := putL_len d
 rw [meta_Bytes.f, meta_Check.f, Option.bind_some]
 unfold metaL
 by_cases h : metaOk a b c d e = true
 ·rw [if_pos h, if_pos rfl, if_pos h, put_ok _ _ (by simp), Option.bind_some, putint_f _ _ (by simp; omega), Option.bind_some, put_ok _ _ (by simp; omega), Option.bind_some, put_ok _ _ (by simp; omega), Option.bind_some, put_ok _ _ (by simp; omega), Option.bind_some]
  rfl
 ·rw [if_neg h, if_neg (by decide), if_neg h]
theorem puttext_ok (l : List Int) (s : ByteArray) (h : l.length + 9 + s.size < 1000000000) : num_PutText.f l s = some (l ++ putL (s.size : Int) ++ bytesOf s) := by
 have h1 := putL_len (s.size : Int)
 rw [num_PutText.f, put_ok _ _ (by omega), Option.bind_some, if_pos (by simp; omega)]
def kindE (x : S35) : Int := if x.f5.toList = ([] : List UInt8) then x.f1 else wrap64 (x.f1 + 4)
def tailE (last : ByteArray) (x : S35) : ByteArray := x.f0.extract (likeN x.f0 last) x.f0.size
def entL (last : ByteArray) (x : S35) : List Int :=
 putL (likeN x.f0 last : Int) ++ putL ((tailE last x).size : Int) ++ bytesOf (tailE last x) ++ putL (kindE x) ++ putL x.f2 ++ metaL x.f3.f0 x.f3.f1 x.f3.f2 x.f3.f3 x.f3.f4 ++ (if x.f1 = 3 then putL (x.f4.size : Int) ++ bytesOf x.f4 else []) ++ bytesOf x.f5 ++ (if x.f1 = 1 then putL x.f6 else [])
def encG : ByteArray → List S35 → List Int
 | _, [] => []
 | last, x :: l => entL last x ++ encG x.f0 l
def encL (L : List S35) : List Int := putL (L.length : Int) ++ encG ⟨#[]⟩ L
def sealB (l : List Int) : List Int := l ++ sealL l
def bnd35 (x : S35) : Prop := x.f0.size ≤ 100000 ∧ x.f4.size ≤ 100000 ∧ x.f5.size ≤ 100000
theorem tailE_size (last : ByteArray) (x : S35) : (tailE last x).size ≤ x.f0.size := by
 unfold tailE
 rw [ByteArray.size_extract]
 omega
theorem entL_len (last : ByteArray) (x : S35) (h : bnd35 x) : (entL last x).length ≤ 300200 := by
 obtain ⟨h1, h2, h3⟩ := h
 have a1 := putL_len (likeN x.f0 last : Int)
 have a2 := putL_len ((tailE last x).size : Int)
 have a3 := putL_len (kindE x)
 have a4 := putL_len x.f2
 have a5 := metaL_len x.f3.f0 x.f3.f1 x.f3.f2 x.f3.f3 x.f3.f4
 have a6 := putL_len (x.f4.size : Int)
 have a7 := putL_len x.f6
 have a8 := tailE_size last x
 have b1 : (if x.f1 = 3 then putL (x.f4.size : Int) ++ bytesOf x.f4 else []).length ≤ 100009 := by
  split
  ·rw [List.length_append, bytesOf_length]
   omega
  ·simp
 have b2 : (if x.f1 = 1 then putL x.f6 else []).length ≤ 9 := by
  split
  ·exact a7
  ·simp
 unfold entL
 simp only [List.length_append, bytesOf_length] at *
 omega
theorem putL_ok (n : Int) : okL (putL n) := by
 have : ∀ (k : Nat) (x : Int), 0 ≤ x → x < 128 ^ (k + 1) → okL (putN k x) := by
  intro k
  induction k with
  | zero =>
   intro x h0 h1 c hc
   rw [putN_last 0 x (by simp at h1; omega)] at hc
   simp at hc h1
   omega
  | succ k ih =>
   intro x h0 h1 c hc
   by_cases h : x > 127
   ·rw [putN_more k x h] at hc
    rcases List.mem_cons.1 hc with e | hc
    ·omega
    ·refine ih (x / 128) (by omega) ?_ c hc
     rw [Int.pow_succ] at h1
     omega
   ·rw [putN_last _ x h] at hc
    simp at hc
    omega
 have hc := clampN_range n
 exact this 8 (clampN n) hc.1 (by have e9 : (128 : Int) ^ (8 + 1) = 9223372036854775808 := rfl; omega)
theorem putS_ok (n : Int) : okL (putS n) := by
 unfold putS
 split <;> exact putL_ok _
theorem bytesOf_ok (s : ByteArray) : okL (bytesOf s) := fun c hc => by
 simp [bytesOf] at hc
 obtain ⟨b, _, rfl⟩ := hc
 have := b.toNat_lt
 omega
theorem if_ok {p : Prop} [Decidable p] {a b : List Int} (ha : okL a) (hb : okL b) : okL (if p then a else b) := by
 split
 ·exact ha
 ·exact hb
theorem metaL_ok (a b c d e : Int) : okL (metaL a b c d e) := if_ok (okL_app (okL_app (okL_app (okL_app (putL_ok _) (putS_ok _)) (putL_ok _)) (putL_ok _)) (putL_ok _)) okL_nil
theorem entL_ok (last : ByteArray) (x : S35) : okL (entL last x) :=
 okL_app (okL_app (okL_app (okL_app (okL_app (okL_app (okL_app (okL_app (putL_ok _) (putL_ok _)) (bytesOf_ok _)) (putL_ok _)) (putL_ok _)) (metaL_ok _ _ _ _ _)) (if_ok (okL_app (putL_ok _) (bytesOf_ok _)) okL_nil)) (bytesOf_ok _)) (if_ok (putL_ok _) okL_nil)
theorem seal_ok (l : List Int) (h : l.length < 1000000000) (hu : okL l) : crc_Seal.f l = some (sealB l) := if_pos ⟨h, hu⟩
set_option maxHeartbeats 2000000 in
theorem fb_step (L : List S35) (i : Nat) (hi : i < L.length) (hL : L.length ≤ 1000) (b : List Int) (last : ByteArray) (hb : b.length + 300200 < 1000000000) (hx : bnd35 L[i]) (hlast : last.size ≤ 100000) (k : Nat) :
  flist_Bytes.l0 (k + 2) b last L (L.length : Int) (i : Int) = flist_Bytes.l0 k (b ++ entL last L[i]) L[i].f0 L (L.length : Int) ((i + 1 : Nat) : Int) := by
 obtain ⟨x, ex⟩ : ∃ x, L[i] = x := ⟨_, rfl⟩
 rw [ex] at hx
 obtain ⟨h1, h2, h3⟩ := hx
 have a1 := putL_len (likeN x.f0 last : Int)
 have a2 := putL_len ((tailE last x).size : Int)
 have a3 := putL_len (kindE x)
 have a4 := putL_len x.f2
 have a5 := metaL_len x.f3.f0 x.f3.f1 x.f3.f2 x.f3.f3 x.f3.f4
 have a6 := putL_len (x.f4.size : Int)
 have a8 := tailE_size last x
 have hn := likeN_le x.f0 last
 have hj : flist_Bytes.l0 (k + 2) b last L (L.length : Int) (i : Int) = flist_Bytes.j1 (k + 1) b x.f0 (likeN x.f0 last : Int) (kindE x) L (L.length : Int) (i : Int) x.f0 x.f1 x.f2 x.f3.f0 x.f3.f1 x.f3.f2 x.f3.f3 x.f3.f4 x.f4 x.f5 x.f6 := by
  rw [flist_Bytes.l0, if_pos (by omega), if_pos (by omega), if_pos (by omega), rd35_get L i hi, ex, flist_like.f, if_pos ⟨by omega, by omega⟩, Option.bind_some]
  unfold kindE
  by_cases h5 : x.f5.toList = ([] : List UInt8)
  ·rw [if_pos h5, if_pos h5]
  ·rw [if_neg h5, if_neg h5]
 have hte : x.f0.extract ((likeN x.f0 last : Nat) : Int).toNat x.f0.size = tailE last x := by
  rw [Int.toNat_natCast]
  rfl
 rw [hj, ex, flist_Bytes.j1, put_ok _ _ (by omega), Option.bind_some, if_pos (by omega), if_pos (by omega), hte]
 rw [puttext_ok _ _ (by simp only [List.length_append]; omega), Option.bind_some]
 rw [put_ok _ _ (by simp only [List.length_append, bytesOf_length]; omega), Option.bind_some]
 rw [put_ok _ _ (by simp only [List.length_append, bytesOf_length]; omega), Option.bind_some]
 rw [metab_f, Option.bind_some, if_pos (by simp only [List.length_append, bytesOf_length]; omega), Option.bind_some, wrap_succ i (by omega)]
 unfold entL
 by_cases c3 : x.f1 = 3
 ·have c1 : ¬ x.f1 = 1 := by omega
  rw [if_pos c3, if_pos c3, if_neg c1, puttext_ok _ _ (by simp only [List.length_append, bytesOf_length]; omega), Option.bind_some, if_pos (by simp only [List.length_append, bytesOf_length]; omega), Option.bind_some, if_neg c1]
  simp only [List.append_assoc, List.append_nil]
 ·rw [if_neg c3, if_neg c3, if_pos (by simp only [List.length_append, bytesOf_length]; omega), Option.bind_some]
  by_cases c1 : x.f1 = 1
  ·rw [if_pos c1, if_pos c1, put_ok _ _ (by simp only [List.length_append, bytesOf_length]; omega), Option.bind_some]
   simp only [List.append_assoc, List.nil_append]
  ·rw [if_neg c1, if_neg c1]
   simp only [List.append_assoc, List.append_nil, List.nil_append]
theorem fb_all (L : List S35) (hL : L.length ≤ 1000) (hx : ∀ x ∈ L, bnd35 x) : ∀ (m i : Nat) (b : List Int) (last : ByteArray) (k : Nat), L.length - i = m → i ≤ L.length → b.length + m * 300200 < 999000000 → last.size ≤ 100000 → okL b → 2 * m + 1 ≤ k →
  flist_Bytes.l0 k b last L (L.length : Int) (i : Int) = some (sealB (b ++ encG last (L.drop i)), 0) := by
 intro m
 induction m with
 | zero =>
  intro i b last k hm hi hb hl ho hk
  obtain ⟨k, rfl⟩ : ∃ j, k = j + 1 := ⟨k - 1, by omega⟩
  rw [flist_Bytes.l0, if_neg (by omega), seal_ok b (by omega) ho, Option.bind_some, List.drop_eq_nil_of_le (by omega), encG, List.append_nil]
 | succ m ih =>
  intro i b last k hm hi hb hl ho hk
  obtain ⟨k, rfl⟩ : ∃ j, k = j + 2 := ⟨k - 2, by omega⟩
  have hlt : i < L.length := by omega
  have hxi := hx L[i] (List.getElem_mem hlt)
  have he := entL_len last L[i] hxi
  obtain ⟨z, hz⟩ : ∃ z : Nat, z = (entL last L[i]).length := ⟨_, rfl⟩
  rw [← hz] at he
  have HZ := Aside0.mk hz
  clear hz
  have hb3 : b.length + 300200 < 1000000000 := by omega
  have hb4 : b.length + z + m * 300200 < 999000000 := by omega
  rw [fb_step L i hlt hL b last hb3 hxi hl k, ih (i + 1) _ _ k (by omega) (by omega) (by rw [List.length_append, ← HZ.out]; exact hb4) hxi.1 (okL_app ho (entL_ok _ _)) (by omega), List.drop_eq_getElem_cons hlt, encG, List.append_assoc]
theorem bytes20_f (L : List S35) (hl : light20 L) (hx : ∀ x ∈ L, bnd35 x) (k : Nat) (hk : 3000 ≤ k) : flist_Bytes.f k L = some (if checkL20 L = 0 then (sealB (encL L), 0) else ([], checkL20 L)) := by
 have hln := hl.1
 obtain ⟨z, hz⟩ : ∃ z : Nat, z = (putL (L.length : Int)).length := ⟨_, rfl⟩
 have h2 : z ≤ 9 := hz ▸ putL_len (L.length : Int)
 have HZ := Aside0.mk hz
 clear hz
 have hb4 : z + L.length * 300200 < 999000000 := by omega
 rw [flist_Bytes.f, flist_Check.f, if_pos hl, Option.bind_some]
 by_cases hc : checkL20 L = 0
 ·rw [if_pos hc, if_pos hc, put_ok _ _ (by simp), Option.bind_some]
  have := fb_all L hl.1 hx L.length 0 (putL (L.length : Int)) ⟨#[]⟩ k (by omega) (by omega) (by rw [← HZ.out]; exact hb4) (Nat.zero_le _) (putL_ok _) (by omega)
  rw [List.drop_zero] at this
  exact this
 ·rw [if_neg hc, if_neg hc]
end Go.Proofs.YtcdmgdegohcmhaaDoor.PA
namespace Go.Proofs.YtcdmgdegohcmhaaDoor.PA
open Go.RowKit Go.Proofs.YtcdmgdegohcmhaaDoorW.PrintWords Go.Proofs.YtcdmgdegohcmhaaDoorW.PrintLast Go.Proofs.YtcdmgdegohcmhaaDoorW.PrintMore
attribute [local go_sem] max2_int min2_int max_two min_two max_three min_three max_four min_four
set_option linter.unusedVariables false
set_option linter.unusedSimpArgs false
def smallX (x : S35) : Bool := decide (x.f0.size ≤ 600) && decide (x.f4.size ≤ 600) && decide (x.f5.size ≤ 100)
def smallB (L : List S35) : Bool := L.all smallX && decide (L.length ≤ 60)
theorem small_l (L : List S35) (hL : L.length ≤ 9223372036854775807) : ∀ (m i k : Nat), L.length - i = m → i ≤ L.length → m + 1 ≤ k → remoraref20_Small.l0 k L (i : Int) = some ((L.drop i).all smallX && decide (L.length ≤ 60)) := by
 intro m
 induction m with
 | zero =>
  intro i k hm hi hk
  obtain ⟨k, rfl⟩ : ∃ j, k = j + 1 := ⟨k - 1, by omega⟩
  rw [remoraref20_Small.l0, if_neg (by omega), List.drop_eq_nil_of_le (by omega), List.all_nil, Bool.true_and]
  congr 1
  exact decide_eq_decide.2 (by omega)
 | succ m ih =>
  intro i k hm hi hk
  obtain ⟨k, rfl⟩ : ∃ j, k = j + 1 := ⟨k - 1, by omega⟩
  have hlt : i < L.length := by omega
  rw [remoraref20_Small.l0, if_pos (by omega), if_pos (by omega), rd35_get L i hlt, wrap_succ i (by omega), ih (i + 1) k (by omega) (by omega) (by omega), List.drop_eq_getElem_cons hlt, List.all_cons]
  unfold smallX
  by_cases h1 : L[i].f0.size ≤ 600
  ·by_cases h2 : L[i].f4.size ≤ 600
   ·by_cases h3 : L[i].f5.size ≤ 100
    ·rw [if_neg (by omega), if_neg (by omega), if_neg (by omega)]
     simp [h1, h2, h3]
    ·rw [if_neg (by omega), if_neg (by omega), if_pos (by omega)]
     simp [h3]
   ·rw [if_neg (by omega), if_pos (by omega)]
    simp [h2]
  ·rw [if_pos (by omega)]
   simp [h1]
theorem small_f (L : List S35) (hL : L.length ≤ 9223372036854775807) (k : Nat) (hk : L.length + 1 ≤ k) : remoraref20_Small.f k L = some (smallB L) := small_l L hL L.length 0 k (by omega) (by omega) (by omega)
theorem smallB_facts {L : List S35} (h : smallB L = true) : L.length ≤ 60 ∧ ∀ x ∈ L, x.f0.size ≤ 600 ∧ x.f4.size ≤ 600 ∧ x.f5.size ≤ 100 := by
 unfold smallB at h
 simp only [Bool.and_eq_true, decide_eq_true_eq, List.all_eq_true] at h
 refine ⟨h.2, fun x hx => ?_⟩
 have := h.1 x hx
 unfold smallX at this
 simp only [Bool.and_eq_true, decide_eq_true_eq] at this
 exact ⟨this.1.1, this.1.2, this.2⟩
theorem light_small {L : List S35} (h : smallB L = true) : light20 L := ⟨by have := (smallB_facts h).1; omega, fun x hx => by have := (smallB_facts h).2 x hx; omega⟩
def exA : S35 := ⟨(⟨#[97]⟩ : ByteArray), 1, 3, (⟨0, 0, 0, 0, 0⟩ : S33), (⟨#[]⟩ : ByteArray), (⟨#[]⟩ : ByteArray), 0⟩
def exB : S35 := ⟨(⟨#[97, 47, 98]⟩ : ByteArray), 1, 0, (⟨0, 0, 0, 0, 0⟩ : S33), (⟨#[]⟩ : ByteArray), (⟨#[]⟩ : ByteArray), 0⟩
theorem exA_check : checkL20 [exA] = 0 := by kernel_rfl
theorem exB_check : checkL20 [exB] = 12 := by kernel_rfl
theorem exA_enc : encL [exA] = [1, 0, 1, 97, 1, 3, 0, 0, 0, 0, 0, 0] := by kernel_rfl
theorem awake20 (k : Nat) (hk : 3000 ≤ k) : remoralaw20_awake.f k = some true := by
 have lA : light20 [exA] := ⟨by decide, fun x hx => by rw [List.mem_singleton.1 hx]; decide⟩
 have lB : light20 [exB] := ⟨by decide, fun x hx => by rw [List.mem_singleton.1 hx]; decide⟩
 have bA : ∀ x ∈ [exA], bnd35 x := fun x hx => by rw [List.mem_singleton.1 hx]; exact ⟨by decide, by decide, by decide⟩
 have hB := bytes20_f [exA] lA bA k hk
 rw [exA_check, if_pos rfl, exA_enc] at hB
 have hC : flist_Check.f [exB] = some 12 := by rw [flist_Check.f, if_pos lB, exB_check]
 unfold remoralaw20_awake.f
 rw [show ([(⟨(⟨#[97]⟩ : ByteArray), 1, 3, (⟨0, 0, 0, 0, 0⟩ : S33), (⟨#[]⟩ : ByteArray), (⟨#[]⟩ : ByteArray), 0⟩ : S35)] : List S35) = [exA] from rfl, hB, Option.bind_some, if_pos rfl, if_pos (by rfl), if_pos (by decide), if_pos (by kernel_rfl), show ([(⟨(⟨#[97, 47, 98]⟩ : ByteArray), 1, 0, (⟨0, 0, 0, 0, 0⟩ : S33), (⟨#[]⟩ : ByteArray), (⟨#[]⟩ : ByteArray), 0⟩ : S35)] : List S35) = [exB] from rfl, hC]
 rfl
end Go.Proofs.YtcdmgdegohcmhaaDoor.PA
namespace Go.Proofs.YtcdmgdegohcmhaaDoor.PA
open Go.RowKit Go.Proofs.YtcdmgdegohcmhaaDoorW.PrintWords Go.Proofs.YtcdmgdegohcmhaaDoorW.PrintLast Go.Proofs.YtcdmgdegohcmhaaDoorW.PrintMore
attribute [local go_sem] max2_int min2_int max_two min_two max_three min_three max_four min_four
set_option linter.unusedVariables false
set_option linter.unusedSimpArgs false
theorem pre_cons (a b : ByteArray) (s t : List ByteArray) : preB (a :: s) (b :: t) = true ↔ a = b ∧ preB s t = true := by
 unfold preB
 rw [decide_eq_true_iff, decide_eq_true_iff, List.length_cons, List.take_succ_cons, List.cons.injEq]
 exact ⟨fun h => ⟨h.1.symm, h.2⟩, fun h => ⟨h.1.symm, h.2⟩⟩
theorem cmp_pre : ∀ x y, preB x y = true → x.length < y.length → cmpL x y < 0
 | [], [], _, h => absurd h (by decide)
 | [], _ :: _, _, _ => by simp [cmpL]
 | _ :: _, [], h, _ => by simp [preB] at h
 | a :: s, b :: t, h, hl => by
  rw [pre_cons] at h
  rw [cmp_cons]
  exact Or.inr ⟨h.1, cmp_pre s t h.2 (by simpa using hl)⟩
theorem cmp_mid : ∀ x y z, preB x z = true → cmpL x y < 0 → cmpL y z < 0 → preB x y = true
 | [], _, _, _, _, _ => by simp [preB]
 | _ :: _, [], _, _, h, _ => absurd h (by simp [cmpL])
 | _ :: _, _ :: _, [], h, _, _ => by simp [preB] at h
 | a :: s, b :: t, d :: u, h, h1, h2 => by
  rw [pre_cons] at h
  obtain ⟨rfl, h⟩ := h
  rw [cmp_cons] at h1 h2
  rw [pre_cons]
  rcases h1 with h1 | ⟨rfl, h1⟩
  ·exfalso
   rcases h2 with h2 | ⟨h2, _⟩
   ·have := bl_trans _ _ _ h1 h2
    rw [bl_irr] at this
    exact absurd this (by decide)
   ·rw [h2, bl_irr] at h1
    exact absurd h1 (by decide)
  ·refine ⟨rfl, ?_⟩
   rcases h2 with h2 | ⟨_, h2⟩
   ·rw [bl_irr] at h2
    exact absurd h2 (by decide)
   ·exact cmp_mid s t u h h1 h2
theorem partB_ne (s : ByteArray) (h : partB s = true) : s.size ≠ 0 := by
 intro e
 rw [size_zero e] at h
 have e2 : partB ⟨#[]⟩ = false := by simp [partB, ByteArray.toList_eq]
 rw [e2] at h
 exact absurd h (by decide)
theorem right_parts (p : ByteArray) (h : rightB p = true) : (∀ s ∈ splitL p, partB s = true) ∧ (splitL p).length ≤ 12 ∧ p.size ≤ 200 := by
 unfold rightB at h
 rw [Bool.and_eq_true, Bool.and_eq_true, decide_eq_true_iff, decide_eq_true_iff, List.all_eq_true] at h
 exact ⟨h.1.1, by omega, by omega⟩
theorem split_sub (p : ByteArray) (hg : ∀ s ∈ splitL p, partB s = true) (l : List ByteArray) (hl : ∀ s ∈ l, s ∈ splitL p) : splitL (joinB l ⟨#[47]⟩) = l :=
 split_joinB l (fun s hs => partB_ne s (hg s (hl s hs))) (fun s hs => split_no47 p s (hl s hs))
theorem par_parts (p : ByteArray) (hg : ∀ s ∈ splitL p, partB s = true) : splitL (parB p) = (splitL p).take ((splitL p).length - 1) ∧ splitL (parB p) ++ splitL (baseB p) = splitL p ∧ (parB p).size ≤ p.size ∧ (baseB p).size ≤ p.size := by
 have hsz : (parB p).size ≤ p.size ∧ (baseB p).size ≤ p.size := ⟨extract_le _ _ _, extract_le _ _ _⟩
 by_cases h : p.size = 0
 ·have e := (split_nil_iff p).2 h
  have e1 := (split_nil_iff (parB p)).2 (by omega)
  have e2 := (split_nil_iff (baseB p)).2 (by omega)
  rw [e, e1, e2]
  exact ⟨rfl, rfl, hsz⟩
 ·have e : splitL p = (splitTo p p.size).1 ++ [baseB p] := by rw [splitL, if_neg h]; rfl
  have e1 : splitL (parB p) = (splitTo p p.size).1 := by
   by_cases hf : (splitTo p p.size).2 = 0
   ·have h0 := (from_zero p p.size).2 hf
    have h1 : (parB p).size = 0 := by
     rw [parB, hf, ← toL_size, toL_extract]
     simp
    rw [(split_nil_iff _).2 h1, List.length_eq_zero_iff.1 h0]
   ·have hj := joinB_to p p.size (Nat.le_refl _) hf
    rw [parB, ← hj]
    exact split_sub p hg _ (fun s hs => by rw [e]; exact List.mem_append_left _ hs)
  have e2 : splitL (baseB p) = [baseB p] := by
   have := split_sub p hg [baseB p] (fun s hs => by rw [e]; exact List.mem_append_right _ hs)
   have ej : joinB [baseB p] ⟨#[47]⟩ = baseB p := by
    apply toL_inj
    rw [toL_joinB]
    simp [Lib.join_one]
   rw [ej] at this
   exact this
  refine ⟨?_, ?_, hsz⟩
  ·rw [e1, e]
   simp
  ·rw [e1, e2, ← e]
def goodP (L : List S35) (n : Nat) : Prop := srt (L.take n) ∧ (∀ j, ∀ h : j < L.length, j < n → aloneI L[j] = 0) ∧ ∀ j, ∀ h : j < L.length, j < n → dirsB (L.take j) (parB L[j].f0) = true
theorem step_facts20 (P : List S35) (last : Int) (x : S35) (h : stepC P last x = 0) : aloneI x = 0 ∧ ¬ (P ≠ [] ∧ x.f0 = (prev P).f0) ∧ ¬ (P ≠ [] ∧ cmpL (splitL x.f0) (splitL (prev P).f0) < 0) ∧ dirsB P (parB x.f0) = true := by
 unfold stepC at h
 by_cases h1 : aloneI x ≠ 0
 ·rw [if_pos h1] at h
  exact absurd h h1
 ·rw [if_neg h1] at h
  by_cases h2 : P ≠ [] ∧ x.f0 = (prev P).f0
  ·rw [if_pos h2] at h
   exact absurd h (by decide)
  ·rw [if_neg h2] at h
   by_cases h3 : P ≠ [] ∧ cmpL (splitL x.f0) (splitL (prev P).f0) < 0
   ·rw [if_pos h3] at h
    exact absurd h (by decide)
   ·rw [if_neg h3] at h
    by_cases h4 : dirsB P (parB x.f0) = false
    ·rw [if_pos h4] at h
     exact absurd h (by decide)
    ·exact ⟨Classical.not_not.1 h1, h2, h3, by revert h4; cases dirsB P (parB x.f0) <;> simp⟩
theorem good_l (L : List S35) : ∀ (m i : Nat) (last : Int), L.length - i = m → i ≤ L.length → checkG (L.take i) last (L.drop i) = 0 → goodP L i → goodP L L.length := by
 intro m
 induction m with
 | zero =>
  intro i last hm hi hc hg
  obtain rfl : i = L.length := by omega
  exact hg
 | succ m ih =>
  intro i last hm hi hc hg
  have hlt : i < L.length := by omega
  rw [List.drop_eq_getElem_cons hlt, checkG_cons] at hc
  by_cases hs : stepC (L.take i) last L[i] ≠ 0
  ·rw [if_pos hs] at hc
   exact absurd hc hs
  ·rw [if_neg hs, ← List.take_succ_eq_append_getElem hlt] at hc
   obtain ⟨s1, s2, s3, s4⟩ := step_facts20 _ _ _ (Classical.not_not.1 hs)
   refine ih (i + 1) _ (by omega) (by omega) hc ⟨step_srt L i hlt hg.1 s2 s3, fun j h hj => ?_, fun j h hj => ?_⟩
   ·by_cases e : j = i
    ·subst e
     exact s1
    ·exact hg.2.1 j h (by omega)
   ·by_cases e : j = i
    ·subst e
     exact s4
    ·exact hg.2.2 j h (by omega)
theorem good_check (L : List S35) (h : checkL20 L = 0) : goodP L L.length := by
 refine good_l L L.length 0 0 (by omega) (by omega) (by rw [List.take_zero, List.drop_zero]; exact h) ⟨?_, fun j _ hj => by omega, fun j _ hj => by omega⟩
 rw [List.take_zero]
 exact List.Pairwise.nil
theorem alone_path (x : S35) (h : aloneI x = 0) : rightB x.f0 = true ∧ x.f0.size ≠ 0 := by
 unfold aloneI at h
 by_cases h1 : rightB x.f0 = true ∧ x.f0.size ≠ 0
 ·exact h1
 ·rw [if_neg h1] at h
  exact absurd h (by decide)
theorem good_srt {L : List S35} (h : goodP L L.length) : srt L := by
 have := h.1
 rwa [List.take_length] at this
theorem anc20 (L : List S35) (h : goodP L L.length) : ∀ (n j : Nat), j ≤ n → ∀ hj : j < L.length, ∀ p : List ByteArray, preB p (splitL L[j].f0) = true → p ≠ [] → p.length < (splitL L[j].f0).length → ∃ i, ∃ hi : i < L.length, i < j ∧ splitL L[i].f0 = p ∧ L[i].f1 = 2 := by
 intro n
 induction n with
 | zero =>
  intro j hjn hj p hp hne hl
  obtain rfl : j = 0 := by omega
  have hd := h.2.2 0 hj hj
  have hpp := par_parts L[0].f0 (right_parts _ (alone_path _ (h.2.1 0 hj hj)).1).1
  unfold dirsB at hd
  rw [List.take_zero, List.any_nil, Bool.or_false, decide_eq_true_iff] at hd
  have he := (split_nil_iff (parB L[0].f0)).2 hd
  rw [hpp.1] at he
  have hll := congrArg List.length he
  rw [List.length_take, List.length_nil] at hll
  have : 0 < p.length := List.length_pos_iff.2 hne
  omega
 | succ n ih =>
  intro j hjn hj p hp hne hl
  have hd := h.2.2 j hj hj
  have hpp := par_parts L[j].f0 (right_parts _ (alone_path _ (h.2.1 j hj hj)).1).1
  have hpl : 0 < p.length := List.length_pos_iff.2 hne
  unfold dirsB at hd
  rw [Bool.or_eq_true, decide_eq_true_iff, List.any_eq_true] at hd
  rcases hd with hd | ⟨y, hy, hyd⟩
  ·have he := (split_nil_iff (parB L[j].f0)).2 hd
   rw [hpp.1] at he
   have hll := congrArg List.length he
   rw [List.length_take, List.length_nil] at hll
   omega
  ·rw [Bool.and_eq_true, decide_eq_true_iff, decide_eq_true_iff] at hyd
   obtain ⟨t, ht, rfl⟩ := List.getElem_of_mem hy
   rw [List.length_take] at ht
   rw [List.getElem_take] at hyd
   have htl : t < L.length := by omega
   have hs : splitL L[t].f0 = (splitL L[j].f0).take ((splitL L[j].f0).length - 1) := by rw [hyd.1, hpp.1]
   have hpe : (splitL L[j].f0).take p.length = p := by
    unfold preB at hp
    exact of_decide_eq_true hp
   by_cases e : p.length = (splitL L[j].f0).length - 1
   ·exact ⟨t, htl, by omega, by rw [hs, ← e, hpe], hyd.2⟩
   ·obtain ⟨i, hi, hit, h1, h2⟩ := ih t (by omega) htl p (by
     unfold preB
     rw [hs, List.take_take, Nat.min_eq_left (by omega), hpe]
     exact decide_eq_true rfl) hne (by rw [hs, List.length_take]; omega)
    exact ⟨i, hi, by omega, h1, h2⟩
theorem filter_prefix {α : Type} (p : α → Bool) : ∀ (M : List α), (∀ k j, k < j → ∀ hj : j < M.length, ∀ hk : k < M.length, p M[j] = true → p M[k] = true) → M.filter p = M.take (M.filter p).length
 | [], _ => rfl
 | x :: M, h => by
  by_cases hx : p x = true
  ·rw [List.filter_cons, if_pos hx, List.length_cons, List.take_succ_cons]
   congr 1
   exact filter_prefix p M (fun k j hkj hj hk hpj => h (k + 1) (j + 1) (by omega) (by simpa using hj) (by simpa using hk) hpj)
  ·have : (x :: M).filter p = [] := by
    rw [List.filter_eq_nil_iff]
    intro a ha hpa
    obtain ⟨t, ht, rfl⟩ := List.getElem_of_mem ha
    by_cases e : t = 0
    ·subst e
     exact hx hpa
    ·exact hx (h 0 t (by omega) ht (by simp) hpa)
   rw [this]
   rfl
theorem below_not_pre (top : ByteArray) (y : S35) (h : belowB top y = true) (h0 : top.size ≠ 0) : y.f0 ≠ top ∧ preB (splitL top) (splitL y.f0) = true ∧ (splitL top).length < (splitL y.f0).length := by
 rw [below_no top y h0, Bool.and_eq_true, decide_eq_true_iff] at h
 refine ⟨h.1, h.2, ?_⟩
 have hp := h.2
 unfold preB at hp
 have hp := of_decide_eq_true hp
 have hl := congrArg List.length hp
 rw [List.length_take] at hl
 by_cases e : (splitL top).length = (splitL y.f0).length
 ·rw [e, List.take_length] at hp
  exact absurd (split_same20 _ _ hp) h.1
 ·omega
theorem below_run (L : List S35) (h : goodP L L.length) (i : Nat) (hi : i < L.length) : belowL L L[i].f0 = (L.drop (i + 1)).take (belowL L L[i].f0).length := by
 have hs := good_srt h
 have hpw := List.pairwise_iff_getElem.1 hs
 have h0 : L[i].f0.size ≠ 0 := (alone_path _ (h.2.1 i hi hi)).2
 have hlow : (L.take i).filter (belowB L[i].f0) = [] := by
  rw [List.filter_eq_nil_iff]
  intro a ha hpa
  obtain ⟨t, ht, rfl⟩ := List.getElem_of_mem ha
  rw [List.length_take] at ht
  rw [List.getElem_take] at hpa
  have hb := below_not_pre _ _ hpa h0
  exact cmp_anti _ _ (hpw t i (by omega) hi (by omega)) (cmp_pre _ _ hb.2.1 hb.2.2)
 have hself : belowB L[i].f0 L[i] = false := by
  rw [below_no _ _ h0]
  simp
 have hdec : L = L.take i ++ L[i] :: L.drop (i + 1) := by rw [← List.drop_eq_getElem_cons hi, List.take_append_drop]
 have hf : belowL L L[i].f0 = (L.drop (i + 1)).filter (belowB L[i].f0) := by
  unfold belowL
  refine (congrArg (List.filter (belowB L[i].f0)) hdec).trans ?_
  rw [List.filter_append, hlow, List.nil_append, List.filter_cons, if_neg (by rw [hself]; decide)]
 rw [hf]
 refine filter_prefix _ _ (fun k j hkj hj hk hpj => ?_)
 rw [List.length_drop] at hj hk
 rw [List.getElem_drop] at hpj ⊢
 have hb := below_not_pre _ _ hpj h0
 have c1 := hpw i (i + 1 + k) hi (by omega) (by omega)
 have c2 := hpw (i + 1 + k) (i + 1 + j) (by omega) (by omega) (by omega)
 rw [below_no _ _ h0, Bool.and_eq_true, decide_eq_true_iff]
 refine ⟨fun e => ?_, cmp_mid _ _ _ hb.2.1 c1 c2⟩
 have := srt_distinct hs (i + 1 + k) i (by omega) hi e
 omega
theorem below_file (L : List S35) (h : goodP L L.length) (i : Nat) (hi : i < L.length) (hk : L[i].f1 ≠ 2) : belowL L L[i].f0 = [] := by
 have h0 : L[i].f0.size ≠ 0 := (alone_path _ (h.2.1 i hi hi)).2
 unfold belowL
 rw [List.filter_eq_nil_iff]
 intro a ha hpa
 obtain ⟨j, hj, rfl⟩ := List.getElem_of_mem ha
 have hb := below_not_pre _ _ hpa h0
 obtain ⟨t, ht, _, h1, h2⟩ := anc20 L h j j (Nat.le_refl _) hj _ hb.2.1 (fun e => h0 ((split_nil_iff _).1 e)) hb.2.2
 have := srt_distinct (good_srt h) t i ht hi (split_same20 _ _ h1)
 subst this
 exact hk h2
theorem below_all (L : List S35) : belowL L ⟨#[]⟩ = L := by
 unfold belowL
 rw [List.filter_eq_self]
 intro a _
 unfold belowB
 rfl
theorem find_at (L : List S35) (hl : L.length ≤ 1000) (i : Nat) (hi : i < L.length) (hd : ∀ t, ∀ ht : t < L.length, t < i → L[t].f0 ≠ L[i].f0) : ∀ (m t k : Nat), i - t = m → t ≤ i → m + 1 ≤ k → flist_Find.l0 k L[i].f0 L (L.length : Int) (t : Int) = some ((i : Int), true) := by
 intro m
 induction m with
 | zero =>
  intro t k hm ht hk
  obtain ⟨k, rfl⟩ : ∃ j, k = j + 1 := ⟨k - 1, by omega⟩
  obtain rfl : t = i := by omega
  rw [flist_Find.l0, if_pos (by omega), if_pos (by omega), if_pos (by omega), rd35_get L t hi, if_pos rfl]
 | succ m ih =>
  intro t k hm ht hk
  obtain ⟨k, rfl⟩ : ∃ j, k = j + 1 := ⟨k - 1, by omega⟩
  rw [flist_Find.l0, if_pos (by omega), if_pos (by omega), if_pos (by omega), rd35_get L t (by omega), if_neg (fun e => hd t (by omega) (by omega) ((tl_eq _ _).1 e)), wrapS35 t (by omega)]
  exact ih (t + 1) k (by omega) (by omega) (by omega)
theorem same_l (L : List S35) (hl : L.length ≤ 1000000) : ∀ (m t k : Nat), L.length - t = m → t ≤ L.length → m + 1 ≤ k → api_Entry_45.l0 k L L (L.length : Int) (t : Int) = some true := by
 intro m
 induction m with
 | zero =>
  intro t k hm ht hk
  obtain ⟨k, rfl⟩ : ∃ j, k = j + 1 := ⟨k - 1, by omega⟩
  rw [api_Entry_45.l0, if_neg (by omega)]
 | succ m ih =>
  intro t k hm ht hk
  obtain ⟨k, rfl⟩ : ∃ j, k = j + 1 := ⟨k - 1, by omega⟩
  rw [api_Entry_45.l0, if_pos (by omega), if_pos (by omega), if_pos (by omega), if_pos (by omega), if_neg (by simp), wrapS35 t (by omega)]
  exact ih (t + 1) k (by omega) (by omega) (by omega)
theorem same_refl (L : List S35) (hl : L.length ≤ 1000000) (k : Nat) (hk : L.length + 1 ≤ k) : flist_Same.f k L L = some true := by
 rw [flist_Same.f, api_Entry_45.f, if_pos rfl]
 have := same_l L hl L.length 0 k (by omega) (by omega) (by omega)
 rw [show ((0 : Nat) : Int) = 0 from rfl] at this
 rw [this]
 rfl
theorem below_ok (L : List S35) (hl : light20 L) (top : ByteArray) (ht : top.size ≤ 1000) : flist_Below.f L top = some (belowL L top) := if_pos ⟨by have := hl.1; omega, fun y hy => by have := hl.2 y hy; omega, by omega⟩
set_option maxHeartbeats 2000000 in
theorem places_l (L : List S35) (hl : light20 L) (h : goodP L L.length) : ∀ (m i k : Nat), L.length - i = m → i ≤ L.length → m + 5000 ≤ k → remoralaw20_FlistPlaces.l0 k L (i : Int) = some true := by
 have hlen := hl.1
 intro m
 induction m with
 | zero =>
  intro i k hm hi hk
  obtain ⟨k, rfl⟩ : ∃ j, k = j + 1 := ⟨k - 1, by omega⟩
  rw [remoralaw20_FlistPlaces.l0, if_neg (by omega), below_ok L hl ⟨#[]⟩ (Nat.zero_le _), below_all, Option.bind_some, same_refl L (by omega) k (by omega), Option.bind_some, if_pos rfl, awake20 k (by omega)]
  rfl
 | succ m ih =>
  intro i k hm hi hk
  obtain ⟨k, rfl⟩ : ∃ j, k = j + 1 := ⟨k - 1, by omega⟩
  have hlt : i < L.length := by omega
  have hx := hl.2 L[i] (List.getElem_mem hlt)
  have hfind : flist_Find.f k L L[i].f0 = some ((i : Int), true) := find_at L hlen i hlt (fun t ht hti e => by have := srt_distinct (good_srt h) t i ht hlt e; omega) i 0 k (by omega) (by omega) (by omega)
  obtain ⟨B, hB⟩ : ∃ B, belowL L L[i].f0 = B := ⟨_, rfl⟩
  have hrun := below_run L h i hlt
  have hfile := below_file L h i hlt
  rw [hB] at hrun hfile
  have hBl : B.length ≤ L.length - (i + 1) := by
   have := congrArg List.length hrun
   rw [List.length_take, List.length_drop] at this
   omega
  have e1 : wrap64 ((i : Int) + 1) = ((i + 1 : Nat) : Int) := wrapS35 i (by omega)
  have e2 : wrap64 (((i + 1 : Nat) : Int) + (B.length : Int)) = ((i + 1 + B.length : Nat) : Int) := by
   rw [wr64 _ (by omega) (by omega)]
   exact (Int.natCast_add (i + 1) B.length).symm
  have hcut : (L.take ((i + 1 + B.length : Nat) : Int).toNat).drop ((i + 1 : Nat) : Int).toNat = B := by
   rw [Int.toNat_natCast, Int.toNat_natCast, List.drop_take, Nat.add_sub_cancel_left]
   exact hrun.symm
  have hsame : flist_Same.f k B B = some true := same_refl B (by omega) k (by omega)
  have hnext := ih (i + 1) k (by omega) (by omega) (by omega)
  rw [remoralaw20_FlistPlaces.l0, if_pos (Int.ofNat_lt.2 hlt), if_pos (Int.natCast_nonneg i), rd35_get L i hlt, hfind, Option.bind_some, below_ok L hl _ (by omega), hB, Option.bind_some, if_pos rfl, if_pos rfl, e1, e2, hcut, hsame, hnext]
  have g1 : ¬ ((i + 1 + B.length : Nat) : Int) > (L.length : Int) := by omega
  have g2 : (0 : Int) ≤ ((i + 1 : Nat) : Int) := Int.natCast_nonneg _
  have g3 : ((i + 1 : Nat) : Int) ≤ ((i + 1 + B.length : Nat) : Int) := by omega
  have g4 : ((i + 1 + B.length : Nat) : Int) ≤ (L.length : Int) := by omega
  by_cases hk2 : L[i].f1 = 2
  ·rw [if_pos hk2, if_neg g1, if_pos g2, if_pos g3, if_pos g4, Option.bind_some, if_pos rfl]
  ·have hBn : B = [] := hfile hk2
   rw [if_neg hk2, if_neg (by rw [hBn]; decide), if_neg g1, if_pos g2, if_pos g3, if_pos g4, Option.bind_some, if_pos rfl]
theorem flistPlaces_f (L : List S35) (hL : L.length ≤ 9223372036854775807) : ∃ k, remoralaw20_FlistPlaces.f k L = some true := by
 refine ⟨L.length + 1003010000, ?_⟩
 obtain ⟨k, hk⟩ : ∃ k, k = L.length + 1003010000 := ⟨_, rfl⟩
 rw [← hk]
 obtain ⟨j, hj⟩ : ∃ j, k = j + 1 := ⟨k - 1, by omega⟩
 unfold remoralaw20_FlistPlaces.f
 rw [small_f L hL k (by omega), Option.bind_some]
 by_cases h : smallB L = true
 ·rw [if_pos h, flist_Check.f, if_pos (light_small h), Option.bind_some, hj, remoralaw20_FlistPlaces.j0]
  by_cases hc : checkL20 L = 0
  ·rw [hc, if_neg (by decide)]
   exact places_l L (light_small h) (good_check L hc) L.length 0 j (by omega) (by omega) (by have := (light_small h).1; omega)
  ·rw [if_pos (bne_iff_ne.2 hc), awake20 j (by omega)]
   rfl
 ·rw [if_neg h, hj, remoralaw20_FlistPlaces.j0, if_pos rfl, awake20 j (by omega)]
  rfl
end Go.Proofs.YtcdmgdegohcmhaaDoor.PA
namespace Go.Proofs.YtcdmgdegohcmhaaDoor.PA
open Go.RowKit Go.Proofs.YtcdmgdegohcmhaaDoorW.PrintWords Go.Proofs.YtcdmgdegohcmhaaDoorW.PrintLast Go.Proofs.YtcdmgdegohcmhaaDoorW.PrintMore
attribute [local go_sem] max2_int min2_int max_two min_two max_three min_three max_four min_four
set_option linter.unusedVariables false
set_option linter.unusedSimpArgs false
theorem bulk_pos {H : Type} : ∀ d : DataW H, 1 ≤ Rows.uptoBulk d
 | .lit (.string b) => by simp [Rows.uptoBulk]
 | .lit (.int _ _) => by simp [Rows.uptoBulk]
 | .lit (.bool _) => by simp [Rows.uptoBulk]
 | .lit (.float _ _) => by simp [Rows.uptoBulk]
 | .lit .nil => by simp [Rows.uptoBulk]
 | .nil => by simp [Rows.uptoBulk]
 | .ptr d => by simp [Rows.uptoBulk]
 | .slice _ _ => by simp [Rows.uptoBulk]
 | .agg _ => by simp [Rows.uptoBulk]
 | .iface _ _ => by simp [Rows.uptoBulk]
 | .map _ => by simp [Rows.uptoBulk]
 | .held _ => by simp [Rows.uptoBulk]
theorem bulk_len {H : Type} : ∀ l : List (DataW H), l.length ≤ Rows.uptoBulkAll l
 | [] => by simp [Rows.uptoBulkAll]
 | d :: r => by
  have h1 := bulk_pos d
  have h2 := bulk_len r
  simp only [List.length_cons, Rows.uptoBulkAll]
  omega
theorem bulk_mem {H : Type} : ∀ (l : List (DataW H)) (d : DataW H), d ∈ l → Rows.uptoBulk d ≤ Rows.uptoBulkAll l
 | [], d, h => by simp at h
 | e :: r, d, h => by
  simp only [Rows.uptoBulkAll]
  rcases List.mem_cons.1 h with rfl | h
  ·omega
  ·have := bulk_mem r d h
   omega
structure Opn {α : Type} (P : Program) (t : TypeId) (d : Kd α) (wf : Nat → α → Prop) : Prop where
 sz : d.sz = P.cellsOf t
 mono : ∀ n m a, n ≤ m → wf n a → wf m a
 op : ∀ {H : Type} (enc : TypeId × Value → H) (w : World) (base : Nat) (spare : Nat → Bool) (held : Bool) (fuel : Nat) (cs : List Value) (x : DataW H × List MemPlace), DataW.trod enc P w base spare held fuel t cs = some x → ∃ a, d.K w a cs ∧ wf (Rows.uptoBulk x.1) a
section
variable {P : Program} {t : TypeId}
theorem opn_int {k : IntKind} (ht : P.underlying t = some (.int k)) (hs : P.cellsOf t = 1) : Opn P t (Kd.int k) (fun _ a => (Lit.int k a).wf = true) where
 sz := hs.symm
 mono := fun _ _ _ _ h => h
 op := fun enc w base spare held fuel cs x h => by
  obtain ⟨n, rfl, rfl, hw⟩ := DataW.trod_int ht h
  exact ⟨n, rfl, hw⟩
theorem opn_string (ht : P.underlying t = some .string) (hs : P.cellsOf t = 1) : Opn P t Kd.string (fun n s => s.size < n ∧ s.size ≤ maxLen) where
 sz := hs.symm
 mono := fun _ _ _ h h' => ⟨Nat.lt_of_lt_of_le h'.1 h, h'.2⟩
 op := fun enc w base spare held fuel cs x h => by
  obtain ⟨s, rfl, rfl, hw⟩ := DataW.trod_string ht h
  refine ⟨s, rfl, ?_, hw⟩
  simp [Rows.uptoBulk]
theorem cells_get {w : World} {base : Nat} {a : Addr} {n : Nat} {cs : List Value} (h : w.cells? base a n = some cs) : cs.length = n ∧ ∀ i u, cs[i]? = some u → w.cell? (a.add i) = some u := by
 unfold World.cells? at h
 split at h
 ·refine ⟨by simpa using mapM_some_length h, fun i u hu => ?_⟩
  have hl := mapM_some_length h
  have hi : i < cs.length := (List.getElem?_eq_some_iff.1 hu).1
  have := mapM_some_get h i i (by rw [List.getElem?_range]; simp at hl; omega)
  rw [this, hu]
 ·cases h
theorem add_add (a : Addr) (i j : Nat) : (a.add i).add j = a.add (i + j) := by
 unfold Addr.add
 by_cases hi : i = 0 <;> by_cases hj : j = 0 <;> simp [hi, hj, Nat.add_assoc]
theorem opn_slice {α : Type} {e : TypeId} {d : Kd α} {wf : Nat → α → Prop} (ht : P.underlying t = some (.slice e)) (hs : P.cellsOf t = 1) (O : Opn P e d wf) :
  Opn P t (Kd.slice e d) (fun n xs => xs.length < n ∧ ∀ a ∈ xs, wf n a) where
 sz := hs.symm
 mono := fun n m a h h' => ⟨Nat.lt_of_lt_of_le h'.1 h, fun x hx => O.mono n m x h (h'.2 x hx)⟩
 op := fun enc w base spare held fuel cs x h => by
  rcases DataW.trod_slice ht h with ⟨rfl, rfl⟩ | ⟨a, len, cap, elems, rest, n, _, rfl, rfl, hb, hl, hm, hlen, hel, hsp, hns⟩
  ·exact ⟨[], ⟨none, 0, rfl, Nat.le_refl _, Kd.C_nil _ _⟩, by simp [Rows.uptoBulk], by simp⟩
  ·have each : ∀ i, i < len → ∃ y, elems[i]? = some y ∧ ∃ cs', w.cells? base (a.add (i * P.cellsOf e)) (P.cellsOf e) = some cs' ∧ ∃ v, d.K w v cs' ∧ wf (Rows.uptoBulk y.1) v := by
    intro i hi
    have h1 := hel i hi
    have h2 : elems[i]? = some (elems[i]'(by omega)) := List.getElem?_eq_getElem (by omega)
    rw [h2, Option.bind_eq_some_iff] at h1
    obtain ⟨cs', hc, ht'⟩ := h1
    obtain ⟨v, hv, hw⟩ := O.op enc w base spare held n cs' _ ht'
    exact ⟨_, h2, cs', hc, v, hv, hw⟩
   have ex : ∀ m, m ≤ len → ∃ xs : List α, xs.length = m ∧ ∀ i v, xs[i]? = some v → ∃ y, elems[i]? = some y ∧ ∃ cs', w.cells? base (a.add (i * P.cellsOf e)) (P.cellsOf e) = some cs' ∧ d.K w v cs' ∧ wf (Rows.uptoBulk y.1) v := by
    intro m
    induction m with
    | zero => exact fun _ => ⟨[], rfl, by simp⟩
    | succ m ih =>
     intro hm'
     obtain ⟨xs, hx, hg⟩ := ih (by omega)
     obtain ⟨y, hy, cs', hc, v, hv, hw⟩ := each m (by omega)
     refine ⟨xs ++ [v], by simp [hx], fun i u hu => ?_⟩
     by_cases hi : i < xs.length
     ·rw [List.getElem?_append_left hi] at hu
      exact hg i u hu
     ·rw [List.getElem?_append_right (by omega)] at hu
      have hi' : i = m := by
       have := (List.getElem?_eq_some_iff.1 hu).1
       simp at this
       omega
      subst hi'
      rw [hx, Nat.sub_self] at hu
      have : v = u := by simpa using hu
      subst this
      exact ⟨y, hy, cs', hc, hv, hw⟩
   obtain ⟨xs, hx, hg⟩ := ex len (Nat.le_refl _)
   have htot : Rows.uptoBulkAll (elems.map (·.1)) + 1 ≤ Rows.uptoBulk (DataW.slice (elems.map (·.1)) (rest.map (·.1))) := by
    simp only [Rows.uptoBulk]
    omega
   refine ⟨xs, ⟨some a, cap, by rw [hx], by omega, ⟨rfl, by unfold maxLen at hm; omega, fun _ => ⟨a, rfl, fun j p hp => ?_⟩⟩⟩, ?_, ?_⟩
   ·obtain ⟨y, hy, cs', hc, hk, hw⟩ := hg j p hp
    obtain ⟨g1, g2⟩ := cells_get hc
    refine ⟨cs', by rw [g1, O.sz], hk, fun i u hu => ?_⟩
    have := g2 i u hu
    rw [add_add] at this
    rw [O.sz]
    exact this
   ·have h1 := bulk_len (elems.map (·.1))
    simp only [List.length_map, hlen] at h1
    rw [hx]
    exact Nat.lt_of_lt_of_le (Nat.lt_succ_of_le h1) htot
   ·intro v hv
    obtain ⟨i, hi⟩ := List.getElem?_of_mem hv
    obtain ⟨y, hy, _, _, _, hw⟩ := hg i v hi
    refine O.mono _ _ _ ?_ hw
    have hmem : y.1 ∈ elems.map (·.1) := List.mem_map_of_mem (List.mem_of_getElem? hy)
    exact Nat.le_trans (bulk_mem _ _ hmem) (Nat.le_of_succ_le htot)
def OpnF {α : Type} (P : Program) (fs : List Field) (o : Nat) (d : Kd α) (wf : Nat → α → Prop) : Prop :=
 (∀ n m a, n ≤ m → wf n a → wf m a) ∧
 ∀ {H : Type} (enc : TypeId × Value → H) (w : World) (base : Nat) (spare : Nat → Bool) (held : Bool) (fuel : Nat) (cs : List Value) (ys : List (DataW H × List MemPlace)) (N : Nat),
  (∀ (i : Nat) (f : Field), fs[i]? = some f → ∃ y, ys[i]? = some y ∧ Rows.uptoBulk y.1 ≤ N ∧ DataW.trod enc P w base spare held fuel f.type ((cs.drop f.offset).take (P.cellsOf f.type)) = some y) →
  ∃ a, d.K w a ((cs.drop o).take d.sz) ∧ wf N a
theorem opnF_one {α : Type} {d : Kd α} {wf : Nat → α → Prop} {f : Field} {o : Nat} (ho : f.offset = o) (O : Opn P f.type d wf) : OpnF P [f] o d wf := by
 refine ⟨O.mono, fun enc w base spare held fuel cs ys N h => ?_⟩
 obtain ⟨y, hy, hN, ht⟩ := h 0 f rfl
 obtain ⟨a, ha, hw⟩ := O.op enc w base spare held fuel _ y ht
 refine ⟨a, ?_, O.mono _ _ _ hN hw⟩
 rw [O.sz, ← ho]
 exact ha
theorem opnF_cons {α β : Type} {d : Kd α} {d' : Kd β} {wf : Nat → α → Prop} {wf' : Nat → β → Prop} {f : Field} {fs : List Field} {o o' : Nat} (ho : f.offset = o) (O : Opn P f.type d wf) (he : o' = o + d.sz) (F : OpnF P fs o' d' wf') :
  OpnF P (f :: fs) o (Kd.pair d d') (fun n x => wf n x.1 ∧ wf' n x.2) := by
 refine ⟨fun n m a h h' => ⟨O.mono _ _ _ h h'.1, F.1 _ _ _ h h'.2⟩, fun enc w base spare held fuel cs ys N h => ?_⟩
 obtain ⟨y, hy, hN, ht⟩ := h 0 f rfl
 obtain ⟨a, ha, hw⟩ := O.op enc w base spare held fuel _ y ht
 obtain ⟨b, hb, hw'⟩ := F.2 enc w base spare held fuel cs (ys.drop 1) N (fun i g hg => by
  obtain ⟨z, hz, h1, h2⟩ := h (i + 1) g (by simpa using hg)
  refine ⟨z, ?_, h1, h2⟩
  rw [List.getElem?_drop, Nat.add_comm]
  exact hz)
 refine ⟨(a, b), ⟨(cs.drop o).take d.sz, (cs.drop o').take d'.sz, ?_, ?_, hb⟩, O.mono _ _ _ hN hw, hw'⟩
 ·show (cs.drop o).take (d.sz + d'.sz) = _
  rw [List.take_add, List.drop_drop, he]
 ·rw [O.sz, ← ho]
  exact ha
theorem opn_struct {α β : Type} {fs : Array Field} {d : Kd α} {wf : Nat → α → Prop} (f : β → α) (g : α → β) (hfg : ∀ a, f (g a) = a) (ht : P.underlying t = some (.struct fs)) (F : OpnF P fs.toList 0 d wf) (hs : d.sz = P.cellsOf t) :
  Opn P t (Kd.iso d f) (fun n x => wf n (f x)) where
 sz := hs
 mono := fun n m a h h' => F.1 n m (f a) h h'
 op := fun enc w base spare held fuel cs x h => by
  obtain ⟨xs, n, rfl, rfl, hl, hlen, hf⟩ := DataW.trod_struct ht h
  obtain ⟨a, ha, hw⟩ := F.2 enc w base spare held n cs xs (Rows.uptoBulk (DataW.agg (xs.map (·.1)))) (fun i q hq => by
   have h1 := hf i q (by simpa using hq)
   have hi : i < xs.length := by
    have := (List.getElem?_eq_some_iff.1 hq).1
    simp at this
    omega
   rw [List.getElem?_eq_getElem hi] at h1
   refine ⟨_, List.getElem?_eq_getElem hi, ?_, h1⟩
   have hmem : (xs[i]).1 ∈ xs.map (·.1) := List.mem_map_of_mem (List.getElem_mem hi)
   have := bulk_mem _ _ hmem
   simp only [Rows.uptoBulk]
   omega)
  refine ⟨g a, ?_, by rw [hfg]; exact hw⟩
  show d.K w (f (g a)) cs
  rw [hfg]
  rw [List.drop_zero, hs, ← hl, List.take_length] at ha
  exact ha
end
end Go.Proofs.YtcdmgdegohcmhaaDoor.PA
namespace Go.Proofs.YtcdmgdegohcmhaaDoor.PA
open Go.RowKit Go.Proofs.YtcdmgdegohcmhaaDoorW.PrintWords Go.Proofs.YtcdmgdegohcmhaaDoorW.PrintLast Go.Proofs.YtcdmgdegohcmhaaDoorW.PrintMore
attribute [local go_sem] max2_int min2_int max_two min_two max_three min_three max_four min_four
set_option linter.unusedVariables false
set_option linter.unusedSimpArgs false
theorem tabW_laid {W : World} (h : laidMetH Tryd.prog [("remora/crc.table", Go.Proofs.YtcdmgdegohcmhaaDoor.Rows.laid_remora_crc_table)] W) : TabW W := by
 rw [MakeChecks.laidMetH_plain _ _ _ (by kernel_rfl)] at h
 obtain ⟨ps, ⟨g, t, cs, fuel, p, q, hg, ht, hv, hd, _, _⟩, _, _⟩ := h
 obtain rfl := Option.some.inj ((show Tryd.prog.globalNamed "remora/crc.table" = some 1 by kernel_rfl).symm.trans hg)
 obtain rfl := Option.some.inj ((show (Tryd.prog.globals[1]?).map (·.type) = some 103 by kernel_rfl).symm.trans ht)
 obtain ⟨xs, m, _, ex, _, hl, hel⟩ := DataW.trod_array Tryd.underlying103 hd
 have c5 : Tryd.prog.cellsOf 57 = 1 := by kernel_rfl
 intro r hr
 have hE := hel r hr
 rw [c5, Nat.mul_one, List.getElem?_eq_getElem (by omega)] at hE
 obtain ⟨z, e1, e2, _⟩ := DataW.trod_int Tryd.underlying57 hE
 have hlen : tabN.length = 16 := by kernel_rfl
 have e3 : (xs.map (·.1)) = tabN.map fun n => .lit (.int .u32 n) := (DataW.agg.inj (Prod.mk.inj ex).1).symm
 have e4 : (xs.map (·.1))[r]? = (tabN.map fun n => (DataW.lit (.int .u32 n) : DataW Unit))[r]? := by rw [e3]
 rw [List.getElem?_map, List.getElem?_map, List.getElem?_eq_getElem (by omega : r < xs.length), List.getElem?_eq_getElem (by omega : r < tabN.length), e2] at e4
 have hz : z = tabN.getD r 0 := by
  simp only [Option.map_some, Option.some.injEq, DataW.lit.injEq, Lit.int.injEq, true_and] at e4
  rw [e4, List.getD, List.getElem?_eq_getElem (by omega : r < tabN.length)]; rfl
 rw [World.var?_cell hg hv r, ← hz]
 have : cs.toList[r]? = some (.int .u32 z) := by
  have h0 : ((cs.toList.drop r).take 1)[0]? = some (.int .u32 z) := by rw [e1]; rfl
  simpa using h0
 simpa using this
end Go.Proofs.YtcdmgdegohcmhaaDoor.PA
namespace Go.Proofs.YtcdmgdegohcmhaaDoor.PA
open Go.RowKit Go.Proofs.YtcdmgdegohcmhaaDoorW.PrintWords Go.Proofs.YtcdmgdegohcmhaaDoorW.PrintLast Go.Proofs.YtcdmgdegohcmhaaDoorW.PrintMore
attribute [local go_sem] max2_int min2_int max_two min_two max_three min_three max_four min_four
set_option linter.unusedVariables false
set_option linter.unusedSimpArgs false
def wf33 (n : Nat) (x : S33) : Prop := ((Lit.int .i64 x.f0).wf = true) ∧ ((Lit.int .i64 x.f1).wf = true) ∧ ((Lit.int .i64 x.f2).wf = true) ∧ ((Lit.int .i64 x.f3).wf = true) ∧ ((Lit.int .i64 x.f4).wf = true)
theorem opn33 : Opn Tryd.prog 33 k33 wf33 := opn_struct (fun x : S33 => (x.f0, x.f1, x.f2, x.f3, x.f4)) (fun a => (⟨a.1, a.2.1, a.2.2.1, a.2.2.2.1, a.2.2.2.2⟩ : S33)) (fun _ => rfl) Tryd.underlying33 (opnF_cons rfl (opn_int Tryd.underlying3 (by kernel_rfl)) rfl (opnF_cons rfl (opn_int Tryd.underlying3 (by kernel_rfl)) rfl (opnF_cons rfl (opn_int Tryd.underlying3 (by kernel_rfl)) rfl (opnF_cons rfl (opn_int Tryd.underlying3 (by kernel_rfl)) rfl (opnF_one rfl (opn_int Tryd.underlying3 (by kernel_rfl))))))) (by kernel_rfl)
def wf35 (n : Nat) (x : S35) : Prop := (x.f0.size < n ∧ x.f0.size ≤ maxLen) ∧ ((Lit.int .i64 x.f1).wf = true) ∧ ((Lit.int .i64 x.f2).wf = true) ∧ (wf33 n x.f3) ∧ (x.f4.size < n ∧ x.f4.size ≤ maxLen) ∧ (x.f5.size < n ∧ x.f5.size ≤ maxLen) ∧ ((Lit.int .i64 x.f6).wf = true)
theorem opn35 : Opn Tryd.prog 35 k35 wf35 := opn_struct (fun x : S35 => (x.f0, x.f1, x.f2, x.f3, x.f4, x.f5, x.f6)) (fun a => (⟨a.1, a.2.1, a.2.2.1, a.2.2.2.1, a.2.2.2.2.1, a.2.2.2.2.2.1, a.2.2.2.2.2.2⟩ : S35)) (fun _ => rfl) Tryd.underlying35 (opnF_cons rfl (opn_string Tryd.underlying9 (by kernel_rfl)) rfl (opnF_cons rfl (opn_int Tryd.underlying3 (by kernel_rfl)) rfl (opnF_cons rfl (opn_int Tryd.underlying3 (by kernel_rfl)) rfl (opnF_cons rfl opn33 rfl (opnF_cons rfl (opn_string Tryd.underlying9 (by kernel_rfl)) rfl (opnF_cons rfl (opn_string Tryd.underlying9 (by kernel_rfl)) rfl (opnF_one rfl (opn_int Tryd.underlying3 (by kernel_rfl))))))))) (by kernel_rfl)
theorem flistPlaces_law (w : World) (hT : TabW w) (A0 : Option Addr) (c0 : Nat) (x0 : List S35) (hC : Kd.C k35 w A0 x0.length x0) (hL : x0.length ≤ c0) (hw : ∃ n, x0.length < n ∧ ∀ a ∈ x0, wf35 n a) :
  Calls Tryd.prog 5 #[.slice A0 x0.length c0] w fun e w' => e = .returned (.bool true) ∧ Below w.heap.size w w' := by
 obtain ⟨k, hk⟩ := flistPlaces_f x0 hC.2.1
 exact remoralaw20_FlistPlaces.calls k A0 c0 x0 true w hC hL hk hT
end Go.Proofs.YtcdmgdegohcmhaaDoor.PA
namespace Go.Proofs.YtcdmgdegohcmhaaDoor.flistPlacesRow
open Go.ChangeShapes Go.WideShapes Go.ChangeAt Go.RowKit Go.Proofs.YtcdmgdegohcmhaaDoor.PA Go.Proofs.YtcdmgdegohcmhaaDoorW.PrintWords Go.Proofs.YtcdmgdegohcmhaaDoorW.PrintLast Go.Proofs.YtcdmgdegohcmhaaDoorW.PrintMore
open Go.ChangeMaps (open_string shut_string)
theorem own : ownKnob Tryd.prog.godebug = none := by kernel_rfl
theorem laidOut : laidOutB Tryd.prog = true := by kernel_rfl
set_option linter.unusedSimpArgs false in
set_option maxHeartbeats 1000000 in
set_option maxRecDepth 100000 in
theorem lifted (os : Os) (started : os.Started) (H : Type) (enc : TypeId × Value → H) :
  ReturnsInHanded {} Tryd.checked os 5 .any (fun w args => (Rows.flistPlacesSpec.pre enc Tryd.prog Tryd.f5 Rows.flistPlacesRow.domain false w args ∧ laidMetH Tryd.prog Rows.flistPlacesRow.laid w) ∧ sizedMet enc Tryd.prog Tryd.f5 (OpenSpec.ofChange Rows.flistPlacesSpec) false w args)
   (Rows.flistPlacesSpec.post enc Tryd.prog Tryd.f5 false true false false) := by
 refine returnsInHanded_of_change_and (C := Tryd.checked) (X := fun w _ => laidMetH Tryd.prog Rows.flistPlacesRow.laid w) (fun _ _ _ hh h => h.of_heap hh) own started (by kernel_rfl) Tryd.func5
  (ChangeSpec.witness_shaped (enc := enc) (C := Tryd.checked) (os := os) (X := fun w _ => laidMetH Tryd.prog Rows.flistPlacesRow.laid w) false (World.laidAll Tryd.prog os Rows.flistPlacesRow.laid) #[.slice none 0 0] 8 (World.laidAll_os _ _ _)
   (World.shaped_of_ZipB (by kernel_rfl) (by kernel_rfl)) (by kernel_rfl) (by kernel_rfl) (by kernel_rfl)
   (by rw [MakeChecks.laidMetH_plain _ _ _ (by kernel_rfl)]; exact laidMet_laidAll _ (by kernel_rfl) (by kernel_rfl))) ?_
 intro W base args ds gs before hval0 hW hcnd _ hL_ _
 have hval : ∀ (j : Nat) t v, Tryd.f5.params[j]? = some t → args[j]? = some v → Value.okWide Tryd.prog W .any base t v := hval0
 have hW' := hW
 obtain ⟨p, q, hA0, hV, rfl, hfz, hnd⟩ := hW
 have hA : DataW.TrodAll enc Tryd.prog W 0 (fun _ => true) true Tryd.f5.params.toList args.toList ds p := hA0
 rw [Tryd.params5] at hA hval
 obtain ⟨v0, vs0, d0, ds0, p0, q0, hargs, rfl, rfl, h0, r0⟩ := trodAll_cons hA
 obtain ⟨rfl, rfl, rfl⟩ := trodAll_nil r0
 obtain rfl : args = #[v0] := by cases args; simp_all
 obtain ⟨rfl, rfl⟩ := trodVars_none hV
 obtain ⟨A0, l0, c0, rfl⟩ := okWide_slice Tryd.underlying22 (hval 0 22 v0 rfl rfl)
 have k0 := h0
 have lt0 : ∀ x ∈ p0, x.block < W.heap.size := by obtain ⟨m, hm⟩ := k0; exact DataW.trod_lt m _ _ _ hm
 obtain ⟨fu0, hf0⟩ := h0
 obtain ⟨x0, hk0, hw0⟩ := (show Opn Tryd.prog 22 (Kd.slice 35 k35) (fun n x => x.length < n ∧ ∀ a ∈ x, wf35 n a) from (opn_slice Tryd.underlying22 (by kernel_rfl) opn35)).op enc W 0 _ true fu0 _ _ hf0
 obtain ⟨A_, c_, e0, hL0, hC0⟩ := hk0
 simp only [Value.cells, Array.toList, List.cons.injEq, Value.slice.injEq, and_true] at e0
 obtain ⟨rfl, rfl, rfl⟩ := e0
 refine (flistPlaces_law W (tabW_laid hL_) A0 c0 x0 hC0 hL0 ⟨Rows.uptoBulk d0, hw0⟩).mono fun e W' ⟨he, bel⟩ => ?_
 subst he
 exact ⟨_, rfl, _, _, _, [], _, [], hW', trodAll_mk1 (shut_bool Tryd.underlying4 _), (trodAll_cons_mk (Below.trod laidOut (by kernel_rfl) (of_decide_eq_true (by kernel_rfl)) k0 bel lt0) trodAll_mk0), rfl, bel.frame _, fun h => by cases h⟩
theorem over : Rows.flistPlacesRow.holds Tryd.pinned (OpenSpec.ofChange Rows.flistPlacesSpec) :=
 OpenClaim.holds_of_wide 5 Tryd.f5 rfl rfl rfl rfl rfl rfl rfl ⟨rfl, rfl, rfl, rfl, rfl⟩ rfl rfl rfl rfl rfl (by kernel_rfl) Tryd.func5 (by kernel_rfl)
  (of_decide_eq_true (by kernel_rfl)) (by unfold Func.isWrapper; first | (rw [if_pos (by decide +kernel)]; kernel_rfl) | (rw [if_neg (by decide +kernel)]; exact ⟨rfl, rfl⟩))
  (fun os started H enc _ => lifted os started H enc)
theorem proved : Rows.FlistPlacesSaid := over
theorem card : Rows.FlistPlacesCardSaid :=
 Claim7.holds_tied_plain_at .later [] _ _ _ _ proved (fun _ h => by cases h) (by kernel_rfl) (fun _ h => by cases h) flistPlaces_row_tie rfl ⟨rfl, rfl⟩ (by kernel_rfl) rfl
  (fun f fn hf hfn => by
   obtain rfl : f = 5 := Option.some.inj ((show Tryd.prog.funcNamed "remora/remoralaw20.FlistPlaces" = some 5 by kernel_rfl).symm.trans hf) |>.symm
   obtain rfl : fn = Tryd.f5 := (Option.some.inj (Tryd.func5.symm.trans hfn)).symm
   exact ⟨by kernel_rfl, fun j t ht => by
    rw [Tryd.params5] at ht
    have hm : t ∈ [22] := by simpa using Array.mem_of_getElem? ht
    have hall : ([22].all fun u => !Tryd.prog.wantsStandIn u) = true := by kernel_rfl
    exact (show Tryd.prog.wantsStandIn t = false by simpa using List.all_eq_true.1 hall t hm)⟩)
  (by kernel_rfl)
#print axioms card
end Go.Proofs.YtcdmgdegohcmhaaDoor.flistPlacesRow
namespace Go.Proofs.YtcdmgdegohcmhaaDoor
theorem flistPlaces_holds : Rows.FlistPlacesCardSaid := flistPlacesRow.card
end Go.Proofs.YtcdmgdegohcmhaaDoor
namespace Go.Proofs.YtcdmgdegohcmhaaDoor.PA
end Go.Proofs.YtcdmgdegohcmhaaDoor.PA
