/- FlistFinds: for any list the law returns true and leaves its arguments as they were. The table of package crc is laid. -/
import Derived.Test.YtcdmgdegohcmhaaDoorNG1
import Derived.Test.YtcdmgdegohcmhaaDoorNG6
import Derived.Test.YtcdmgdegohcmhaaDoorNG3
import Derived.Test.YtcdmgdegohcmhaaDoorNG7
import Derived.Test.YtcdmgdegohcmhaaDoorNG4
import Derived.BigQuiet
import Derived.Deep.QuietTactic
import Derived.Great.BuildSlice
import Derived.Laws.AppendOwn
import Derived.Lib.ConvBytes
import Derived.Outline
import Derived.Test.YtcdmgdegohcmhaaDoorNG5
import Derived.Laws.BitsAllLaws
import Derived.Laws.BitsLemmas
import Derived.ProofKit
import Derived.Test.YtcdmgdegohcmhaaDoorRows
import Derived.WalkKit
import Derived.Below
import Derived.Carry
import Derived.ChangeOld
import Derived.LaidMore
import Derived.Lay
import Derived.OpenShut
import Derived.SevenTiedAt
import Derived.ShutString
import Derived.SizedLaws
import Derived.Stop.Joined
import Derived.Test.YtcdmgdegohcmhaaDoorCards
import Derived.Test.YtcdmgdegohcmhaaDoorTie
namespace Go.Proofs.YtcdmgdegohcmhaaDoor.PA
open Go.RowKit Go.Proofs.YtcdmgdegohcmhaaDoorW.PrintWords Go.Proofs.YtcdmgdegohcmhaaDoorW.PrintLast Go.Proofs.YtcdmgdegohcmhaaDoorW.PrintMore
attribute [local go_sem] max2_int min2_int max_two min_two max_three min_three max_four min_four   -- for this text's walks alone
set_option linter.unusedVariables false
set_option linter.unusedSimpArgs false
mutual
def remoralaw20_FlistFinds.j0 : Nat → List (S35) → ByteArray → Bool → Option (Bool)
 | 0, _, _, _ => none
 | k + 1, x0, x1, x21 => if x21 = true then ((remoralaw20_awake.f k).bind fun t102 => (some t102)) else ((some (([] : List (S35)) : List (S35))).bind fun y103 => (if y103.length + x0.length < 1256584717458 then ((some (y103 ++ x0 : List (S35))).bind fun y106 => ((flist_Find.f k x0 x1).bind fun bt109 => ((remoraref20_Find.f k x0 x1).bind fun bt111 => ((flist_Below.f x0 x1).bind fun t113 => ((flist_Sort.f x0).bind fun t116 => (if bt109.1 = bt111.1 then (if (bt109.2 != bt111.2) = true then (remoralaw20_FlistFinds.j1 k x0 y106 t113 t116 true) else ((remoraref20_Below.f k x0 x1).bind fun t119 => ((remoraref20_Same.f k t113 t119).bind fun t122 => (if t122 = true then ((remoraref20_Sort.f k x0).bind fun t123 => ((remoraref20_Same.f k t116 t123).bind fun t126 => (if t126 = true then ((flist_Same.f k t113 t116).bind fun t127 => ((remoraref20_Same.f k t113 t116).bind fun t128 => (if (t127 != t128) = true then (remoralaw20_FlistFinds.j1 k x0 y106 t113 t116 true) else ((flist_Same.f k x0 x0).bind fun t129 => (remoralaw20_FlistFinds.j1 k x0 y106 t113 t116 (!t129)))))) else (remoralaw20_FlistFinds.j1 k x0 y106 t113 t116 true)))) else (remoralaw20_FlistFinds.j1 k x0 y106 t113 t116 true))))) else (remoralaw20_FlistFinds.j1 k x0 y106 t113 t116 true))))))) else (none)))
def remoralaw20_FlistFinds.j1 : Nat → List (S35) → List (S35) → List (S35) → List (S35) → Bool → Option (Bool)
 | 0, _, _, _, _, _ => none
 | k + 1, x0, x5, x10, x11, x80 => if x80 = true then (some false) else (remoralaw20_FlistFinds.l0 k x0 x5 x10 x11 0)
def remoralaw20_FlistFinds.l0 : Nat → List (S35) → List (S35) → List (S35) → List (S35) → Int → Option (Bool)
 | 0, _, _, _, _, _ => none
 | k + 1, x0, x5, x10, x11, x12 => if x12 < (x10.length : Int) then (if 0 ≤ x12 then (remoralaw20_FlistFinds.l0 k x0 x5 (x10.set (x12 : Int).toNat (⟨(⟨#[63]⟩ : ByteArray), (rd_T35 x10 x12).f1, (rd_T35 x10 x12).f2, (⟨(rd_T35 x10 x12).f3.f0, (rd_T35 x10 x12).f3.f1, (rd_T35 x10 x12).f3.f2, (rd_T35 x10 x12).f3.f3, (rd_T35 x10 x12).f3.f4⟩ : S33), (rd_T35 x10 x12).f4, (rd_T35 x10 x12).f5, (rd_T35 x10 x12).f6⟩ : S35)) x11 (wrap64 (x12 + 1))) else (none)) else (remoralaw20_FlistFinds.l1 k x0 x5 x11 0)
def remoralaw20_FlistFinds.l1 : Nat → List (S35) → List (S35) → List (S35) → Int → Option (Bool)
 | 0, _, _, _, _ => none
 | k + 1, x0, x5, x11, x13 => if x13 < (x11.length : Int) then (if 0 ≤ x13 then (remoralaw20_FlistFinds.l1 k x0 x5 (x11.set (x13 : Int).toNat (⟨(⟨#[63]⟩ : ByteArray), (rd_T35 x11 x13).f1, (rd_T35 x11 x13).f2, (⟨(rd_T35 x11 x13).f3.f0, (rd_T35 x11 x13).f3.f1, (rd_T35 x11 x13).f3.f2, (rd_T35 x11 x13).f3.f3, (rd_T35 x11 x13).f3.f4⟩ : S33), (rd_T35 x11 x13).f4, (rd_T35 x11 x13).f5, (rd_T35 x11 x13).f6⟩ : S35)) (wrap64 (x13 + 1))) else (none)) else ((remoraref20_Same.f k x0 x5).bind fun t132 => (if t132 = true then ((remoralaw20_awake.f k).bind fun t133 => (some t133)) else (some false)))
end
def remoralaw20_FlistFinds.f (k : Nat) (l0 : List (S35)) (a1 : ByteArray) : Option (Bool) := (remoraref20_Small.f k l0).bind fun t101 => (if t101 = true then (remoralaw20_FlistFinds.j0 k l0 a1 (decide ((a1.size : Int) > 600))) else (remoralaw20_FlistFinds.j0 k l0 a1 true))
set_option maxHeartbeats 8000000 in
set_option maxRecDepth 100000 in
theorem remoralaw20_FlistFinds.calls (k : Nat) (A0 : Option Addr) (c0 : Nat) (l0 : List (S35)) (a1 : ByteArray) (r : Bool) (w : World) (hr0 : Kd.C k35 w A0 l0.length l0) (hc0 : l0.length ≤ c0) (h : remoralaw20_FlistFinds.f k l0 a1 = some r) (hT_ : TabW w) :
  Calls Tryd.prog 9 #[.slice A0 l0.length c0, .string a1] w fun e w' => e = .returned (.bool r) ∧ Below w.heap.size w w' := by
 have HR0 := Aside0.mk hr0
 have HC0 := Aside0.mk hc0
 clear hr0 hc0
 have HT := Aside0.mk hT_
 clear hT_
 have HB := Aside0.mk (Below.refl w.heap.size w)
 have H : ((remoraref20_Small.f k l0).bind fun t101 => (if t101 = true then (remoralaw20_FlistFinds.j0 k l0 a1 (decide ((a1.size : Int) > 600))) else (remoralaw20_FlistFinds.j0 k l0 a1 true))) = some r := h
 clear h
 have HC3 := Aside0.mk H
 clear H
 go_enter Tryd.func9, Tryd.ntmps9
 go_upto_region 1 with (fail)
 go_cut [21] (fun v21 wc => ∃ (kq : Nat) (x21_2 : Bool), v21 = .bool x21_2 ∧ Aside0 (remoralaw20_FlistFinds.j0 kq l0 a1 x21_2 = some r) ∧ Aside0 (kq ≤ k) ∧ Aside0 (Below w.heap.size w wc))
 case first =>
  have H := HC3.out
  clear HC3
  replace H := Option.bind_eq_some_iff.mp H
  obtain ⟨t101, A40, H⟩ := H
  replace H : (if t101 = true then (remoralaw20_FlistFinds.j0 k l0 a1 (decide ((a1.size : Int) > 600))) else (remoralaw20_FlistFinds.j0 k l0 a1 true)) = some r := H
  have A4 := Aside0.mk A40
  clear A40
  by_cases c5 : t101 = true
  ·subst c5
   have H1 : (remoralaw20_FlistFinds.j0 k l0 a1 (decide ((a1.size : Int) > 600))) = some r := by rw [if_pos rfl] at H; exact H
   clear H
   have H := H1
   clear H1
   have H' := Aside0.mk H
   clear H
   go_wp2_with (first | ((with_reducible refine gate_callee (f := 10) rfl ?_); refine goesL_ (some 15) rfl rfl Tryd.func10 (by kernel_rfl) rfl #[.slice A0 l0.length c0] rfl (by (try simp only [List.map_toArray, List.map_cons, List.map_nil]); first | done | rfl | (simp only [List.length_drop, List.length_take]; rfl)) ?_; (with_reducible refine (remoraref20_Small.calls k _ _ l0 true _ ?side1 ?side2 A4.out).mono ?_); (case side1 => repeat (first | exact (Kd.C_below HR0.out HB.out) | (with_reducible refine Kd.C_alloc ?_ _) | (with_reducible refine Kd.C_drewN ?_ _) | (with_reducible refine Kd.C_drew ?_))); (case side2 => exact HC0.out); rintro e w' ⟨rfl, ⟨nd, rfl⟩⟩; refine ⟨_, rfl, ?_⟩))
   go_meet
   case rel => exact ⟨_, (decide ((a1.size : Int) > 600)), (by first | rfl | (simp; done) | (simp [*]; done)), H', ⟨by first | omega | exact Nat.le_refl _⟩, ⟨upB HB.out⟩⟩
  replace c5 := Bool.eq_false_iff.mpr c5
  subst c5
  have H1 : (remoralaw20_FlistFinds.j0 k l0 a1 true) = some r := by rw [if_neg (show ¬ (false = true) by decide)] at H; exact H
  clear H
  have H := H1
  clear H1
  have H' := Aside0.mk H
  clear H
  go_wp2_with (first | ((with_reducible refine gate_callee (f := 10) rfl ?_); refine goesL_ (some 15) rfl rfl Tryd.func10 (by kernel_rfl) rfl #[.slice A0 l0.length c0] rfl (by (try simp only [List.map_toArray, List.map_cons, List.map_nil]); first | done | rfl | (simp only [List.length_drop, List.length_take]; rfl)) ?_; (with_reducible refine (remoraref20_Small.calls k _ _ l0 false _ ?side1 ?side2 A4.out).mono ?_); (case side1 => repeat (first | exact (Kd.C_below HR0.out HB.out) | (with_reducible refine Kd.C_alloc ?_ _) | (with_reducible refine Kd.C_drewN ?_ _) | (with_reducible refine Kd.C_drew ?_))); (case side2 => exact HC0.out); rintro e w' ⟨rfl, ⟨nd, rfl⟩⟩; refine ⟨_, rfl, ?_⟩))
  go_meet
  case rel => exact ⟨_, (true), (by first | rfl | (simp; done) | (simp [*]; done)), H', ⟨by first | omega | exact Nat.le_refl _⟩, ⟨upB HB.out⟩⟩
 case rest =>
  clear HC3
  try clear c1
  try clear p2
  try clear c5
  obtain ⟨kq, x21_2, rfl, HA, HJ2, HB⟩ := hcut
  cases kq with
  | zero => exact absurd HA.out (by simp [remoralaw20_FlistFinds.j0])
  | succ kj2 =>
   have H := HA.out
   clear HA
   simp only [remoralaw20_FlistFinds.j0] at H
   by_cases c6 : x21_2 = true
   ·subst c6
    have H1 : ((remoralaw20_awake.f kj2).bind fun t102 => (some t102)) = some r := by rw [if_pos rfl] at H; exact H
    clear H
    have H := H1
    clear H1
    replace H := Option.bind_eq_some_iff.mp H
    obtain ⟨t102, A70, H⟩ := H
    replace H : (some t102) = some r := H
    have A7 := Aside0.mk A70
    clear A70
    obtain rfl := Option.some.inj H
    go_wp2_with (first | ((with_reducible refine gate_callee (f := 11) rfl ?_); refine goesL_ (some 22) rfl rfl Tryd.func11 (by kernel_rfl) rfl #[] rfl (by (try simp only [List.map_toArray, List.map_cons, List.map_nil]); first | done | rfl | (simp only [List.length_drop, List.length_take]; rfl)) ?_; (with_reducible refine (remoralaw20_awake.calls kj2  t102 _ A7.out ?sideT).mono ?_); (case sideT => exact HT.out.step (upB HB.out)); rintro e w8 ⟨rfl, hb⟩; refine ⟨_, rfl, ?_⟩; have n0_ := Aside0.mk (below_step (upB HB.out) hb); clear HB; have HB := n0_; clear n0_; (try clear hb); (try clear hb2); (try clear hk); (try clear hi)))
    go_ret
    exact ⟨by first | rfl | (simp [errW_none, errW_some] <;> rfl) | (simp [*, errW_none, errW_some] <;> rfl), upB HB.out⟩
   replace c6 := Bool.eq_false_iff.mpr c6
   subst c6
   have H1 : ((some (([] : List (S35)) : List (S35))).bind fun y103 => (if y103.length + l0.length < 1256584717458 then ((some (y103 ++ l0 : List (S35))).bind fun y106 => ((flist_Find.f kj2 l0 a1).bind fun bt109 => ((remoraref20_Find.f kj2 l0 a1).bind fun bt111 => ((flist_Below.f l0 a1).bind fun t113 => ((flist_Sort.f l0).bind fun t116 => (if bt109.1 = bt111.1 then (if (bt109.2 != bt111.2) = true then (remoralaw20_FlistFinds.j1 kj2 l0 y106 t113 t116 true) else ((remoraref20_Below.f kj2 l0 a1).bind fun t119 => ((remoraref20_Same.f kj2 t113 t119).bind fun t122 => (if t122 = true then ((remoraref20_Sort.f kj2 l0).bind fun t123 => ((remoraref20_Same.f kj2 t116 t123).bind fun t126 => (if t126 = true then ((flist_Same.f kj2 t113 t116).bind fun t127 => ((remoraref20_Same.f kj2 t113 t116).bind fun t128 => (if (t127 != t128) = true then (remoralaw20_FlistFinds.j1 kj2 l0 y106 t113 t116 true) else ((flist_Same.f kj2 l0 l0).bind fun t129 => (remoralaw20_FlistFinds.j1 kj2 l0 y106 t113 t116 (!t129)))))) else (remoralaw20_FlistFinds.j1 kj2 l0 y106 t113 t116 true)))) else (remoralaw20_FlistFinds.j1 kj2 l0 y106 t113 t116 true))))) else (remoralaw20_FlistFinds.j1 kj2 l0 y106 t113 t116 true))))))) else (none))) = some r := by rw [if_neg (show ¬ (false = true) by decide)] at H; exact H
   clear H
   have H := H1
   clear H1
   obtain ⟨y103, hy103⟩ : ∃ y_ : List (S35), y_ = (([] : List (S35))) := ⟨_, rfl⟩
   replace H : (if y103.length + l0.length < 1256584717458 then ((some (y103 ++ l0 : List (S35))).bind fun y106 => ((flist_Find.f kj2 l0 a1).bind fun bt109 => ((remoraref20_Find.f kj2 l0 a1).bind fun bt111 => ((flist_Below.f l0 a1).bind fun t113 => ((flist_Sort.f l0).bind fun t116 => (if bt109.1 = bt111.1 then (if (bt109.2 != bt111.2) = true then (remoralaw20_FlistFinds.j1 kj2 l0 y106 t113 t116 true) else ((remoraref20_Below.f kj2 l0 a1).bind fun t119 => ((remoraref20_Same.f kj2 t113 t119).bind fun t122 => (if t122 = true then ((remoraref20_Sort.f kj2 l0).bind fun t123 => ((remoraref20_Same.f kj2 t116 t123).bind fun t126 => (if t126 = true then ((flist_Same.f kj2 t113 t116).bind fun t127 => ((remoraref20_Same.f kj2 t113 t116).bind fun t128 => (if (t127 != t128) = true then (remoralaw20_FlistFinds.j1 kj2 l0 y106 t113 t116 true) else ((flist_Same.f kj2 l0 l0).bind fun t129 => (remoralaw20_FlistFinds.j1 kj2 l0 y106 t113 t116 (!t129)))))) else (remoralaw20_FlistFinds.j1 kj2 l0 y106 t113 t116 true)))) else (remoralaw20_FlistFinds.j1 kj2 l0 y106 t113 t116 true))))) else (remoralaw20_FlistFinds.j1 kj2 l0 y106 t113 t116 true))))))) else (none)) = some r := by first | (rw [hy103]; with_reducible exact H) | (have H2_ := (Option.bind_some _ _).symm.trans H; rw [hy103]; with_reducible exact H2_) | (have H2_ := (Option.bind_some _ _).symm.trans H; with_reducible exact H2_) | with_reducible exact H | (rw [hy103]; exact H) | exact H
   have Ny103 := Aside0.mk hy103
   clear hy103
   by_cases c9 : y103.length + l0.length < 1256584717458
   ·rw [if_pos c9] at H
    have LMc9 := Aside0.mk c9
    clear c9
    obtain ⟨y106, hy106⟩ : ∃ y_ : List (S35), y_ = (y103 ++ l0) := ⟨_, rfl⟩
    replace H : ((flist_Find.f kj2 l0 a1).bind fun bt109 => ((remoraref20_Find.f kj2 l0 a1).bind fun bt111 => ((flist_Below.f l0 a1).bind fun t113 => ((flist_Sort.f l0).bind fun t116 => (if bt109.1 = bt111.1 then (if (bt109.2 != bt111.2) = true then (remoralaw20_FlistFinds.j1 kj2 l0 y106 t113 t116 true) else ((remoraref20_Below.f kj2 l0 a1).bind fun t119 => ((remoraref20_Same.f kj2 t113 t119).bind fun t122 => (if t122 = true then ((remoraref20_Sort.f kj2 l0).bind fun t123 => ((remoraref20_Same.f kj2 t116 t123).bind fun t126 => (if t126 = true then ((flist_Same.f kj2 t113 t116).bind fun t127 => ((remoraref20_Same.f kj2 t113 t116).bind fun t128 => (if (t127 != t128) = true then (remoralaw20_FlistFinds.j1 kj2 l0 y106 t113 t116 true) else ((flist_Same.f kj2 l0 l0).bind fun t129 => (remoralaw20_FlistFinds.j1 kj2 l0 y106 t113 t116 (!t129)))))) else (remoralaw20_FlistFinds.j1 kj2 l0 y106 t113 t116 true)))) else (remoralaw20_FlistFinds.j1 kj2 l0 y106 t113 t116 true))))) else (remoralaw20_FlistFinds.j1 kj2 l0 y106 t113 t116 true)))))) = some r := by first | (rw [hy106]; with_reducible exact H) | (have H2_ := (Option.bind_some _ _).symm.trans H; rw [hy106]; with_reducible exact H2_) | (have H2_ := (Option.bind_some _ _).symm.trans H; with_reducible exact H2_) | with_reducible exact H | (rw [hy106]; exact H) | exact H
    have Ny106 := Aside0.mk hy106
    clear hy106
    replace H := Option.bind_eq_some_iff.mp H
    obtain ⟨⟨t109, t110⟩, A100, H⟩ := H
    replace H : ((remoraref20_Find.f kj2 l0 a1).bind fun bt111 => ((flist_Below.f l0 a1).bind fun t113 => ((flist_Sort.f l0).bind fun t116 => (if t109 = bt111.1 then (if (t110 != bt111.2) = true then (remoralaw20_FlistFinds.j1 kj2 l0 y106 t113 t116 true) else ((remoraref20_Below.f kj2 l0 a1).bind fun t119 => ((remoraref20_Same.f kj2 t113 t119).bind fun t122 => (if t122 = true then ((remoraref20_Sort.f kj2 l0).bind fun t123 => ((remoraref20_Same.f kj2 t116 t123).bind fun t126 => (if t126 = true then ((flist_Same.f kj2 t113 t116).bind fun t127 => ((remoraref20_Same.f kj2 t113 t116).bind fun t128 => (if (t127 != t128) = true then (remoralaw20_FlistFinds.j1 kj2 l0 y106 t113 t116 true) else ((flist_Same.f kj2 l0 l0).bind fun t129 => (remoralaw20_FlistFinds.j1 kj2 l0 y106 t113 t116 (!t129)))))) else (remoralaw20_FlistFinds.j1 kj2 l0 y106 t113 t116 true)))) else (remoralaw20_FlistFinds.j1 kj2 l0 y106 t113 t116 true))))) else (remoralaw20_FlistFinds.j1 kj2 l0 y106 t113 t116 true))))) = some r := H
    have A10 := Aside0.mk A100
    clear A100
    replace H := Option.bind_eq_some_iff.mp H
    obtain ⟨⟨t111, t112⟩, A110, H⟩ := H
    replace H : ((flist_Below.f l0 a1).bind fun t113 => ((flist_Sort.f l0).bind fun t116 => (if t109 = t111 then (if (t110 != t112) = true then (remoralaw20_FlistFinds.j1 kj2 l0 y106 t113 t116 true) else ((remoraref20_Below.f kj2 l0 a1).bind fun t119 => ((remoraref20_Same.f kj2 t113 t119).bind fun t122 => (if t122 = true then ((remoraref20_Sort.f kj2 l0).bind fun t123 => ((remoraref20_Same.f kj2 t116 t123).bind fun t126 => (if t126 = true then ((flist_Same.f kj2 t113 t116).bind fun t127 => ((remoraref20_Same.f kj2 t113 t116).bind fun t128 => (if (t127 != t128) = true then (remoralaw20_FlistFinds.j1 kj2 l0 y106 t113 t116 true) else ((flist_Same.f kj2 l0 l0).bind fun t129 => (remoralaw20_FlistFinds.j1 kj2 l0 y106 t113 t116 (!t129)))))) else (remoralaw20_FlistFinds.j1 kj2 l0 y106 t113 t116 true)))) else (remoralaw20_FlistFinds.j1 kj2 l0 y106 t113 t116 true))))) else (remoralaw20_FlistFinds.j1 kj2 l0 y106 t113 t116 true)))) = some r := H
    have A11 := Aside0.mk A110
    clear A110
    replace H := Option.bind_eq_some_iff.mp H
    obtain ⟨t113, A120, H⟩ := H
    replace H : ((flist_Sort.f l0).bind fun t116 => (if t109 = t111 then (if (t110 != t112) = true then (remoralaw20_FlistFinds.j1 kj2 l0 y106 t113 t116 true) else ((remoraref20_Below.f kj2 l0 a1).bind fun t119 => ((remoraref20_Same.f kj2 t113 t119).bind fun t122 => (if t122 = true then ((remoraref20_Sort.f kj2 l0).bind fun t123 => ((remoraref20_Same.f kj2 t116 t123).bind fun t126 => (if t126 = true then ((flist_Same.f kj2 t113 t116).bind fun t127 => ((remoraref20_Same.f kj2 t113 t116).bind fun t128 => (if (t127 != t128) = true then (remoralaw20_FlistFinds.j1 kj2 l0 y106 t113 t116 true) else ((flist_Same.f kj2 l0 l0).bind fun t129 => (remoralaw20_FlistFinds.j1 kj2 l0 y106 t113 t116 (!t129)))))) else (remoralaw20_FlistFinds.j1 kj2 l0 y106 t113 t116 true)))) else (remoralaw20_FlistFinds.j1 kj2 l0 y106 t113 t116 true))))) else (remoralaw20_FlistFinds.j1 kj2 l0 y106 t113 t116 true))) = some r := H
    have A12 := Aside0.mk A120
    clear A120
    replace H := Option.bind_eq_some_iff.mp H
    obtain ⟨t116, A130, H⟩ := H
    replace H : (if t109 = t111 then (if (t110 != t112) = true then (remoralaw20_FlistFinds.j1 kj2 l0 y106 t113 t116 true) else ((remoraref20_Below.f kj2 l0 a1).bind fun t119 => ((remoraref20_Same.f kj2 t113 t119).bind fun t122 => (if t122 = true then ((remoraref20_Sort.f kj2 l0).bind fun t123 => ((remoraref20_Same.f kj2 t116 t123).bind fun t126 => (if t126 = true then ((flist_Same.f kj2 t113 t116).bind fun t127 => ((remoraref20_Same.f kj2 t113 t116).bind fun t128 => (if (t127 != t128) = true then (remoralaw20_FlistFinds.j1 kj2 l0 y106 t113 t116 true) else ((flist_Same.f kj2 l0 l0).bind fun t129 => (remoralaw20_FlistFinds.j1 kj2 l0 y106 t113 t116 (!t129)))))) else (remoralaw20_FlistFinds.j1 kj2 l0 y106 t113 t116 true)))) else (remoralaw20_FlistFinds.j1 kj2 l0 y106 t113 t116 true))))) else (remoralaw20_FlistFinds.j1 kj2 l0 y106 t113 t116 true)) = some r := H
    have A13 := Aside0.mk A130
    clear A130
    have HC14 := Aside0.mk H
    clear H
    go_upto_region 7 with (first | ((with_reducible refine gate_dst (N := 23) rfl ?_); (try (refine gate_guard (by rfl) ?_; dsimp only)); refine Kd.R_lit k35 _ 35 ?hg (N := 23) ?hd (xs := ([] : List (S35))) (inner := []) (ok := fun _ => True) (okp := fun _ => True) ?hr ?hp (fun _ hk => hk) trivial (Below.refl _ _) (Nat.le_refl _) (by simp) ?_; (case hd => rfl); (case hg => rfl); (case hr => first | (go_simp; done) | (go_simp; rfl)); (case hp => exact (Reps.none _ _)); intro v104 w15 ho16 hb hg_ hnew_; clear hg_ hnew_; (first | rw [← Ny103.out] at ho16 | (simp only [Int.reduceToNat] at ho16; rw [← Ny103.out] at ho16)); have n0_ := Aside0.mk (Kd.R_lower ho16 (below_size (upB HB.out))); have n1_ := Aside0.mk (below_step (upB HB.out) hb); clear HB; have HO105 := n0_; have HB := n1_; clear n0_ n1_; clear hb ho16) | ((with_reducible refine gate_builtin (b := .append) (xs := #[.tmp 23, .tmp 24]) rfl ?_); (try (refine gate_guard (by rfl) ?_; dsimp only)); at_builtin; refine Kd.R_append_rows k35 (w0 := w) w.heap.size rfl (.tmp 23) (.tmp 24) 22 35 (.agg #[(.string ⟨#[]⟩), (.int .i64 0), (.int .i64 0), (.int .i64 0), (.int .i64 0), (.int .i64 0), (.int .i64 0), (.int .i64 0), (.string ⟨#[]⟩), (.string ⟨#[]⟩), (.int .i64 0)]) 112 rfl Tryd.underlying22 info35 rfl (by decide) (by omega) v104 y103 l0 _ _ _ (fun _ => True) (fun _ => False) rfl rfl ?aO ?aR (fun _ _ h => h) (fun _ h => h.elim) ?aF ?aB ?aS ?aL ?_; (case aR => repeat (first | exact (Kd.C_below HR0.out HB.out) | (with_reducible refine Kd.C_alloc ?_ _) | (with_reducible refine Kd.C_drewN ?_ _) | (with_reducible refine Kd.C_drew ?_))); (case aB => exact (upB HB.out)); (case aF => exact (fun _ _ => trivial)); (case aO => exact (upR HO105.out)); (case aS => exact (below_size (upB HB.out))); (case aL => have := LMc9.out; omega); intro v107 w17 ho hb hg hat; rw [← Ny106.out] at ho; have n0_ := Aside0.mk (hb); have n1_ := Aside0.mk (ho); clear HB; clear HO105; have HB := n0_; have HO108 := n1_; clear n0_ n1_; clear ho hb hg hat) | ((with_reducible refine gate_callee (f := 16) rfl ?_); refine goesL_ (some 29) rfl rfl Tryd.func16 (by kernel_rfl) rfl #[.slice A0 l0.length c0, .string a1] rfl (by (try simp only [List.map_toArray, List.map_cons, List.map_nil]); first | done | rfl | (simp only [List.length_drop, List.length_take]; rfl)) ?_; (with_reducible refine (flist_Find.calls kj2 _ _ l0 a1 t109 t110 _ ?side1 ?side2 A10.out).mono ?_); (case side1 => repeat (first | exact (Kd.C_below HR0.out HB.out) | (with_reducible refine Kd.C_alloc ?_ _) | (with_reducible refine Kd.C_drewN ?_ _) | (with_reducible refine Kd.C_drew ?_))); (case side2 => exact HC0.out); rintro e w18 ⟨rfl, hb⟩; refine ⟨_, rfl, ?_⟩; have n0_ := Aside0.mk (Kd.R_below (upR HO108.out) hb); have n1_ := Aside0.mk (below_step (upB HB.out) hb); clear HO108; clear HB; have HO108 := n0_; have HB := n1_; clear n0_ n1_; (try clear hb); (try clear hb2); (try clear hk); (try clear hi)) | ((with_reducible refine gate_callee (f := 25) rfl ?_); refine goesL_ (some 35) rfl rfl Tryd.func25 (by kernel_rfl) rfl #[.slice A0 l0.length c0, .string a1] rfl (by (try simp only [List.map_toArray, List.map_cons, List.map_nil]); first | done | rfl | (simp only [List.length_drop, List.length_take]; rfl)) ?_; (with_reducible refine (remoraref20_Find.calls kj2 _ _ l0 a1 t111 t112 _ ?side1 ?side2 A11.out).mono ?_); (case side1 => repeat (first | exact (Kd.C_below HR0.out HB.out) | (with_reducible refine Kd.C_alloc ?_ _) | (with_reducible refine Kd.C_drewN ?_ _) | (with_reducible refine Kd.C_drew ?_))); (case side2 => exact HC0.out); rintro e w' ⟨rfl, ⟨nd, rfl⟩⟩; refine ⟨_, rfl, ?_⟩) | ((with_reducible refine gate_callee (f := 17) rfl ?_); refine goesL_ (some 40) rfl rfl Tryd.func17 (by kernel_rfl) rfl #[.slice A0 l0.length c0, .string a1] rfl (by (try simp only [List.map_toArray, List.map_cons, List.map_nil]); first | done | rfl | (simp only [List.length_drop, List.length_take]; rfl)) ?_; (with_reducible refine (flist_Below.calls _ _ l0 a1 t113 _ ?side1 ?side2 A12.out).mono ?_); (case side1 => repeat (first | exact (Kd.C_below HR0.out (upB HB.out)) | (with_reducible refine Kd.C_alloc ?_ _) | (with_reducible refine Kd.C_drewN ?_ _) | (with_reducible refine Kd.C_drew ?_))); (case side2 => exact HC0.out); rintro e w19 ⟨v114, rfl, ho0, hb⟩; refine ⟨_, rfl, ?_⟩; have n0_ := Aside0.mk (Kd.R_elder' (upR HO108.out) (Kd.R_base ho0) hb); have n1_ := Aside0.mk (Kd.R_lower (Kd.R_new' ho0 (Kd.R_lt (upR HO108.out))) (below_size (upB HB.out))); have n2_ := Aside0.mk (below_step (upB HB.out) hb); clear HO108; clear HB; have HO108 := n0_; have HO115 := n1_; have HB := n2_; clear n0_ n1_ n2_; (try clear hb); (try clear hb2); (try clear hk); (try clear hi); (try clear ho0)) | ((with_reducible refine gate_callee (f := 23) rfl ?_); refine goesL_ (some 42) rfl rfl Tryd.func23 (by kernel_rfl) rfl #[.slice A0 l0.length c0] rfl (by (try simp only [List.map_toArray, List.map_cons, List.map_nil]); first | done | rfl | (simp only [List.length_drop, List.length_take]; rfl)) ?_; (with_reducible refine (flist_Sort.calls _ _ l0 t116 _ ?side1 ?side2 A13.out).mono ?_); (case side1 => repeat (first | exact (Kd.C_below HR0.out HB.out) | (with_reducible refine Kd.C_alloc ?_ _) | (with_reducible refine Kd.C_drewN ?_ _) | (with_reducible refine Kd.C_drew ?_))); (case side2 => exact HC0.out); rintro e w20 ⟨v117, rfl, ho0, hb⟩; refine ⟨_, rfl, ?_⟩; have n0_ := Aside0.mk (Kd.R_elder' (upR HO108.out) (Kd.R_base ho0) hb); have n1_ := Aside0.mk (Kd.R_elder' (upR HO115.out) (Kd.R_base ho0) hb); have n2_ := Aside0.mk (Kd.R_lower (Kd.R_new' (Kd.R_new' ho0 (Kd.R_lt (upR HO108.out))) (Kd.R_lt (upR HO115.out))) (below_size (upB HB.out))); have n3_ := Aside0.mk (below_step (upB HB.out) hb); clear HO108; clear HO115; clear HB; have HO108 := n0_; have HO115 := n1_; have HO118 := n2_; have HB := n3_; clear n0_ n1_ n2_ n3_; (try clear hb); (try clear hb2); (try clear hk); (try clear hi); (try clear ho0)))
    (try simp only [Act.put, List.setIfInBounds_toArray, List.set_cons_zero, List.set_cons_succ])
    go_cut [80] (fun v80 wc => ∃ (kq : Nat) (x80_13 : Bool), v80 = .bool x80_13 ∧ Aside0 (remoralaw20_FlistFinds.j1 kq l0 y106 t113 t116 x80_13 = some r) ∧ Aside0 (kq ≤ kj2) ∧ Aside0 (Kd.R k35 35 wc w.heap.size (fun k_ => some k_ ≠ (v114 : Value).ownBlock ∧ some k_ ≠ (v117 : Value).ownBlock) v107 y106) ∧ Aside0 (Kd.R k35 35 wc w.heap.size (fun k_ => some k_ ≠ (v107 : Value).ownBlock ∧ some k_ ≠ (v117 : Value).ownBlock) v114 t113) ∧ Aside0 (Kd.R k35 35 wc w.heap.size (fun k_ => some k_ ≠ (v107 : Value).ownBlock ∧ some k_ ≠ (v114 : Value).ownBlock) v117 t116) ∧ Aside0 (Below w.heap.size w wc))
    case first =>
     have H := HC14.out
     clear HC14
     by_cases c21 : t109 = t111
     ·rw [if_pos c21] at H
      have c21b0 : (t109 == t111) = true := beq_iff_eq.mpr c21
      have c21b1 : (t109 != t111) = false := bne_eq_false_iff_eq.mpr c21
      clear c21
      (first | rw [c21b0] | (simp only [i64_w, i32_w]; rw [c21b0]) | skip)
      by_cases c22 : (t110 != t112) = true
      ·rw [if_pos c22] at H
       have c22b0 : (t110 != t112) = true := c22
       (try (have c22b1 : decide (t110 = t112) = false := by simpa using c22))
       (try (have c22b2 : (t110 == t112) = false := by simpa using c22))
       (try (have c22b3 : ¬ (t110 = t112) := by simpa using c22))
       clear c22
       have H' := Aside0.mk H
       clear H
       go_wp2
       go_meet
       case rel => exact ⟨_, (true), (by first | rfl | (simp; done) | (simp [*]; done)), H', ⟨by have := HJ2.out; first | omega | exact Nat.le_refl _⟩, ⟨upR (Kd.R_mono HO108.out (fun _ hk => ⟨hk.1.2, hk.2⟩))⟩, ⟨upR (Kd.R_mono HO115.out (fun _ hk => ⟨hk.1.2, hk.2⟩))⟩, ⟨upR (Kd.R_mono HO118.out (fun _ hk => ⟨hk.1.2, hk.2⟩))⟩, ⟨upB HB.out⟩⟩
      rw [if_neg c22] at H
      have c22b0 : (t110 != t112) = false := by simpa using c22
      (try (have c22b1 : decide (t110 = t112) = true := by simpa using c22))
      (try (have c22b2 : (t110 == t112) = true := by simpa using c22))
      clear c22
      replace H := Option.bind_eq_some_iff.mp H
      obtain ⟨t119, A230, H⟩ := H
      replace H : ((remoraref20_Same.f kj2 t113 t119).bind fun t122 => (if t122 = true then ((remoraref20_Sort.f kj2 l0).bind fun t123 => ((remoraref20_Same.f kj2 t116 t123).bind fun t126 => (if t126 = true then ((flist_Same.f kj2 t113 t116).bind fun t127 => ((remoraref20_Same.f kj2 t113 t116).bind fun t128 => (if (t127 != t128) = true then (remoralaw20_FlistFinds.j1 kj2 l0 y106 t113 t116 true) else ((flist_Same.f kj2 l0 l0).bind fun t129 => (remoralaw20_FlistFinds.j1 kj2 l0 y106 t113 t116 (!t129)))))) else (remoralaw20_FlistFinds.j1 kj2 l0 y106 t113 t116 true)))) else (remoralaw20_FlistFinds.j1 kj2 l0 y106 t113 t116 true))) = some r := H
      have A23 := Aside0.mk A230
      clear A230
      replace H := Option.bind_eq_some_iff.mp H
      obtain ⟨t122, A240, H⟩ := H
      replace H : (if t122 = true then ((remoraref20_Sort.f kj2 l0).bind fun t123 => ((remoraref20_Same.f kj2 t116 t123).bind fun t126 => (if t126 = true then ((flist_Same.f kj2 t113 t116).bind fun t127 => ((remoraref20_Same.f kj2 t113 t116).bind fun t128 => (if (t127 != t128) = true then (remoralaw20_FlistFinds.j1 kj2 l0 y106 t113 t116 true) else ((flist_Same.f kj2 l0 l0).bind fun t129 => (remoralaw20_FlistFinds.j1 kj2 l0 y106 t113 t116 (!t129)))))) else (remoralaw20_FlistFinds.j1 kj2 l0 y106 t113 t116 true)))) else (remoralaw20_FlistFinds.j1 kj2 l0 y106 t113 t116 true)) = some r := H
      have A24 := Aside0.mk A240
      clear A240
      by_cases c25 : t122 = true
      ·subst c25
       have H1 : ((remoraref20_Sort.f kj2 l0).bind fun t123 => ((remoraref20_Same.f kj2 t116 t123).bind fun t126 => (if t126 = true then ((flist_Same.f kj2 t113 t116).bind fun t127 => ((remoraref20_Same.f kj2 t113 t116).bind fun t128 => (if (t127 != t128) = true then (remoralaw20_FlistFinds.j1 kj2 l0 y106 t113 t116 true) else ((flist_Same.f kj2 l0 l0).bind fun t129 => (remoralaw20_FlistFinds.j1 kj2 l0 y106 t113 t116 (!t129)))))) else (remoralaw20_FlistFinds.j1 kj2 l0 y106 t113 t116 true)))) = some r := by rw [if_pos rfl] at H; exact H
       clear H
       have H := H1
       clear H1
       replace H := Option.bind_eq_some_iff.mp H
       obtain ⟨t123, A260, H⟩ := H
       replace H : ((remoraref20_Same.f kj2 t116 t123).bind fun t126 => (if t126 = true then ((flist_Same.f kj2 t113 t116).bind fun t127 => ((remoraref20_Same.f kj2 t113 t116).bind fun t128 => (if (t127 != t128) = true then (remoralaw20_FlistFinds.j1 kj2 l0 y106 t113 t116 true) else ((flist_Same.f kj2 l0 l0).bind fun t129 => (remoralaw20_FlistFinds.j1 kj2 l0 y106 t113 t116 (!t129)))))) else (remoralaw20_FlistFinds.j1 kj2 l0 y106 t113 t116 true))) = some r := H
       have A26 := Aside0.mk A260
       clear A260
       replace H := Option.bind_eq_some_iff.mp H
       obtain ⟨t126, A270, H⟩ := H
       replace H : (if t126 = true then ((flist_Same.f kj2 t113 t116).bind fun t127 => ((remoraref20_Same.f kj2 t113 t116).bind fun t128 => (if (t127 != t128) = true then (remoralaw20_FlistFinds.j1 kj2 l0 y106 t113 t116 true) else ((flist_Same.f kj2 l0 l0).bind fun t129 => (remoralaw20_FlistFinds.j1 kj2 l0 y106 t113 t116 (!t129)))))) else (remoralaw20_FlistFinds.j1 kj2 l0 y106 t113 t116 true)) = some r := H
       have A27 := Aside0.mk A270
       clear A270
       by_cases c28 : t126 = true
       ·subst c28
        have H1 : ((flist_Same.f kj2 t113 t116).bind fun t127 => ((remoraref20_Same.f kj2 t113 t116).bind fun t128 => (if (t127 != t128) = true then (remoralaw20_FlistFinds.j1 kj2 l0 y106 t113 t116 true) else ((flist_Same.f kj2 l0 l0).bind fun t129 => (remoralaw20_FlistFinds.j1 kj2 l0 y106 t113 t116 (!t129)))))) = some r := by rw [if_pos rfl] at H; exact H
        clear H
        have H := H1
        clear H1
        replace H := Option.bind_eq_some_iff.mp H
        obtain ⟨t127, A290, H⟩ := H
        replace H : ((remoraref20_Same.f kj2 t113 t116).bind fun t128 => (if (t127 != t128) = true then (remoralaw20_FlistFinds.j1 kj2 l0 y106 t113 t116 true) else ((flist_Same.f kj2 l0 l0).bind fun t129 => (remoralaw20_FlistFinds.j1 kj2 l0 y106 t113 t116 (!t129))))) = some r := H
        have A29 := Aside0.mk A290
        clear A290
        replace H := Option.bind_eq_some_iff.mp H
        obtain ⟨t128, A300, H⟩ := H
        replace H : (if (t127 != t128) = true then (remoralaw20_FlistFinds.j1 kj2 l0 y106 t113 t116 true) else ((flist_Same.f kj2 l0 l0).bind fun t129 => (remoralaw20_FlistFinds.j1 kj2 l0 y106 t113 t116 (!t129)))) = some r := H
        have A30 := Aside0.mk A300
        clear A300
        by_cases c31 : (t127 != t128) = true
        ·rw [if_pos c31] at H
         have c31b0 : (t127 != t128) = true := c31
         (try (have c31b1 : decide (t127 = t128) = false := by simpa using c31))
         (try (have c31b2 : (t127 == t128) = false := by simpa using c31))
         (try (have c31b3 : ¬ (t127 = t128) := by simpa using c31))
         clear c31
         have H' := Aside0.mk H
         clear H
         go_wp2_with (first | (go_at_call 26; (with_reducible refine (remoraref20_Below.calls kj2 _ _ l0 a1 t119 _ ?side1 ?side2 A23.out).mono ?_); (case side1 => repeat (first | exact (Kd.C_below HR0.out HB.out) | (with_reducible refine Kd.C_alloc ?_ _) | (with_reducible refine Kd.C_drewN ?_ _) | (with_reducible refine Kd.C_drew ?_))); (case side2 => exact HC0.out); rintro e w32 ⟨v120, rfl, ho0, hb⟩; have n0_ := Aside0.mk (Kd.R_elder' (upR HO108.out) (Kd.R_base ho0) hb); have n1_ := Aside0.mk (Kd.R_elder' (upR HO115.out) (Kd.R_base ho0) hb); have n2_ := Aside0.mk (Kd.R_elder' (upR HO118.out) (Kd.R_base ho0) hb); have n3_ := Aside0.mk (Kd.R_lower (Kd.R_new' (Kd.R_new' (Kd.R_new' ho0 (Kd.R_lt (upR HO108.out))) (Kd.R_lt (upR HO115.out))) (Kd.R_lt (upR HO118.out))) (below_size (upB HB.out))); have n4_ := Aside0.mk (below_step (upB HB.out) hb); clear HO108; clear HO115; clear HO118; clear HB; have HO108 := n0_; have HO115 := n1_; have HO118 := n2_; have HO121 := n3_; have HB := n4_; clear n0_ n1_ n2_ n3_ n4_; (try clear hb); (try clear hb2); (try clear hk); (try clear hi); (try clear ho0); obtain ⟨Ao33, co33, eo33⟩ := Kd.R_slice HO115.out; subst eo33; obtain ⟨Ao34, co34, eo34⟩ := Kd.R_slice HO121.out; subst eo34) | (go_at_call 22; (with_reducible refine (remoraref20_Same.calls kj2 _ _ t113 _ _ t119 true _ ?side1 ?side2 ?side3 ?side4 A24.out).mono ?_); (case side1 => repeat (first | exact (Kd.R_reads' HO115.out).2.2 | (with_reducible refine Kd.C_alloc ?_ _) | (with_reducible refine Kd.C_drewN ?_ _) | (with_reducible refine Kd.C_drew ?_))); (case side2 => exact (Kd.R_reads' HO115.out).2.1); (case side3 => repeat (first | exact (Kd.R_reads' HO121.out).2.2 | (with_reducible refine Kd.C_alloc ?_ _) | (with_reducible refine Kd.C_drewN ?_ _) | (with_reducible refine Kd.C_drew ?_))); (case side4 => exact (Kd.R_reads' HO121.out).2.1); rintro e w' ⟨rfl, ⟨nd, rfl⟩⟩) | (go_at_call 27; (with_reducible refine (remoraref20_Sort.calls kj2 _ _ l0 t123 _ ?side1 ?side2 A26.out).mono ?_); (case side1 => repeat (first | exact (Kd.C_below HR0.out (upB HB.out)) | (with_reducible refine Kd.C_alloc ?_ _) | (with_reducible refine Kd.C_drewN ?_ _) | (with_reducible refine Kd.C_drew ?_))); (case side2 => exact HC0.out); rintro e w35 ⟨v124, rfl, ho0, hb⟩; have n0_ := Aside0.mk (Kd.R_elder' (upR HO108.out) (Kd.R_base ho0) hb); have n1_ := Aside0.mk (Kd.R_elder' (upR HO115.out) (Kd.R_base ho0) hb); have n2_ := Aside0.mk (Kd.R_elder' (upR HO118.out) (Kd.R_base ho0) hb); have n3_ := Aside0.mk (Kd.R_elder' (upR HO121.out) (Kd.R_base ho0) hb); have n4_ := Aside0.mk (Kd.R_lower (Kd.R_new' (Kd.R_new' (Kd.R_new' (Kd.R_new' ho0 (Kd.R_lt (upR HO108.out))) (Kd.R_lt (upR HO115.out))) (Kd.R_lt (upR HO118.out))) (Kd.R_lt (upR HO121.out))) (below_size (upB HB.out))); have n5_ := Aside0.mk (below_step (upB HB.out) hb); clear HO108; clear HO115; clear HO118; clear HO121; clear HB; have HO108 := n0_; have HO115 := n1_; have HO118 := n2_; have HO121 := n3_; have HO125 := n4_; have HB := n5_; clear n0_ n1_ n2_ n3_ n4_ n5_; (try clear hb); (try clear hb2); (try clear hk); (try clear hi); (try clear ho0); obtain ⟨Ao36, co36, eo36⟩ := Kd.R_slice HO118.out; subst eo36; obtain ⟨Ao37, co37, eo37⟩ := Kd.R_slice HO125.out; subst eo37) | (go_at_call 22; (with_reducible refine (remoraref20_Same.calls kj2 _ _ t116 _ _ t123 true _ ?side1 ?side2 ?side3 ?side4 A27.out).mono ?_); (case side1 => repeat (first | exact (Kd.R_reads' HO118.out).2.2 | (with_reducible refine Kd.C_alloc ?_ _) | (with_reducible refine Kd.C_drewN ?_ _) | (with_reducible refine Kd.C_drew ?_))); (case side2 => exact (Kd.R_reads' HO118.out).2.1); (case side3 => repeat (first | exact (Kd.R_reads' HO125.out).2.2 | (with_reducible refine Kd.C_alloc ?_ _) | (with_reducible refine Kd.C_drewN ?_ _) | (with_reducible refine Kd.C_drew ?_))); (case side4 => exact (Kd.R_reads' HO125.out).2.1); rintro e w' ⟨rfl, ⟨nd, rfl⟩⟩) | (go_at_call 18; (with_reducible refine (flist_Same.calls kj2 _ _ t113 _ _ t116 t127 _ ?side1 ?side2 ?side3 ?side4 A29.out).mono ?_); (case side1 => repeat (first | exact (Kd.R_reads' HO115.out).2.2 | (with_reducible refine Kd.C_alloc ?_ _) | (with_reducible refine Kd.C_drewN ?_ _) | (with_reducible refine Kd.C_drew ?_))); (case side2 => exact (Kd.R_reads' HO115.out).2.1); (case side3 => repeat (first | exact (Kd.R_reads' HO118.out).2.2 | (with_reducible refine Kd.C_alloc ?_ _) | (with_reducible refine Kd.C_drewN ?_ _) | (with_reducible refine Kd.C_drew ?_))); (case side4 => exact (Kd.R_reads' HO118.out).2.1); rintro e w' ⟨rfl, ⟨nd, rfl⟩⟩) | (go_at_call 22; (with_reducible refine (remoraref20_Same.calls kj2 _ _ t113 _ _ t116 t128 _ ?side1 ?side2 ?side3 ?side4 A30.out).mono ?_); (case side1 => repeat (first | exact (Kd.R_reads' HO115.out).2.2 | (with_reducible refine Kd.C_alloc ?_ _) | (with_reducible refine Kd.C_drewN ?_ _) | (with_reducible refine Kd.C_drew ?_))); (case side2 => exact (Kd.R_reads' HO115.out).2.1); (case side3 => repeat (first | exact (Kd.R_reads' HO118.out).2.2 | (with_reducible refine Kd.C_alloc ?_ _) | (with_reducible refine Kd.C_drewN ?_ _) | (with_reducible refine Kd.C_drew ?_))); (case side4 => exact (Kd.R_reads' HO118.out).2.1); rintro e w' ⟨rfl, ⟨nd, rfl⟩⟩))
         go_meet
         case rel => exact ⟨_, (true), (by first | rfl | (simp; done) | (simp [*]; done)), H', ⟨by have := HJ2.out; first | omega | exact Nat.le_refl _⟩, ⟨upR (Kd.R_mono HO108.out (fun _ hk => ⟨hk.1.1.1.2, hk.1.1.2⟩))⟩, ⟨upR (Kd.R_mono HO115.out (fun _ hk => ⟨hk.1.1.1.2, hk.1.1.2⟩))⟩, ⟨upR (Kd.R_mono HO118.out (fun _ hk => ⟨hk.1.1.1.2, hk.1.1.2⟩))⟩, ⟨upB HB.out⟩⟩
        rw [if_neg c31] at H
        have c31b0 : (t127 != t128) = false := by simpa using c31
        (try (have c31b1 : decide (t127 = t128) = true := by simpa using c31))
        (try (have c31b2 : (t127 == t128) = true := by simpa using c31))
        clear c31
        replace H := Option.bind_eq_some_iff.mp H
        obtain ⟨t129, A380, H⟩ := H
        replace H : (remoralaw20_FlistFinds.j1 kj2 l0 y106 t113 t116 (!t129)) = some r := H
        have A38 := Aside0.mk A380
        clear A380
        have H' := Aside0.mk H
        clear H
        go_wp2_with (first | (go_at_call 26; (with_reducible refine (remoraref20_Below.calls kj2 _ _ l0 a1 t119 _ ?side1 ?side2 A23.out).mono ?_); (case side1 => repeat (first | exact (Kd.C_below HR0.out HB.out) | (with_reducible refine Kd.C_alloc ?_ _) | (with_reducible refine Kd.C_drewN ?_ _) | (with_reducible refine Kd.C_drew ?_))); (case side2 => exact HC0.out); rintro e w39 ⟨v120, rfl, ho0, hb⟩; have n0_ := Aside0.mk (Kd.R_elder' (upR HO108.out) (Kd.R_base ho0) hb); have n1_ := Aside0.mk (Kd.R_elder' (upR HO115.out) (Kd.R_base ho0) hb); have n2_ := Aside0.mk (Kd.R_elder' (upR HO118.out) (Kd.R_base ho0) hb); have n3_ := Aside0.mk (Kd.R_lower (Kd.R_new' (Kd.R_new' (Kd.R_new' ho0 (Kd.R_lt (upR HO108.out))) (Kd.R_lt (upR HO115.out))) (Kd.R_lt (upR HO118.out))) (below_size (upB HB.out))); have n4_ := Aside0.mk (below_step (upB HB.out) hb); clear HO108; clear HO115; clear HO118; clear HB; have HO108 := n0_; have HO115 := n1_; have HO118 := n2_; have HO121 := n3_; have HB := n4_; clear n0_ n1_ n2_ n3_ n4_; (try clear hb); (try clear hb2); (try clear hk); (try clear hi); (try clear ho0); obtain ⟨Ao40, co40, eo40⟩ := Kd.R_slice HO115.out; subst eo40; obtain ⟨Ao41, co41, eo41⟩ := Kd.R_slice HO121.out; subst eo41) | (go_at_call 22; (with_reducible refine (remoraref20_Same.calls kj2 _ _ t113 _ _ t119 true _ ?side1 ?side2 ?side3 ?side4 A24.out).mono ?_); (case side1 => repeat (first | exact (Kd.R_reads' HO115.out).2.2 | (with_reducible refine Kd.C_alloc ?_ _) | (with_reducible refine Kd.C_drewN ?_ _) | (with_reducible refine Kd.C_drew ?_))); (case side2 => exact (Kd.R_reads' HO115.out).2.1); (case side3 => repeat (first | exact (Kd.R_reads' HO121.out).2.2 | (with_reducible refine Kd.C_alloc ?_ _) | (with_reducible refine Kd.C_drewN ?_ _) | (with_reducible refine Kd.C_drew ?_))); (case side4 => exact (Kd.R_reads' HO121.out).2.1); rintro e w' ⟨rfl, ⟨nd, rfl⟩⟩) | (go_at_call 27; (with_reducible refine (remoraref20_Sort.calls kj2 _ _ l0 t123 _ ?side1 ?side2 A26.out).mono ?_); (case side1 => repeat (first | exact (Kd.C_below HR0.out (upB HB.out)) | (with_reducible refine Kd.C_alloc ?_ _) | (with_reducible refine Kd.C_drewN ?_ _) | (with_reducible refine Kd.C_drew ?_))); (case side2 => exact HC0.out); rintro e w42 ⟨v124, rfl, ho0, hb⟩; have n0_ := Aside0.mk (Kd.R_elder' (upR HO108.out) (Kd.R_base ho0) hb); have n1_ := Aside0.mk (Kd.R_elder' (upR HO115.out) (Kd.R_base ho0) hb); have n2_ := Aside0.mk (Kd.R_elder' (upR HO118.out) (Kd.R_base ho0) hb); have n3_ := Aside0.mk (Kd.R_elder' (upR HO121.out) (Kd.R_base ho0) hb); have n4_ := Aside0.mk (Kd.R_lower (Kd.R_new' (Kd.R_new' (Kd.R_new' (Kd.R_new' ho0 (Kd.R_lt (upR HO108.out))) (Kd.R_lt (upR HO115.out))) (Kd.R_lt (upR HO118.out))) (Kd.R_lt (upR HO121.out))) (below_size (upB HB.out))); have n5_ := Aside0.mk (below_step (upB HB.out) hb); clear HO108; clear HO115; clear HO118; clear HO121; clear HB; have HO108 := n0_; have HO115 := n1_; have HO118 := n2_; have HO121 := n3_; have HO125 := n4_; have HB := n5_; clear n0_ n1_ n2_ n3_ n4_ n5_; (try clear hb); (try clear hb2); (try clear hk); (try clear hi); (try clear ho0); obtain ⟨Ao43, co43, eo43⟩ := Kd.R_slice HO118.out; subst eo43; obtain ⟨Ao44, co44, eo44⟩ := Kd.R_slice HO125.out; subst eo44) | (go_at_call 22; (with_reducible refine (remoraref20_Same.calls kj2 _ _ t116 _ _ t123 true _ ?side1 ?side2 ?side3 ?side4 A27.out).mono ?_); (case side1 => repeat (first | exact (Kd.R_reads' HO118.out).2.2 | (with_reducible refine Kd.C_alloc ?_ _) | (with_reducible refine Kd.C_drewN ?_ _) | (with_reducible refine Kd.C_drew ?_))); (case side2 => exact (Kd.R_reads' HO118.out).2.1); (case side3 => repeat (first | exact (Kd.R_reads' HO125.out).2.2 | (with_reducible refine Kd.C_alloc ?_ _) | (with_reducible refine Kd.C_drewN ?_ _) | (with_reducible refine Kd.C_drew ?_))); (case side4 => exact (Kd.R_reads' HO125.out).2.1); rintro e w' ⟨rfl, ⟨nd, rfl⟩⟩) | (go_at_call 18; (with_reducible refine (flist_Same.calls kj2 _ _ t113 _ _ t116 t127 _ ?side1 ?side2 ?side3 ?side4 A29.out).mono ?_); (case side1 => repeat (first | exact (Kd.R_reads' HO115.out).2.2 | (with_reducible refine Kd.C_alloc ?_ _) | (with_reducible refine Kd.C_drewN ?_ _) | (with_reducible refine Kd.C_drew ?_))); (case side2 => exact (Kd.R_reads' HO115.out).2.1); (case side3 => repeat (first | exact (Kd.R_reads' HO118.out).2.2 | (with_reducible refine Kd.C_alloc ?_ _) | (with_reducible refine Kd.C_drewN ?_ _) | (with_reducible refine Kd.C_drew ?_))); (case side4 => exact (Kd.R_reads' HO118.out).2.1); rintro e w' ⟨rfl, ⟨nd, rfl⟩⟩) | (go_at_call 22; (with_reducible refine (remoraref20_Same.calls kj2 _ _ t113 _ _ t116 t128 _ ?side1 ?side2 ?side3 ?side4 A30.out).mono ?_); (case side1 => repeat (first | exact (Kd.R_reads' HO115.out).2.2 | (with_reducible refine Kd.C_alloc ?_ _) | (with_reducible refine Kd.C_drewN ?_ _) | (with_reducible refine Kd.C_drew ?_))); (case side2 => exact (Kd.R_reads' HO115.out).2.1); (case side3 => repeat (first | exact (Kd.R_reads' HO118.out).2.2 | (with_reducible refine Kd.C_alloc ?_ _) | (with_reducible refine Kd.C_drewN ?_ _) | (with_reducible refine Kd.C_drew ?_))); (case side4 => exact (Kd.R_reads' HO118.out).2.1); rintro e w' ⟨rfl, ⟨nd, rfl⟩⟩) | (go_at_call 18; (with_reducible refine (flist_Same.calls kj2 _ _ l0 _ _ l0 t129 _ ?side1 ?side2 ?side3 ?side4 A38.out).mono ?_); (case side1 => repeat (first | exact (Kd.C_below HR0.out (upB HB.out)) | (with_reducible refine Kd.C_alloc ?_ _) | (with_reducible refine Kd.C_drewN ?_ _) | (with_reducible refine Kd.C_drew ?_))); (case side2 => exact HC0.out); (case side3 => repeat (first | exact (Kd.C_below HR0.out (upB HB.out)) | (with_reducible refine Kd.C_alloc ?_ _) | (with_reducible refine Kd.C_drewN ?_ _) | (with_reducible refine Kd.C_drew ?_))); (case side4 => exact HC0.out); rintro e w' ⟨rfl, ⟨nd, rfl⟩⟩))
        go_meet
        case rel => exact ⟨_, (!t129), (by first | rfl | (simp; done) | (simp [*]; done)), H', ⟨by have := HJ2.out; first | omega | exact Nat.le_refl _⟩, ⟨upR (Kd.R_mono HO108.out (fun _ hk => ⟨hk.1.1.1.2, hk.1.1.2⟩))⟩, ⟨upR (Kd.R_mono HO115.out (fun _ hk => ⟨hk.1.1.1.2, hk.1.1.2⟩))⟩, ⟨upR (Kd.R_mono HO118.out (fun _ hk => ⟨hk.1.1.1.2, hk.1.1.2⟩))⟩, ⟨upB HB.out⟩⟩
       replace c28 := Bool.eq_false_iff.mpr c28
       subst c28
       have H1 : (remoralaw20_FlistFinds.j1 kj2 l0 y106 t113 t116 true) = some r := by rw [if_neg (show ¬ (false = true) by decide)] at H; exact H
       clear H
       have H := H1
       clear H1
       have H' := Aside0.mk H
       clear H
       go_wp2_with (first | (go_at_call 26; (with_reducible refine (remoraref20_Below.calls kj2 _ _ l0 a1 t119 _ ?side1 ?side2 A23.out).mono ?_); (case side1 => repeat (first | exact (Kd.C_below HR0.out HB.out) | (with_reducible refine Kd.C_alloc ?_ _) | (with_reducible refine Kd.C_drewN ?_ _) | (with_reducible refine Kd.C_drew ?_))); (case side2 => exact HC0.out); rintro e w45 ⟨v120, rfl, ho0, hb⟩; have n0_ := Aside0.mk (Kd.R_elder' (upR HO108.out) (Kd.R_base ho0) hb); have n1_ := Aside0.mk (Kd.R_elder' (upR HO115.out) (Kd.R_base ho0) hb); have n2_ := Aside0.mk (Kd.R_elder' (upR HO118.out) (Kd.R_base ho0) hb); have n3_ := Aside0.mk (Kd.R_lower (Kd.R_new' (Kd.R_new' (Kd.R_new' ho0 (Kd.R_lt (upR HO108.out))) (Kd.R_lt (upR HO115.out))) (Kd.R_lt (upR HO118.out))) (below_size (upB HB.out))); have n4_ := Aside0.mk (below_step (upB HB.out) hb); clear HO108; clear HO115; clear HO118; clear HB; have HO108 := n0_; have HO115 := n1_; have HO118 := n2_; have HO121 := n3_; have HB := n4_; clear n0_ n1_ n2_ n3_ n4_; (try clear hb); (try clear hb2); (try clear hk); (try clear hi); (try clear ho0); obtain ⟨Ao46, co46, eo46⟩ := Kd.R_slice HO115.out; subst eo46; obtain ⟨Ao47, co47, eo47⟩ := Kd.R_slice HO121.out; subst eo47) | (go_at_call 22; (with_reducible refine (remoraref20_Same.calls kj2 _ _ t113 _ _ t119 true _ ?side1 ?side2 ?side3 ?side4 A24.out).mono ?_); (case side1 => repeat (first | exact (Kd.R_reads' HO115.out).2.2 | (with_reducible refine Kd.C_alloc ?_ _) | (with_reducible refine Kd.C_drewN ?_ _) | (with_reducible refine Kd.C_drew ?_))); (case side2 => exact (Kd.R_reads' HO115.out).2.1); (case side3 => repeat (first | exact (Kd.R_reads' HO121.out).2.2 | (with_reducible refine Kd.C_alloc ?_ _) | (with_reducible refine Kd.C_drewN ?_ _) | (with_reducible refine Kd.C_drew ?_))); (case side4 => exact (Kd.R_reads' HO121.out).2.1); rintro e w' ⟨rfl, ⟨nd, rfl⟩⟩) | (go_at_call 27; (with_reducible refine (remoraref20_Sort.calls kj2 _ _ l0 t123 _ ?side1 ?side2 A26.out).mono ?_); (case side1 => repeat (first | exact (Kd.C_below HR0.out (upB HB.out)) | (with_reducible refine Kd.C_alloc ?_ _) | (with_reducible refine Kd.C_drewN ?_ _) | (with_reducible refine Kd.C_drew ?_))); (case side2 => exact HC0.out); rintro e w48 ⟨v124, rfl, ho0, hb⟩; have n0_ := Aside0.mk (Kd.R_elder' (upR HO108.out) (Kd.R_base ho0) hb); have n1_ := Aside0.mk (Kd.R_elder' (upR HO115.out) (Kd.R_base ho0) hb); have n2_ := Aside0.mk (Kd.R_elder' (upR HO118.out) (Kd.R_base ho0) hb); have n3_ := Aside0.mk (Kd.R_elder' (upR HO121.out) (Kd.R_base ho0) hb); have n4_ := Aside0.mk (Kd.R_lower (Kd.R_new' (Kd.R_new' (Kd.R_new' (Kd.R_new' ho0 (Kd.R_lt (upR HO108.out))) (Kd.R_lt (upR HO115.out))) (Kd.R_lt (upR HO118.out))) (Kd.R_lt (upR HO121.out))) (below_size (upB HB.out))); have n5_ := Aside0.mk (below_step (upB HB.out) hb); clear HO108; clear HO115; clear HO118; clear HO121; clear HB; have HO108 := n0_; have HO115 := n1_; have HO118 := n2_; have HO121 := n3_; have HO125 := n4_; have HB := n5_; clear n0_ n1_ n2_ n3_ n4_ n5_; (try clear hb); (try clear hb2); (try clear hk); (try clear hi); (try clear ho0); obtain ⟨Ao49, co49, eo49⟩ := Kd.R_slice HO118.out; subst eo49; obtain ⟨Ao50, co50, eo50⟩ := Kd.R_slice HO125.out; subst eo50) | (go_at_call 22; (with_reducible refine (remoraref20_Same.calls kj2 _ _ t116 _ _ t123 false _ ?side1 ?side2 ?side3 ?side4 A27.out).mono ?_); (case side1 => repeat (first | exact (Kd.R_reads' HO118.out).2.2 | (with_reducible refine Kd.C_alloc ?_ _) | (with_reducible refine Kd.C_drewN ?_ _) | (with_reducible refine Kd.C_drew ?_))); (case side2 => exact (Kd.R_reads' HO118.out).2.1); (case side3 => repeat (first | exact (Kd.R_reads' HO125.out).2.2 | (with_reducible refine Kd.C_alloc ?_ _) | (with_reducible refine Kd.C_drewN ?_ _) | (with_reducible refine Kd.C_drew ?_))); (case side4 => exact (Kd.R_reads' HO125.out).2.1); rintro e w' ⟨rfl, ⟨nd, rfl⟩⟩))
       go_meet
       case rel => exact ⟨_, (true), (by first | rfl | (simp; done) | (simp [*]; done)), H', ⟨by have := HJ2.out; first | omega | exact Nat.le_refl _⟩, ⟨upR (Kd.R_mono HO108.out (fun _ hk => ⟨hk.1.1.1.2, hk.1.1.2⟩))⟩, ⟨upR (Kd.R_mono HO115.out (fun _ hk => ⟨hk.1.1.1.2, hk.1.1.2⟩))⟩, ⟨upR (Kd.R_mono HO118.out (fun _ hk => ⟨hk.1.1.1.2, hk.1.1.2⟩))⟩, ⟨upB HB.out⟩⟩
      replace c25 := Bool.eq_false_iff.mpr c25
      subst c25
      have H1 : (remoralaw20_FlistFinds.j1 kj2 l0 y106 t113 t116 true) = some r := by rw [if_neg (show ¬ (false = true) by decide)] at H; exact H
      clear H
      have H := H1
      clear H1
      have H' := Aside0.mk H
      clear H
      go_wp2_with (first | (go_at_call 26; (with_reducible refine (remoraref20_Below.calls kj2 _ _ l0 a1 t119 _ ?side1 ?side2 A23.out).mono ?_); (case side1 => repeat (first | exact (Kd.C_below HR0.out HB.out) | (with_reducible refine Kd.C_alloc ?_ _) | (with_reducible refine Kd.C_drewN ?_ _) | (with_reducible refine Kd.C_drew ?_))); (case side2 => exact HC0.out); rintro e w51 ⟨v120, rfl, ho0, hb⟩; have n0_ := Aside0.mk (Kd.R_elder' (upR HO108.out) (Kd.R_base ho0) hb); have n1_ := Aside0.mk (Kd.R_elder' (upR HO115.out) (Kd.R_base ho0) hb); have n2_ := Aside0.mk (Kd.R_elder' (upR HO118.out) (Kd.R_base ho0) hb); have n3_ := Aside0.mk (Kd.R_lower (Kd.R_new' (Kd.R_new' (Kd.R_new' ho0 (Kd.R_lt (upR HO108.out))) (Kd.R_lt (upR HO115.out))) (Kd.R_lt (upR HO118.out))) (below_size (upB HB.out))); have n4_ := Aside0.mk (below_step (upB HB.out) hb); clear HO108; clear HO115; clear HO118; clear HB; have HO108 := n0_; have HO115 := n1_; have HO118 := n2_; have HO121 := n3_; have HB := n4_; clear n0_ n1_ n2_ n3_ n4_; (try clear hb); (try clear hb2); (try clear hk); (try clear hi); (try clear ho0); obtain ⟨Ao52, co52, eo52⟩ := Kd.R_slice HO115.out; subst eo52; obtain ⟨Ao53, co53, eo53⟩ := Kd.R_slice HO121.out; subst eo53) | (go_at_call 22; (with_reducible refine (remoraref20_Same.calls kj2 _ _ t113 _ _ t119 false _ ?side1 ?side2 ?side3 ?side4 A24.out).mono ?_); (case side1 => repeat (first | exact (Kd.R_reads' HO115.out).2.2 | (with_reducible refine Kd.C_alloc ?_ _) | (with_reducible refine Kd.C_drewN ?_ _) | (with_reducible refine Kd.C_drew ?_))); (case side2 => exact (Kd.R_reads' HO115.out).2.1); (case side3 => repeat (first | exact (Kd.R_reads' HO121.out).2.2 | (with_reducible refine Kd.C_alloc ?_ _) | (with_reducible refine Kd.C_drewN ?_ _) | (with_reducible refine Kd.C_drew ?_))); (case side4 => exact (Kd.R_reads' HO121.out).2.1); rintro e w' ⟨rfl, ⟨nd, rfl⟩⟩))
      go_meet
      case rel => exact ⟨_, (true), (by first | rfl | (simp; done) | (simp [*]; done)), H', ⟨by have := HJ2.out; first | omega | exact Nat.le_refl _⟩, ⟨upR (Kd.R_mono HO108.out (fun _ hk => ⟨hk.1.1.2, hk.1.2⟩))⟩, ⟨upR (Kd.R_mono HO115.out (fun _ hk => ⟨hk.1.1.2, hk.1.2⟩))⟩, ⟨upR (Kd.R_mono HO118.out (fun _ hk => ⟨hk.1.1.2, hk.1.2⟩))⟩, ⟨upB HB.out⟩⟩
     rw [if_neg c21] at H
     have c21b0 : (t109 == t111) = false := beq_eq_false_iff_ne.mpr c21
     have c21b1 : (t109 != t111) = true := bne_iff_ne.mpr c21
     (first | rw [c21b0] | (simp only [i64_w, i32_w]; rw [c21b0]) | skip)
     have H' := Aside0.mk H
     clear H
     go_wp2
     go_meet
     case rel => exact ⟨_, (true), (by first | rfl | (simp; done) | (simp [*]; done)), H', ⟨by have := HJ2.out; first | omega | exact Nat.le_refl _⟩, ⟨upR (Kd.R_mono HO108.out (fun _ hk => ⟨hk.1.2, hk.2⟩))⟩, ⟨upR (Kd.R_mono HO115.out (fun _ hk => ⟨hk.1.2, hk.2⟩))⟩, ⟨upR (Kd.R_mono HO118.out (fun _ hk => ⟨hk.1.2, hk.2⟩))⟩, ⟨upB HB.out⟩⟩
    case rest =>
     clear HC14
     try clear c1
     try clear c2
     try clear p2
     try clear c3
     try clear c5
     try clear c6
     try clear c9
     try clear c10
     try clear c11
     try clear c16
     try clear c17
     try clear c21
     try clear c21b0
     try clear c21b1
     try clear c22
     try clear c22b0
     try clear c22b1
     try clear c22b2
     try clear c23
     try clear c25
     try clear c28
     try clear c31
     try clear c31b0
     try clear c31b1
     try clear c31b2
     try clear p2
     obtain ⟨kq, x80_13, rfl, HA, HJ13, HO_5, HO_10, HO_11, HB⟩ := hcut
     cases kq with
     | zero => exact absurd HA.out (by simp [remoralaw20_FlistFinds.j1])
     | succ kj13 =>
      have H := HA.out
      clear HA
      simp only [remoralaw20_FlistFinds.j1] at H
      by_cases c54 : x80_13 = true
      ·subst c54
       have H1 : (some false) = some r := by rw [if_pos rfl] at H; exact H
       clear H
       have H := H1
       clear H1
       obtain rfl := Option.some.inj H
       go_wp2
       go_ret
       exact ⟨by first | rfl | (simp [errW_none, errW_some] <;> rfl) | (simp [*, errW_none, errW_some] <;> rfl), upB HB.out⟩
      replace c54 := Bool.eq_false_iff.mpr c54
      subst c54
      have H1 : (remoralaw20_FlistFinds.l0 kj13 l0 y106 t113 t116 0) = some r := by rw [if_neg (show ¬ (false = true) by decide)] at H; exact H
      clear H
      have H := H1
      clear H1
      have H' := Aside0.mk H
      clear H
      go_wp2
      go_loopg [12] kj13 (fun kq v12 w' => ∃ (x10_3 : List (S35)) (x12_3 : Int), v12 = .int .i64 x12_3 ∧ Aside0 (remoralaw20_FlistFinds.l0 kq l0 y106 x10_3 t116 x12_3 = some r) ∧ Aside0 (kq ≤ kj13) ∧ Aside0 (Kd.R k35 35 w' w.heap.size (fun k_ => some k_ ≠ (v114 : Value).ownBlock ∧ some k_ ≠ (v117 : Value).ownBlock) v107 y106) ∧ Aside0 (Kd.R k35 35 w' w.heap.size (fun k_ => some k_ ≠ (v107 : Value).ownBlock ∧ some k_ ≠ (v117 : Value).ownBlock) v114 x10_3) ∧ Aside0 (Kd.R k35 35 w' w.heap.size (fun k_ => some k_ ≠ (v107 : Value).ownBlock ∧ some k_ ≠ (v114 : Value).ownBlock) v117 t116) ∧ Aside0 (Below w.heap.size w w'))
      case atStart => exact ⟨(t113), (0), (by first | rfl | (simp; done) | (simp [*]; done)), H', ⟨Nat.le_refl _⟩, ⟨upR HO_5.out⟩, ⟨upR HO_10.out⟩, ⟨upR HO_11.out⟩, ⟨upB HB.out⟩⟩
      case round =>
       clear H'
       try clear c1
       try clear c2
       try clear p2
       try clear c3
       try clear c5
       try clear c6
       try clear c9
       try clear c10
       try clear c11
       try clear c16
       try clear c17
       try clear c21
       try clear c21b0
       try clear c21b1
       try clear c22
       try clear c22b0
       try clear c22b1
       try clear c22b2
       try clear c23
       try clear c25
       try clear c28
       try clear c31
       try clear c31b0
       try clear c31b1
       try clear c31b2
       try clear c54
       try clear p2
       obtain ⟨x10_3, x12_3, rfl, HA, HK3, HO_5, HO_10, HO_11, HB⟩ := hrel
       cases gk with
       | zero => exact absurd HA.out (by simp [remoralaw20_FlistFinds.l0])
       | succ k3 =>
        have H := HA.out
        clear HA
        simp only [remoralaw20_FlistFinds.l0] at H
        by_cases c55 : x12_3 < (x10_3.length : Int)
        ·rw [if_pos c55] at H
         have c55b0 : decide (x12_3 < (x10_3.length : Int)) = true := decide_eq_true c55
         clear c55
         by_cases c56 : 0 ≤ x12_3
         ·rw [if_pos c56] at H
          have c56b0 : decide (0 ≤ x12_3) = true := decide_eq_true c56
          clear c56
          obtain ⟨y130, hy130⟩ : ∃ y_ : List (S35), y_ = (x10_3.set (x12_3 : Int).toNat (⟨(⟨#[63]⟩ : ByteArray), (rd_T35 x10_3 x12_3).f1, (rd_T35 x10_3 x12_3).f2, (⟨(rd_T35 x10_3 x12_3).f3.f0, (rd_T35 x10_3 x12_3).f3.f1, (rd_T35 x10_3 x12_3).f3.f2, (rd_T35 x10_3 x12_3).f3.f3, (rd_T35 x10_3 x12_3).f3.f4⟩ : S33), (rd_T35 x10_3 x12_3).f4, (rd_T35 x10_3 x12_3).f5, (rd_T35 x10_3 x12_3).f6⟩ : S35)) := ⟨_, rfl⟩
          replace H : (remoralaw20_FlistFinds.l0 k3 l0 y106 y130 t116 (wrap64 (x12_3 + 1))) = some r := by first | (rw [hy130]; with_reducible exact H) | (have H2_ := (Option.bind_some _ _).symm.trans H; rw [hy130]; with_reducible exact H2_) | (have H2_ := (Option.bind_some _ _).symm.trans H; with_reducible exact H2_) | with_reducible exact H | (rw [hy130]; exact H) | exact H
          have Ny130 := Aside0.mk hy130
          clear hy130
          have H' := Aside0.mk H
          clear H
          obtain ⟨Ao58, co58, eo58⟩ := Kd.R_slice HO_10.out
          subst eo58
          have p57 : 0 ≤ (x12_3 : Int) := of_decide_eq_true (by first | (with_reducible assumption) | assumption)
          have q57 : (x12_3 : Int) < ((x10_3.length : Int) : Int) := of_decide_eq_true (by first | (with_reducible assumption) | assumption)
          obtain ⟨go57, co57, eo57, gb57, gl57, cl57, HG57⟩ := Kd.R_form HO_10.out (by omega)
          (first | cases eo57 | (injection eo57 with ea_ en_ ec_; (first | subst ea_ | (injection ea_ with ea_; subst ea_)); subst ec_; clear en_))
          have GB57 := Aside0.mk gb57
          have GG57 := Aside0.mk HG57
          clear gb57 gl57 HG57
          obtain ⟨ce57, hcl57, hM57, hcc57, hfr57⟩ := Kd.R_elem HO_10.out z35 (x12_3 : Int) p57 q57
          obtain rfl := k35_openM hM57
          have hx57_0 : wr.cell? ⟨go57, (x12_3 : Int).toNat * 11, none⟩ = some (.string ((rd_T35 x10_3 x12_3).f0)) := hcc57 0 _ rfl
          have hx57_1 : wr.cell? ⟨go57, (x12_3 : Int).toNat * 11 + 1, none⟩ = some (.int .i64 ((rd_T35 x10_3 x12_3).f1)) := hcc57 1 _ rfl
          have hx57_2 : wr.cell? ⟨go57, (x12_3 : Int).toNat * 11 + 2, none⟩ = some (.int .i64 ((rd_T35 x10_3 x12_3).f2)) := hcc57 2 _ rfl
          have hx57_3 : wr.cell? ⟨go57, (x12_3 : Int).toNat * 11 + 3, none⟩ = some (.int .i64 ((rd_T35 x10_3 x12_3).f3.f0)) := hcc57 3 _ rfl
          have hx57_4 : wr.cell? ⟨go57, (x12_3 : Int).toNat * 11 + 4, none⟩ = some (.int .i64 ((rd_T35 x10_3 x12_3).f3.f1)) := hcc57 4 _ rfl
          have hx57_5 : wr.cell? ⟨go57, (x12_3 : Int).toNat * 11 + 5, none⟩ = some (.int .i64 ((rd_T35 x10_3 x12_3).f3.f2)) := hcc57 5 _ rfl
          have hx57_6 : wr.cell? ⟨go57, (x12_3 : Int).toNat * 11 + 6, none⟩ = some (.int .i64 ((rd_T35 x10_3 x12_3).f3.f3)) := hcc57 6 _ rfl
          have hx57_7 : wr.cell? ⟨go57, (x12_3 : Int).toNat * 11 + 7, none⟩ = some (.int .i64 ((rd_T35 x10_3 x12_3).f3.f4)) := hcc57 7 _ rfl
          have hx57_8 : wr.cell? ⟨go57, (x12_3 : Int).toNat * 11 + 8, none⟩ = some (.string ((rd_T35 x10_3 x12_3).f4)) := hcc57 8 _ rfl
          have hx57_9 : wr.cell? ⟨go57, (x12_3 : Int).toNat * 11 + 9, none⟩ = some (.string ((rd_T35 x10_3 x12_3).f5)) := hcc57 9 _ rfl
          have hx57_10 : wr.cell? ⟨go57, (x12_3 : Int).toNat * 11 + 10, none⟩ = some (.int .i64 ((rd_T35 x10_3 x12_3).f6)) := hcc57 10 _ rfl
          have hf57_0 : wr.frozen? ⟨go57, (x12_3 : Int).toNat * 11, none⟩ = false := hfr57 0
          have hf57_1 : wr.frozen? ⟨go57, (x12_3 : Int).toNat * 11 + 1, none⟩ = false := hfr57 1
          have hf57_2 : wr.frozen? ⟨go57, (x12_3 : Int).toNat * 11 + 2, none⟩ = false := hfr57 2
          have hf57_3 : wr.frozen? ⟨go57, (x12_3 : Int).toNat * 11 + 3, none⟩ = false := hfr57 3
          have hf57_4 : wr.frozen? ⟨go57, (x12_3 : Int).toNat * 11 + 4, none⟩ = false := hfr57 4
          have hf57_5 : wr.frozen? ⟨go57, (x12_3 : Int).toNat * 11 + 5, none⟩ = false := hfr57 5
          have hf57_6 : wr.frozen? ⟨go57, (x12_3 : Int).toNat * 11 + 6, none⟩ = false := hfr57 6
          have hf57_7 : wr.frozen? ⟨go57, (x12_3 : Int).toNat * 11 + 7, none⟩ = false := hfr57 7
          have hf57_8 : wr.frozen? ⟨go57, (x12_3 : Int).toNat * 11 + 8, none⟩ = false := hfr57 8
          have hf57_9 : wr.frozen? ⟨go57, (x12_3 : Int).toNat * 11 + 9, none⟩ = false := hfr57 9
          have hf57_10 : wr.frozen? ⟨go57, (x12_3 : Int).toNat * 11 + 10, none⟩ = false := hfr57 10
          clear hcl57 hcc57 hfr57 hM57
          replace p57 := eq_true p57
          replace q57 := eq_true q57
          have HX59 := Aside0.mk (show Kd.R k35 35 wr w.heap.size (fun k_ => some k_ ≠ (v107 : Value).ownBlock ∧ some k_ ≠ (v117 : Value).ownBlock) (.slice (some ⟨go57, 0, none⟩) x10_3.length co58) x10_3 from (upR HO_10.out))
          obtain ⟨ce59, hcl59, hM59, hcc59, hfr59⟩ := Kd.R_elem HX59.out z35 (x12_3 : Int) (of_decide_eq_true (by first | (with_reducible assumption) | assumption)) (by have h_ : (x12_3 : Int) < ((x10_3.length : Int) : Int) := of_decide_eq_true (by first | (with_reducible assumption) | assumption); first | exact h_ | (have e_ := (Kd.R_reads' HO_10.out).1; omega) | simpa using h_)
          obtain rfl := k35_openM hM59
          have HP59 := Kd.R_seg HX59.out (x12_3 : Int) (of_decide_eq_true (by first | (with_reducible assumption) | assumption)) (by have h_ : (x12_3 : Int) < ((x10_3.length : Int) : Int) := of_decide_eq_true (by first | (with_reducible assumption) | assumption); first | exact h_ | (have e_ := (Kd.R_reads' HO_10.out).1; omega) | simpa using h_) (seg := [.string (⟨#[63]⟩ : ByteArray)]) (j := 0) hcl59 hcc59 (show 1 ≤ 11 from by decide) (x' := (⟨(⟨#[63]⟩ : ByteArray), (rd_T35 x10_3 x12_3).f1, (rd_T35 x10_3 x12_3).f2, (⟨(rd_T35 x10_3 x12_3).f3.f0, (rd_T35 x10_3 x12_3).f3.f1, (rd_T35 x10_3 x12_3).f3.f2, (rd_T35 x10_3 x12_3).f3.f3, (rd_T35 x10_3 x12_3).f3.f4⟩ : S33), (rd_T35 x10_3 x12_3).f4, (rd_T35 x10_3 x12_3).f5, (rd_T35 x10_3 x12_3).f6⟩ : S35)) (k35_mkM _ _ _ (⟨(⟨#[63]⟩ : ByteArray), (rd_T35 x10_3 x12_3).f1, (rd_T35 x10_3 x12_3).f2, (⟨(rd_T35 x10_3 x12_3).f3.f0, (rd_T35 x10_3 x12_3).f3.f1, (rd_T35 x10_3 x12_3).f3.f2, (rd_T35 x10_3 x12_3).f3.f3, (rd_T35 x10_3 x12_3).f3.f4⟩ : S33), (rd_T35 x10_3 x12_3).f4, (rd_T35 x10_3 x12_3).f5, (rd_T35 x10_3 x12_3).f6⟩ : S35) ) (fun _ hk => hk)
          have hx59_0 := hcc59 0 _ rfl
          (try simp only [show (k35).sz = 11 from rfl, Nat.mul_one, Nat.add_zero] at hx59_0)
          have hf59_0 := hfr59 0
          (try simp only [show (k35).sz = 11 from rfl, Nat.mul_one, Nat.add_zero] at hf59_0)
          clear hcl59 hcc59 hfr59 hM59
          go_wp2_with (first | ((with_reducible refine gate_store (t := 9) (p := 90) rfl ?_); refine store_event (t := 9) (p := 90) (v := ?vo_w60) (w1 := (wr.setCell ⟨go57, (x12_3 : Int).toNat * 11, none⟩ (.string (⟨#[63]⟩ : ByteArray)))) ?hg ?ho ?hn ?hr ?_; (case ho => rfl); (case hg => rfl); (case hn => rfl); (case hr => first | (go_simp; done) | (go_simp; rfl)); intro w60 hw; have hg : wr.grownBy w60 (some go57) := (by rw [hw]; exact HP59.2); have hp_ : Kd.R k35 35 w60 w.heap.size (fun k_ => some k_ ≠ (v107 : Value).ownBlock ∧ some k_ ≠ (v117 : Value).ownBlock) (.slice (some ⟨go57, 0, none⟩) x10_3.length co58) y130 := (by rw [hw, Ny130.out]; exact HP59.1); clear HP59; have n0_ := Aside0.mk (Kd.R_after (v := (.slice (some ⟨go57, 0, none⟩) x10_3.length co58)) (v1 := (.slice (some ⟨go57, 0, none⟩) x10_3.length co58)) (ok := (fun k_ => some k_ ≠ (v117 : Value).ownBlock)) (upR (Kd.R_mono HO_5.out (fun _ hk => ⟨hk.2, hk.1⟩))) hg (.inl rfl)); have n1_ := Aside0.mk (hp_); have n2_ := Aside0.mk (Kd.R_after (v := (.slice (some ⟨go57, 0, none⟩) x10_3.length co58)) (v1 := (.slice (some ⟨go57, 0, none⟩) x10_3.length co58)) (ok := (fun k_ => some k_ ≠ (v107 : Value).ownBlock)) (upR HO_11.out) hg (.inl rfl)); have n3_ := Aside0.mk ((by rw [hw]; exact below_set (HB.out) GB57.out : Below w.heap.size w w60)); clear HO_5; clear HO_10; clear HO_11; clear HB; have HO_5 := n0_; have HO_10 := n1_; have HO_11 := n2_; have HB := n3_; clear n0_ n1_ n2_ n3_; clear hg hw hp_))
          go_roundg k3
          case measure => have := HJ2.out; have := HJ13.out; have := HK3.out; omega
          case rel => exact ⟨(y130), (wrap64 (x12_3 + 1)), (by first | rfl | (simp; done) | (simp [*]; done)), H', ⟨by have := HJ2.out; have := HJ13.out; have := HK3.out; omega⟩, ⟨upR (Kd.R_mono HO_5.out (fun _ hk => ⟨hk.2, hk.1⟩))⟩, ⟨upR HO_10.out⟩, ⟨upR HO_11.out⟩, ⟨upB HB.out⟩⟩
         rw [if_neg c56] at H
         exact absurd H (by simp)
        rw [if_neg c55] at H
        have c55b0 : decide (x12_3 < (x10_3.length : Int)) = false := decide_eq_false c55
        clear c55
        have H' := Aside0.mk H
        clear H
        obtain ⟨Ao61, co61, eo61⟩ := Kd.R_slice HO_10.out
        subst eo61
        go_wp2
        go_loopg [13] k3 (fun kq v13 w' => ∃ (x11_4 : List (S35)) (x13_4 : Int), v13 = .int .i64 x13_4 ∧ Aside0 (remoralaw20_FlistFinds.l1 kq l0 y106 x11_4 x13_4 = some r) ∧ Aside0 (kq ≤ k3) ∧ Aside0 (Kd.R k35 35 w' w.heap.size (fun k_ => some k_ ≠ (v117 : Value).ownBlock) v107 y106) ∧ Aside0 (Kd.R k35 35 w' w.heap.size (fun k_ => some k_ ≠ (v107 : Value).ownBlock) v117 x11_4) ∧ Aside0 (Below w.heap.size w w'))
        case atStart => exact ⟨(t116), (0), (by first | rfl | (simp; done) | (simp [*]; done)), H', ⟨Nat.le_refl _⟩, ⟨upR (Kd.R_mono HO_5.out (fun _ hk => hk.2))⟩, ⟨upR (Kd.R_mono HO_11.out (fun _ hk => hk.1))⟩, ⟨upB HB.out⟩⟩
        case round =>
         clear H'
         try clear c1
         try clear c2
         try clear p2
         try clear c3
         try clear c5
         try clear p5
         try clear q5
         try clear hx5
         try clear hf5
         try clear c6
         try clear p6
         try clear c9
         try clear c10
         try clear c11
         try clear c16
         try clear c17
         try clear c21
         try clear c21b0
         try clear c21b1
         try clear c22
         try clear c22b0
         try clear c22b1
         try clear c22b2
         try clear c23
         try clear c25
         try clear c28
         try clear c31
         try clear c31b0
         try clear c31b1
         try clear c31b2
         try clear c54
         try clear c55
         try clear c55b0
         try clear c56
         try clear c56b0
         try clear c57
         try clear p57
         try clear q57
         try clear hx57
         try clear hf57
         try clear c59
         try clear hx59
         try clear hf59
         try clear hx57_0
         try clear hx57_1
         try clear hx57_10
         try clear hx57_2
         try clear hx57_3
         try clear hx57_4
         try clear hx57_5
         try clear hx57_6
         try clear hx57_7
         try clear hx57_8
         try clear hx57_9
         try clear hx59_0
         try clear p2
         try clear p57
         try clear q57
         obtain ⟨x11_4, x13_4, rfl, HA, HK4, HO_5, HO_11, HB⟩ := hrel
         cases gk with
         | zero => exact absurd HA.out (by simp [remoralaw20_FlistFinds.l1])
         | succ k4 =>
          have H := HA.out
          clear HA
          simp only [remoralaw20_FlistFinds.l1] at H
          by_cases c62 : x13_4 < (x11_4.length : Int)
          ·rw [if_pos c62] at H
           have c62b0 : decide (x13_4 < (x11_4.length : Int)) = true := decide_eq_true c62
           clear c62
           by_cases c63 : 0 ≤ x13_4
           ·rw [if_pos c63] at H
            have c63b0 : decide (0 ≤ x13_4) = true := decide_eq_true c63
            clear c63
            obtain ⟨y131, hy131⟩ : ∃ y_ : List (S35), y_ = (x11_4.set (x13_4 : Int).toNat (⟨(⟨#[63]⟩ : ByteArray), (rd_T35 x11_4 x13_4).f1, (rd_T35 x11_4 x13_4).f2, (⟨(rd_T35 x11_4 x13_4).f3.f0, (rd_T35 x11_4 x13_4).f3.f1, (rd_T35 x11_4 x13_4).f3.f2, (rd_T35 x11_4 x13_4).f3.f3, (rd_T35 x11_4 x13_4).f3.f4⟩ : S33), (rd_T35 x11_4 x13_4).f4, (rd_T35 x11_4 x13_4).f5, (rd_T35 x11_4 x13_4).f6⟩ : S35)) := ⟨_, rfl⟩
            replace H : (remoralaw20_FlistFinds.l1 k4 l0 y106 y131 (wrap64 (x13_4 + 1))) = some r := by first | (rw [hy131]; with_reducible exact H) | (have H2_ := (Option.bind_some _ _).symm.trans H; rw [hy131]; with_reducible exact H2_) | (have H2_ := (Option.bind_some _ _).symm.trans H; with_reducible exact H2_) | with_reducible exact H | (rw [hy131]; exact H) | exact H
            have Ny131 := Aside0.mk hy131
            clear hy131
            have H' := Aside0.mk H
            clear H
            obtain ⟨Ao65, co65, eo65⟩ := Kd.R_slice HO_11.out
            subst eo65
            have p64 : 0 ≤ (x13_4 : Int) := of_decide_eq_true (by first | (with_reducible assumption) | assumption)
            have q64 : (x13_4 : Int) < ((x11_4.length : Int) : Int) := of_decide_eq_true (by first | (with_reducible assumption) | assumption)
            obtain ⟨go64, co64, eo64, gb64, gl64, cl64, HG64⟩ := Kd.R_form HO_11.out (by omega)
            (first | cases eo64 | (injection eo64 with ea_ en_ ec_; (first | subst ea_ | (injection ea_ with ea_; subst ea_)); subst ec_; clear en_))
            have GB64 := Aside0.mk gb64
            have GG64 := Aside0.mk HG64
            clear gb64 gl64 HG64
            obtain ⟨ce64, hcl64, hM64, hcc64, hfr64⟩ := Kd.R_elem HO_11.out z35 (x13_4 : Int) p64 q64
            obtain rfl := k35_openM hM64
            have hx64_0 : wr.cell? ⟨go64, (x13_4 : Int).toNat * 11, none⟩ = some (.string ((rd_T35 x11_4 x13_4).f0)) := hcc64 0 _ rfl
            have hx64_1 : wr.cell? ⟨go64, (x13_4 : Int).toNat * 11 + 1, none⟩ = some (.int .i64 ((rd_T35 x11_4 x13_4).f1)) := hcc64 1 _ rfl
            have hx64_2 : wr.cell? ⟨go64, (x13_4 : Int).toNat * 11 + 2, none⟩ = some (.int .i64 ((rd_T35 x11_4 x13_4).f2)) := hcc64 2 _ rfl
            have hx64_3 : wr.cell? ⟨go64, (x13_4 : Int).toNat * 11 + 3, none⟩ = some (.int .i64 ((rd_T35 x11_4 x13_4).f3.f0)) := hcc64 3 _ rfl
            have hx64_4 : wr.cell? ⟨go64, (x13_4 : Int).toNat * 11 + 4, none⟩ = some (.int .i64 ((rd_T35 x11_4 x13_4).f3.f1)) := hcc64 4 _ rfl
            have hx64_5 : wr.cell? ⟨go64, (x13_4 : Int).toNat * 11 + 5, none⟩ = some (.int .i64 ((rd_T35 x11_4 x13_4).f3.f2)) := hcc64 5 _ rfl
            have hx64_6 : wr.cell? ⟨go64, (x13_4 : Int).toNat * 11 + 6, none⟩ = some (.int .i64 ((rd_T35 x11_4 x13_4).f3.f3)) := hcc64 6 _ rfl
            have hx64_7 : wr.cell? ⟨go64, (x13_4 : Int).toNat * 11 + 7, none⟩ = some (.int .i64 ((rd_T35 x11_4 x13_4).f3.f4)) := hcc64 7 _ rfl
            have hx64_8 : wr.cell? ⟨go64, (x13_4 : Int).toNat * 11 + 8, none⟩ = some (.string ((rd_T35 x11_4 x13_4).f4)) := hcc64 8 _ rfl
            have hx64_9 : wr.cell? ⟨go64, (x13_4 : Int).toNat * 11 + 9, none⟩ = some (.string ((rd_T35 x11_4 x13_4).f5)) := hcc64 9 _ rfl
            have hx64_10 : wr.cell? ⟨go64, (x13_4 : Int).toNat * 11 + 10, none⟩ = some (.int .i64 ((rd_T35 x11_4 x13_4).f6)) := hcc64 10 _ rfl
            have hf64_0 : wr.frozen? ⟨go64, (x13_4 : Int).toNat * 11, none⟩ = false := hfr64 0
            have hf64_1 : wr.frozen? ⟨go64, (x13_4 : Int).toNat * 11 + 1, none⟩ = false := hfr64 1
            have hf64_2 : wr.frozen? ⟨go64, (x13_4 : Int).toNat * 11 + 2, none⟩ = false := hfr64 2
            have hf64_3 : wr.frozen? ⟨go64, (x13_4 : Int).toNat * 11 + 3, none⟩ = false := hfr64 3
            have hf64_4 : wr.frozen? ⟨go64, (x13_4 : Int).toNat * 11 + 4, none⟩ = false := hfr64 4
            have hf64_5 : wr.frozen? ⟨go64, (x13_4 : Int).toNat * 11 + 5, none⟩ = false := hfr64 5
            have hf64_6 : wr.frozen? ⟨go64, (x13_4 : Int).toNat * 11 + 6, none⟩ = false := hfr64 6
            have hf64_7 : wr.frozen? ⟨go64, (x13_4 : Int).toNat * 11 + 7, none⟩ = false := hfr64 7
            have hf64_8 : wr.frozen? ⟨go64, (x13_4 : Int).toNat * 11 + 8, none⟩ = false := hfr64 8
            have hf64_9 : wr.frozen? ⟨go64, (x13_4 : Int).toNat * 11 + 9, none⟩ = false := hfr64 9
            have hf64_10 : wr.frozen? ⟨go64, (x13_4 : Int).toNat * 11 + 10, none⟩ = false := hfr64 10
            clear hcl64 hcc64 hfr64 hM64
            replace p64 := eq_true p64
            replace q64 := eq_true q64
            have HX66 := Aside0.mk (show Kd.R k35 35 wr w.heap.size (fun k_ => some k_ ≠ (v107 : Value).ownBlock) (.slice (some ⟨go64, 0, none⟩) x11_4.length co65) x11_4 from (upR HO_11.out))
            obtain ⟨ce66, hcl66, hM66, hcc66, hfr66⟩ := Kd.R_elem HX66.out z35 (x13_4 : Int) (of_decide_eq_true (by first | (with_reducible assumption) | assumption)) (by have h_ : (x13_4 : Int) < ((x11_4.length : Int) : Int) := of_decide_eq_true (by first | (with_reducible assumption) | assumption); first | exact h_ | (have e_ := (Kd.R_reads' HO_11.out).1; omega) | simpa using h_)
            obtain rfl := k35_openM hM66
            have HP66 := Kd.R_seg HX66.out (x13_4 : Int) (of_decide_eq_true (by first | (with_reducible assumption) | assumption)) (by have h_ : (x13_4 : Int) < ((x11_4.length : Int) : Int) := of_decide_eq_true (by first | (with_reducible assumption) | assumption); first | exact h_ | (have e_ := (Kd.R_reads' HO_11.out).1; omega) | simpa using h_) (seg := [.string (⟨#[63]⟩ : ByteArray)]) (j := 0) hcl66 hcc66 (show 1 ≤ 11 from by decide) (x' := (⟨(⟨#[63]⟩ : ByteArray), (rd_T35 x11_4 x13_4).f1, (rd_T35 x11_4 x13_4).f2, (⟨(rd_T35 x11_4 x13_4).f3.f0, (rd_T35 x11_4 x13_4).f3.f1, (rd_T35 x11_4 x13_4).f3.f2, (rd_T35 x11_4 x13_4).f3.f3, (rd_T35 x11_4 x13_4).f3.f4⟩ : S33), (rd_T35 x11_4 x13_4).f4, (rd_T35 x11_4 x13_4).f5, (rd_T35 x11_4 x13_4).f6⟩ : S35)) (k35_mkM _ _ _ (⟨(⟨#[63]⟩ : ByteArray), (rd_T35 x11_4 x13_4).f1, (rd_T35 x11_4 x13_4).f2, (⟨(rd_T35 x11_4 x13_4).f3.f0, (rd_T35 x11_4 x13_4).f3.f1, (rd_T35 x11_4 x13_4).f3.f2, (rd_T35 x11_4 x13_4).f3.f3, (rd_T35 x11_4 x13_4).f3.f4⟩ : S33), (rd_T35 x11_4 x13_4).f4, (rd_T35 x11_4 x13_4).f5, (rd_T35 x11_4 x13_4).f6⟩ : S35) ) (fun _ hk => hk)
            have hx66_0 := hcc66 0 _ rfl
            (try simp only [show (k35).sz = 11 from rfl, Nat.mul_one, Nat.add_zero] at hx66_0)
            have hf66_0 := hfr66 0
            (try simp only [show (k35).sz = 11 from rfl, Nat.mul_one, Nat.add_zero] at hf66_0)
            clear hcl66 hcc66 hfr66 hM66
            go_wp2_with (first | ((with_reducible refine gate_store (t := 9) (p := 100) rfl ?_); refine store_event (t := 9) (p := 100) (v := ?vo_w67) (w1 := (wr.setCell ⟨go64, (x13_4 : Int).toNat * 11, none⟩ (.string (⟨#[63]⟩ : ByteArray)))) ?hg ?ho ?hn ?hr ?_; (case ho => rfl); (case hg => rfl); (case hn => rfl); (case hr => first | (go_simp; done) | (go_simp; rfl)); intro w67 hw; have hg : wr.grownBy w67 (some go64) := (by rw [hw]; exact HP66.2); have hp_ : Kd.R k35 35 w67 w.heap.size (fun k_ => some k_ ≠ (v107 : Value).ownBlock) (.slice (some ⟨go64, 0, none⟩) x11_4.length co65) y131 := (by rw [hw, Ny131.out]; exact HP66.1); clear HP66; have n0_ := Aside0.mk (Kd.R_after (v := (.slice (some ⟨go64, 0, none⟩) x11_4.length co65)) (v1 := (.slice (some ⟨go64, 0, none⟩) x11_4.length co65)) (ok := (fun _ => True)) (upR (Kd.R_mono HO_5.out (fun _ hk => ⟨trivial, hk⟩))) hg (.inl rfl)); have n1_ := Aside0.mk (hp_); have n2_ := Aside0.mk ((by rw [hw]; exact below_set (HB.out) GB64.out : Below w.heap.size w w67)); clear HO_5; clear HO_11; clear HB; have HO_5 := n0_; have HO_11 := n1_; have HB := n2_; clear n0_ n1_ n2_; clear hg hw hp_))
            go_roundg k4
            case measure => have := HJ2.out; have := HJ13.out; have := HK3.out; have := HK4.out; omega
            case rel => exact ⟨(y131), (wrap64 (x13_4 + 1)), (by first | rfl | (simp; done) | (simp [*]; done)), H', ⟨by have := HJ2.out; have := HJ13.out; have := HK3.out; have := HK4.out; omega⟩, ⟨upR (Kd.R_mono HO_5.out (fun _ hk => hk.2))⟩, ⟨upR HO_11.out⟩, ⟨upB HB.out⟩⟩
           rw [if_neg c63] at H
           exact absurd H (by simp)
          rw [if_neg c62] at H
          have c62b0 : decide (x13_4 < (x11_4.length : Int)) = false := decide_eq_false c62
          clear c62
          replace H := Option.bind_eq_some_iff.mp H
          obtain ⟨t132, A680, H⟩ := H
          replace H : (if t132 = true then ((remoralaw20_awake.f k4).bind fun t133 => (some t133)) else (some false)) = some r := H
          have A68 := Aside0.mk A680
          clear A680
          by_cases c69 : t132 = true
          ·subst c69
           have H1 : ((remoralaw20_awake.f k4).bind fun t133 => (some t133)) = some r := by rw [if_pos rfl] at H; exact H
           clear H
           have H := H1
           clear H1
           replace H := Option.bind_eq_some_iff.mp H
           obtain ⟨t133, A700, H⟩ := H
           replace H : (some t133) = some r := H
           have A70 := Aside0.mk A700
           clear A700
           obtain rfl := Option.some.inj H
           obtain ⟨Ao71, co71, eo71⟩ := Kd.R_slice HO_11.out
           subst eo71
           obtain ⟨Ao72, co72, eo72⟩ := Kd.R_slice HO_5.out
           subst eo72
           go_wp2_with (first | ((with_reducible refine gate_callee (f := 22) rfl ?_); refine goesL_ (some 103) rfl rfl Tryd.func22 (by kernel_rfl) rfl #[.slice A0 l0.length c0, .slice Ao72 y106.length co72] rfl (by (try simp only [List.map_toArray, List.map_cons, List.map_nil]); first | done | rfl | (simp only [List.length_drop, List.length_take]; rfl)) ?_; (with_reducible refine (remoraref20_Same.calls k4 _ _ l0 _ _ y106 true _ ?side1 ?side2 ?side3 ?side4 A68.out).mono ?_); (case side1 => repeat (first | exact (Kd.C_below HR0.out HB.out) | (with_reducible refine Kd.C_alloc ?_ _) | (with_reducible refine Kd.C_drewN ?_ _) | (with_reducible refine Kd.C_drew ?_))); (case side2 => exact HC0.out); (case side3 => repeat (first | exact (Kd.R_reads' HO_5.out).2.2 | (with_reducible refine Kd.C_alloc ?_ _) | (with_reducible refine Kd.C_drewN ?_ _) | (with_reducible refine Kd.C_drew ?_))); (case side4 => exact (Kd.R_reads' HO_5.out).2.1); rintro e w' ⟨rfl, ⟨nd, rfl⟩⟩; refine ⟨_, rfl, ?_⟩) | (go_at_call 11; (with_reducible refine (remoralaw20_awake.calls k4  t133 _ A70.out ?sideT).mono ?_); (case sideT => exact HT.out.step (upB HB.out)); rintro e w73 ⟨rfl, hb⟩; have n0_ := Aside0.mk (Kd.R_below (upR HO_5.out) hb); have n1_ := Aside0.mk (Kd.R_below (upR HO_11.out) hb); have n2_ := Aside0.mk (below_step (upB HB.out) hb); clear HO_5; clear HO_11; clear HB; have HO_5 := n0_; have HO_11 := n1_; have HB := n2_; clear n0_ n1_ n2_; (try clear hb); (try clear hb2); (try clear hk); (try clear hi)))
           go_ret
           exact ⟨by first | rfl | (simp [errW_none, errW_some] <;> rfl) | (simp [*, errW_none, errW_some] <;> rfl), upB HB.out⟩
          replace c69 := Bool.eq_false_iff.mpr c69
          subst c69
          have H1 : (some false) = some r := by rw [if_neg (show ¬ (false = true) by decide)] at H; exact H
          clear H
          have H := H1
          clear H1
          obtain rfl := Option.some.inj H
          obtain ⟨Ao74, co74, eo74⟩ := Kd.R_slice HO_11.out
          subst eo74
          obtain ⟨Ao75, co75, eo75⟩ := Kd.R_slice HO_5.out
          subst eo75
          go_wp2_with (first | ((with_reducible refine gate_callee (f := 22) rfl ?_); refine goesL_ (some 103) rfl rfl Tryd.func22 (by kernel_rfl) rfl #[.slice A0 l0.length c0, .slice Ao75 y106.length co75] rfl (by (try simp only [List.map_toArray, List.map_cons, List.map_nil]); first | done | rfl | (simp only [List.length_drop, List.length_take]; rfl)) ?_; (with_reducible refine (remoraref20_Same.calls k4 _ _ l0 _ _ y106 false _ ?side1 ?side2 ?side3 ?side4 A68.out).mono ?_); (case side1 => repeat (first | exact (Kd.C_below HR0.out HB.out) | (with_reducible refine Kd.C_alloc ?_ _) | (with_reducible refine Kd.C_drewN ?_ _) | (with_reducible refine Kd.C_drew ?_))); (case side2 => exact HC0.out); (case side3 => repeat (first | exact (Kd.R_reads' HO_5.out).2.2 | (with_reducible refine Kd.C_alloc ?_ _) | (with_reducible refine Kd.C_drewN ?_ _) | (with_reducible refine Kd.C_drew ?_))); (case side4 => exact (Kd.R_reads' HO_5.out).2.1); rintro e w' ⟨rfl, ⟨nd, rfl⟩⟩; refine ⟨_, rfl, ?_⟩))
          go_ret
          exact ⟨by first | rfl | (simp [errW_none, errW_some] <;> rfl) | (simp [*, errW_none, errW_some] <;> rfl), upB HB.out⟩
   rw [if_neg c9] at H
   exact absurd H (by simp)
set_option linter.unusedVariables false
set_option linter.unusedSimpArgs false
set_option linter.unusedVariables false
set_option linter.unusedSimpArgs false
set_option linter.unusedVariables false
set_option linter.unusedSimpArgs false
set_option linter.unusedVariables false
set_option linter.unusedSimpArgs false
set_option linter.unusedVariables false
set_option linter.unusedSimpArgs false
set_option linter.unusedVariables false
set_option linter.unusedSimpArgs false
set_option linter.unusedVariables false
set_option linter.unusedSimpArgs false
set_option linter.unusedVariables false
set_option linter.unusedSimpArgs false
set_option linter.unusedVariables false
set_option linter.unusedSimpArgs false
set_option linter.unusedVariables false
set_option linter.unusedSimpArgs false
set_option linter.unusedVariables false
set_option linter.unusedSimpArgs false
end Go.Proofs.YtcdmgdegohcmhaaDoor.PA
namespace Go.Proofs.YtcdmgdegohcmhaaDoor.PA
open Go.RowKit Go.Proofs.YtcdmgdegohcmhaaDoorW.PrintWords Go.Proofs.YtcdmgdegohcmhaaDoorW.PrintLast Go.Proofs.YtcdmgdegohcmhaaDoorW.PrintMore
attribute [local go_sem] max2_int min2_int max_two min_two max_three min_three max_four min_four
set_option linter.unusedVariables false
set_option linter.unusedSimpArgs false
theorem putL_len (n : Int) : (putL n).length ≤ 9 := by
 have : ∀ k x, (putN k x).length ≤ k + 1 := by
  intro k
  induction k with
  | zero => intro x; simp [putN]
  | succ k ih =>
   intro x
   unfold putN
   split
   ·have := ih (x / 128)
    simp
    omega
   simp
 exact this 8 (clampN n)
set_option linter.unusedVariables false
set_option linter.unusedSimpArgs false
set_option linter.unusedVariables false
set_option linter.unusedSimpArgs false
set_option linter.unusedVariables false
set_option linter.unusedSimpArgs false
end Go.Proofs.YtcdmgdegohcmhaaDoor.PA
namespace Go.Proofs.YtcdmgdegohcmhaaDoor.PA
open Go.RowKit Go.Proofs.YtcdmgdegohcmhaaDoorW.PrintWords Go.Proofs.YtcdmgdegohcmhaaDoorW.PrintLast Go.Proofs.YtcdmgdegohcmhaaDoorW.PrintMore
attribute [local go_sem] max2_int min2_int max_two min_two max_three min_three max_four min_four
set_option linter.unusedVariables false
set_option linter.unusedSimpArgs false
def okL (l : List Int) : Prop := ∀ c ∈ l, 0 ≤ c ∧ c < 256
theorem okL_app {a b : List Int} (ha : okL a) (hb : okL b) : okL (a ++ b) := fun c hc => by
 rcases List.mem_append.1 hc with h | h
 ·exact ha c h
 exact hb c h
theorem okL_nil : okL [] := fun c hc => absurd hc (by simp)
end Go.Proofs.YtcdmgdegohcmhaaDoor.PA
namespace Go.Proofs.YtcdmgdegohcmhaaDoor.PA
open Go.RowKit Go.Proofs.YtcdmgdegohcmhaaDoorW.PrintWords Go.Proofs.YtcdmgdegohcmhaaDoorW.PrintLast Go.Proofs.YtcdmgdegohcmhaaDoorW.PrintMore
attribute [local go_sem] max2_int min2_int max_two min_two max_three min_three max_four min_four
set_option linter.unusedVariables false
set_option linter.unusedSimpArgs false
theorem wrap_succ (i : Nat) (h : i < 9223372036854775807) : wrap64 ((i : Int) + 1) = ((i + 1 : Nat) : Int) := by
 rw [wr64 _ (by omega) (by omega)]
 rfl
def putS (n : Int) : List Int := if mn (mx n (-2305843009213693952)) 2305843009213693951 < 0 then putL ((-2) * mn (mx n (-2305843009213693952)) 2305843009213693951 - 1) else putL (2 * mn (mx n (-2305843009213693952)) 2305843009213693951)
theorem put_ok (l : List Int) (n : Int) (h : l.length < 1000000000) : num_Put.f l n = some (l ++ putL n) := if_pos h
theorem putint_f (l : List Int) (n : Int) (h : l.length < 1000000000) : num_PutInt.f l n = some (l ++ putS n) := by
 unfold num_PutInt.f putS
 split
 ·rw [put_ok _ _ h]
  rfl
 rw [put_ok _ _ h]
 rfl
theorem putS_len (n : Int) : (putS n).length ≤ 9 := by
 unfold putS
 split <;> exact putL_len _
def metaL (a b c d e : Int) : List Int := if metaOk a b c d e = true then putL a ++ putS b ++ putL c ++ putL d ++ putL e else []
theorem metaL_len (a b c d e : Int) : (metaL a b c d e).length ≤ 45 := by
 have h1 := putL_len a
 have h2 := putS_len b
 have h3 := putL_len c
 have h4 := putL_len d
 have h5 := putL_len e
 unfold metaL
 split
 ·simp only [List.length_append]
  omega
 simp
theorem metab_f (a b c d e : Int) : meta_Bytes.f a b c d e = some (metaL a b c d e, if metaOk a b c d e = true then 0 else 2) := by
 have h1 := putL_len a
 have h2 := putS_len b
 have h3 := putL_len c
 have h4 := putL_len d
 rw [meta_Bytes.f, meta_Check.f, Option.bind_some]
 unfold metaL
 by_cases h : metaOk a b c d e = true
 ·rw [if_pos h, if_pos rfl, if_pos h, put_ok _ _ (by simp), Option.bind_some, putint_f _ _ (by simp; omega), Option.bind_some, put_ok _ _ (by simp; omega), Option.bind_some, put_ok _ _ (by simp; omega), Option.bind_some, put_ok _ _ (by simp; omega), Option.bind_some]
  rfl
 rw [if_neg h, if_neg (by decide), if_neg h]
theorem puttext_ok (l : List Int) (s : ByteArray) (h : l.length + 9 + s.size < 1000000000) : num_PutText.f l s = some (l ++ putL (s.size : Int) ++ bytesOf s) := by
 have h1 := putL_len (s.size : Int)
 rw [num_PutText.f, put_ok _ _ (by omega), Option.bind_some, if_pos (by simp; omega)]
def kindE (x : S35) : Int := if x.f5.toList = ([] : List UInt8) then x.f1 else wrap64 (x.f1 + 4)
def tailE (last : ByteArray) (x : S35) : ByteArray := x.f0.extract (likeN x.f0 last) x.f0.size
def entL (last : ByteArray) (x : S35) : List Int :=
 putL (likeN x.f0 last : Int) ++ putL ((tailE last x).size : Int) ++ bytesOf (tailE last x) ++ putL (kindE x) ++ putL x.f2 ++ metaL x.f3.f0 x.f3.f1 x.f3.f2 x.f3.f3 x.f3.f4 ++ (if x.f1 = 3 then putL (x.f4.size : Int) ++ bytesOf x.f4 else []) ++ bytesOf x.f5 ++ (if x.f1 = 1 then putL x.f6 else [])
def encG : ByteArray → List S35 → List Int
 | _, [] => []
 | last, x :: l => entL last x ++ encG x.f0 l
def encL (L : List S35) : List Int := putL (L.length : Int) ++ encG ⟨#[]⟩ L
def sealB (l : List Int) : List Int := l ++ sealL l
def bnd35 (x : S35) : Prop := x.f0.size ≤ 100000 ∧ x.f4.size ≤ 100000 ∧ x.f5.size ≤ 100000
theorem tailE_size (last : ByteArray) (x : S35) : (tailE last x).size ≤ x.f0.size := by
 unfold tailE
 rw [ByteArray.size_extract]
 omega
theorem entL_len (last : ByteArray) (x : S35) (h : bnd35 x) : (entL last x).length ≤ 300200 := by
 obtain ⟨h1, h2, h3⟩ := h
 have a1 := putL_len (likeN x.f0 last : Int)
 have a2 := putL_len ((tailE last x).size : Int)
 have a3 := putL_len (kindE x)
 have a4 := putL_len x.f2
 have a5 := metaL_len x.f3.f0 x.f3.f1 x.f3.f2 x.f3.f3 x.f3.f4
 have a6 := putL_len (x.f4.size : Int)
 have a7 := putL_len x.f6
 have a8 := tailE_size last x
 have b1 : (if x.f1 = 3 then putL (x.f4.size : Int) ++ bytesOf x.f4 else []).length ≤ 100009 := by
  split
  ·rw [List.length_append, bytesOf_length]
   omega
  simp
 have b2 : (if x.f1 = 1 then putL x.f6 else []).length ≤ 9 := by
  split
  ·exact a7
  simp
 unfold entL
 simp only [List.length_append, bytesOf_length] at *
 omega
theorem putL_ok (n : Int) : okL (putL n) := by
 have : ∀ (k : Nat) (x : Int), 0 ≤ x → x < 128 ^ (k + 1) → okL (putN k x) := by
  intro k
  induction k with
  | zero =>
   intro x h0 h1 c hc
   rw [putN_last 0 x (by simp at h1; omega)] at hc
   simp at hc h1
   omega
  | succ k ih =>
   intro x h0 h1 c hc
   by_cases h : x > 127
   ·rw [putN_more k x h] at hc
    rcases List.mem_cons.1 hc with e | hc
    ·omega
    refine ih (x / 128) (by omega) ?_ c hc
    rw [Int.pow_succ] at h1
    omega
   rw [putN_last _ x h] at hc
   simp at hc
   omega
 have hc := clampN_range n
 exact this 8 (clampN n) hc.1 (by have e9 : (128 : Int) ^ (8 + 1) = 9223372036854775808 := rfl; omega)
theorem putS_ok (n : Int) : okL (putS n) := by
 unfold putS
 split <;> exact putL_ok _
theorem bytesOf_ok (s : ByteArray) : okL (bytesOf s) := fun c hc => by
 simp [bytesOf] at hc
 obtain ⟨b, _, rfl⟩ := hc
 have := b.toNat_lt
 omega
theorem if_ok {p : Prop} [Decidable p] {a b : List Int} (ha : okL a) (hb : okL b) : okL (if p then a else b) := by
 split
 ·exact ha
 exact hb
theorem metaL_ok (a b c d e : Int) : okL (metaL a b c d e) := if_ok (okL_app (okL_app (okL_app (okL_app (putL_ok _) (putS_ok _)) (putL_ok _)) (putL_ok _)) (putL_ok _)) okL_nil
theorem entL_ok (last : ByteArray) (x : S35) : okL (entL last x) :=
 okL_app (okL_app (okL_app (okL_app (okL_app (okL_app (okL_app (okL_app (putL_ok _) (putL_ok _)) (bytesOf_ok _)) (putL_ok _)) (putL_ok _)) (metaL_ok _ _ _ _ _)) (if_ok (okL_app (putL_ok _) (bytesOf_ok _)) okL_nil)) (bytesOf_ok _)) (if_ok (putL_ok _) okL_nil)
theorem seal_ok (l : List Int) (h : l.length < 1000000000) (hu : okL l) : crc_Seal.f l = some (sealB l) := if_pos ⟨h, hu⟩
set_option maxHeartbeats 2000000 in
theorem fb_step (L : List S35) (i : Nat) (hi : i < L.length) (hL : L.length ≤ 1000) (b : List Int) (last : ByteArray) (hb : b.length + 300200 < 1000000000) (hx : bnd35 L[i]) (hlast : last.size ≤ 100000) (k : Nat) :
  flist_Bytes.l0 (k + 2) b last L (L.length : Int) (i : Int) = flist_Bytes.l0 k (b ++ entL last L[i]) L[i].f0 L (L.length : Int) ((i + 1 : Nat) : Int) := by
 obtain ⟨x, ex⟩ : ∃ x, L[i] = x := ⟨_, rfl⟩
 rw [ex] at hx
 obtain ⟨h1, h2, h3⟩ := hx
 have a1 := putL_len (likeN x.f0 last : Int)
 have a2 := putL_len ((tailE last x).size : Int)
 have a3 := putL_len (kindE x)
 have a4 := putL_len x.f2
 have a5 := metaL_len x.f3.f0 x.f3.f1 x.f3.f2 x.f3.f3 x.f3.f4
 have a6 := putL_len (x.f4.size : Int)
 have a8 := tailE_size last x
 have hn := likeN_le x.f0 last
 have hj : flist_Bytes.l0 (k + 2) b last L (L.length : Int) (i : Int) = flist_Bytes.j1 (k + 1) b x.f0 (likeN x.f0 last : Int) (kindE x) L (L.length : Int) (i : Int) x.f0 x.f1 x.f2 x.f3.f0 x.f3.f1 x.f3.f2 x.f3.f3 x.f3.f4 x.f4 x.f5 x.f6 := by
  rw [flist_Bytes.l0, if_pos (by omega), if_pos (by omega), if_pos (by omega), rd35_get L i hi, ex, flist_like.f, if_pos ⟨by omega, by omega⟩, Option.bind_some]
  unfold kindE
  by_cases h5 : x.f5.toList = ([] : List UInt8)
  ·rw [if_pos h5, if_pos h5]
  rw [if_neg h5, if_neg h5]
 have hte : x.f0.extract ((likeN x.f0 last : Nat) : Int).toNat x.f0.size = tailE last x := by
  rw [Int.toNat_natCast]
  rfl
 rw [hj, ex, flist_Bytes.j1, put_ok _ _ (by omega), Option.bind_some, if_pos (by omega), if_pos (by omega), hte]
 rw [puttext_ok _ _ (by simp only [List.length_append]; omega), Option.bind_some]
 rw [put_ok _ _ (by simp only [List.length_append, bytesOf_length]; omega), Option.bind_some]
 rw [put_ok _ _ (by simp only [List.length_append, bytesOf_length]; omega), Option.bind_some]
 rw [metab_f, Option.bind_some, if_pos (by simp only [List.length_append, bytesOf_length]; omega), Option.bind_some, wrap_succ i (by omega)]
 unfold entL
 by_cases c3 : x.f1 = 3
 ·have c1 : ¬ x.f1 = 1 := by omega
  rw [if_pos c3, if_pos c3, if_neg c1, puttext_ok _ _ (by simp only [List.length_append, bytesOf_length]; omega), Option.bind_some, if_pos (by simp only [List.length_append, bytesOf_length]; omega), Option.bind_some, if_neg c1]
  simp only [List.append_assoc, List.append_nil]
 rw [if_neg c3, if_neg c3, if_pos (by simp only [List.length_append, bytesOf_length]; omega), Option.bind_some]
 by_cases c1 : x.f1 = 1
 ·rw [if_pos c1, if_pos c1, put_ok _ _ (by simp only [List.length_append, bytesOf_length]; omega), Option.bind_some]
  simp only [List.append_assoc, List.nil_append]
 rw [if_neg c1, if_neg c1]
 simp only [List.append_assoc, List.append_nil, List.nil_append]
theorem fb_all (L : List S35) (hL : L.length ≤ 1000) (hx : ∀ x ∈ L, bnd35 x) : ∀ (m i : Nat) (b : List Int) (last : ByteArray) (k : Nat), L.length - i = m → i ≤ L.length → b.length + m * 300200 < 999000000 → last.size ≤ 100000 → okL b → 2 * m + 1 ≤ k →
  flist_Bytes.l0 k b last L (L.length : Int) (i : Int) = some (sealB (b ++ encG last (L.drop i)), 0) := by
 intro m
 induction m with
 | zero =>
  intro i b last k hm hi hb hl ho hk
  obtain ⟨k, rfl⟩ : ∃ j, k = j + 1 := ⟨k - 1, by omega⟩
  rw [flist_Bytes.l0, if_neg (by omega), seal_ok b (by omega) ho, Option.bind_some, List.drop_eq_nil_of_le (by omega), encG, List.append_nil]
 | succ m ih =>
  intro i b last k hm hi hb hl ho hk
  obtain ⟨k, rfl⟩ : ∃ j, k = j + 2 := ⟨k - 2, by omega⟩
  have hlt : i < L.length := by omega
  have hxi := hx L[i] (List.getElem_mem hlt)
  have he := entL_len last L[i] hxi
  obtain ⟨z, hz⟩ : ∃ z : Nat, z = (entL last L[i]).length := ⟨_, rfl⟩
  rw [← hz] at he
  have HZ := Aside0.mk hz
  clear hz
  have hb3 : b.length + 300200 < 1000000000 := by omega
  have hb4 : b.length + z + m * 300200 < 999000000 := by omega
  rw [fb_step L i hlt hL b last hb3 hxi hl k, ih (i + 1) _ _ k (by omega) (by omega) (by rw [List.length_append, ← HZ.out]; exact hb4) hxi.1 (okL_app ho (entL_ok _ _)) (by omega), List.drop_eq_getElem_cons hlt, encG, List.append_assoc]
theorem bytes20_f (L : List S35) (hl : light20 L) (hx : ∀ x ∈ L, bnd35 x) (k : Nat) (hk : 3000 ≤ k) : flist_Bytes.f k L = some (if checkL20 L = 0 then (sealB (encL L), 0) else ([], checkL20 L)) := by
 have hln := hl.1
 obtain ⟨z, hz⟩ : ∃ z : Nat, z = (putL (L.length : Int)).length := ⟨_, rfl⟩
 have h2 : z ≤ 9 := hz ▸ putL_len (L.length : Int)
 have HZ := Aside0.mk hz
 clear hz
 have hb4 : z + L.length * 300200 < 999000000 := by omega
 rw [flist_Bytes.f, flist_Check.f, if_pos hl, Option.bind_some]
 by_cases hc : checkL20 L = 0
 ·rw [if_pos hc, if_pos hc, put_ok _ _ (by simp), Option.bind_some]
  have := fb_all L hl.1 hx L.length 0 (putL (L.length : Int)) ⟨#[]⟩ k (by omega) (by omega) (by rw [← HZ.out]; exact hb4) (Nat.zero_le _) (putL_ok _) (by omega)
  rw [List.drop_zero] at this
  exact this
 rw [if_neg hc, if_neg hc]
end Go.Proofs.YtcdmgdegohcmhaaDoor.PA
namespace Go.Proofs.YtcdmgdegohcmhaaDoor.PA
open Go.RowKit Go.Proofs.YtcdmgdegohcmhaaDoorW.PrintWords Go.Proofs.YtcdmgdegohcmhaaDoorW.PrintLast Go.Proofs.YtcdmgdegohcmhaaDoorW.PrintMore
attribute [local go_sem] max2_int min2_int max_two min_two max_three min_three max_four min_four
set_option linter.unusedVariables false
set_option linter.unusedSimpArgs false
def smallX (x : S35) : Bool := decide (x.f0.size ≤ 600) && decide (x.f4.size ≤ 600) && decide (x.f5.size ≤ 100)
def smallB (L : List S35) : Bool := L.all smallX && decide (L.length ≤ 60)
theorem small_l (L : List S35) (hL : L.length ≤ 9223372036854775807) : ∀ (m i k : Nat), L.length - i = m → i ≤ L.length → m + 1 ≤ k → remoraref20_Small.l0 k L (i : Int) = some ((L.drop i).all smallX && decide (L.length ≤ 60)) := by
 intro m
 induction m with
 | zero =>
  intro i k hm hi hk
  obtain ⟨k, rfl⟩ : ∃ j, k = j + 1 := ⟨k - 1, by omega⟩
  rw [remoraref20_Small.l0, if_neg (by omega), List.drop_eq_nil_of_le (by omega), List.all_nil, Bool.true_and]
  congr 1
  exact decide_eq_decide.2 (by omega)
 | succ m ih =>
  intro i k hm hi hk
  obtain ⟨k, rfl⟩ : ∃ j, k = j + 1 := ⟨k - 1, by omega⟩
  have hlt : i < L.length := by omega
  rw [remoraref20_Small.l0, if_pos (by omega), if_pos (by omega), rd35_get L i hlt, wrap_succ i (by omega), ih (i + 1) k (by omega) (by omega) (by omega), List.drop_eq_getElem_cons hlt, List.all_cons]
  unfold smallX
  by_cases h1 : L[i].f0.size ≤ 600
  ·by_cases h2 : L[i].f4.size ≤ 600
   ·by_cases h3 : L[i].f5.size ≤ 100
    ·rw [if_neg (by omega), if_neg (by omega), if_neg (by omega)]
     simp [h1, h2, h3]
    rw [if_neg (by omega), if_neg (by omega), if_pos (by omega)]
    simp [h3]
   rw [if_neg (by omega), if_pos (by omega)]
   simp [h2]
  rw [if_pos (by omega)]
  simp [h1]
theorem small_f (L : List S35) (hL : L.length ≤ 9223372036854775807) (k : Nat) (hk : L.length + 1 ≤ k) : remoraref20_Small.f k L = some (smallB L) := small_l L hL L.length 0 k (by omega) (by omega) (by omega)
theorem smallB_facts {L : List S35} (h : smallB L = true) : L.length ≤ 60 ∧ ∀ x ∈ L, x.f0.size ≤ 600 ∧ x.f4.size ≤ 600 ∧ x.f5.size ≤ 100 := by
 unfold smallB at h
 simp only [Bool.and_eq_true, decide_eq_true_eq, List.all_eq_true] at h
 refine ⟨h.2, fun x hx => ?_⟩
 have := h.1 x hx
 unfold smallX at this
 simp only [Bool.and_eq_true, decide_eq_true_eq] at this
 exact ⟨this.1.1, this.1.2, this.2⟩
theorem light_small {L : List S35} (h : smallB L = true) : light20 L := ⟨by have := (smallB_facts h).1; omega, fun x hx => by have := (smallB_facts h).2 x hx; omega⟩
def exA : S35 := ⟨(⟨#[97]⟩ : ByteArray), 1, 3, (⟨0, 0, 0, 0, 0⟩ : S33), (⟨#[]⟩ : ByteArray), (⟨#[]⟩ : ByteArray), 0⟩
def exB : S35 := ⟨(⟨#[97, 47, 98]⟩ : ByteArray), 1, 0, (⟨0, 0, 0, 0, 0⟩ : S33), (⟨#[]⟩ : ByteArray), (⟨#[]⟩ : ByteArray), 0⟩
theorem exA_check : checkL20 [exA] = 0 := by kernel_rfl
theorem exB_check : checkL20 [exB] = 12 := by kernel_rfl
theorem exA_enc : encL [exA] = [1, 0, 1, 97, 1, 3, 0, 0, 0, 0, 0, 0] := by kernel_rfl
theorem awake20 (k : Nat) (hk : 3000 ≤ k) : remoralaw20_awake.f k = some true := by
 have lA : light20 [exA] := ⟨by decide, fun x hx => by rw [List.mem_singleton.1 hx]; decide⟩
 have lB : light20 [exB] := ⟨by decide, fun x hx => by rw [List.mem_singleton.1 hx]; decide⟩
 have bA : ∀ x ∈ [exA], bnd35 x := fun x hx => by rw [List.mem_singleton.1 hx]; exact ⟨by decide, by decide, by decide⟩
 have hB := bytes20_f [exA] lA bA k hk
 rw [exA_check, if_pos rfl, exA_enc] at hB
 have hC : flist_Check.f [exB] = some 12 := by rw [flist_Check.f, if_pos lB, exB_check]
 unfold remoralaw20_awake.f
 rw [show ([(⟨(⟨#[97]⟩ : ByteArray), 1, 3, (⟨0, 0, 0, 0, 0⟩ : S33), (⟨#[]⟩ : ByteArray), (⟨#[]⟩ : ByteArray), 0⟩ : S35)] : List S35) = [exA] from rfl, hB, Option.bind_some, if_pos rfl, if_pos (by rfl), if_pos (by decide), if_pos (by kernel_rfl), show ([(⟨(⟨#[97, 47, 98]⟩ : ByteArray), 1, 0, (⟨0, 0, 0, 0, 0⟩ : S33), (⟨#[]⟩ : ByteArray), (⟨#[]⟩ : ByteArray), 0⟩ : S35)] : List S35) = [exB] from rfl, hC]
 rfl
end Go.Proofs.YtcdmgdegohcmhaaDoor.PA
namespace Go.Proofs.YtcdmgdegohcmhaaDoor.PA
open Go.RowKit Go.Proofs.YtcdmgdegohcmhaaDoorW.PrintWords Go.Proofs.YtcdmgdegohcmhaaDoorW.PrintLast Go.Proofs.YtcdmgdegohcmhaaDoorW.PrintMore
attribute [local go_sem] max2_int min2_int max_two min_two max_three min_three max_four min_four
set_option linter.unusedVariables false
set_option linter.unusedSimpArgs false
theorem same_l (L : List S35) (hl : L.length ≤ 1000000) : ∀ (m t k : Nat), L.length - t = m → t ≤ L.length → m + 1 ≤ k → api_Entry_45.l0 k L L (L.length : Int) (t : Int) = some true := by
 intro m
 induction m with
 | zero =>
  intro t k hm ht hk
  obtain ⟨k, rfl⟩ : ∃ j, k = j + 1 := ⟨k - 1, by omega⟩
  rw [api_Entry_45.l0, if_neg (by omega)]
 | succ m ih =>
  intro t k hm ht hk
  obtain ⟨k, rfl⟩ : ∃ j, k = j + 1 := ⟨k - 1, by omega⟩
  rw [api_Entry_45.l0, if_pos (by omega), if_pos (by omega), if_pos (by omega), if_pos (by omega), if_neg (by simp), wrapS35 t (by omega)]
  exact ih (t + 1) k (by omega) (by omega) (by omega)
theorem same_refl (L : List S35) (hl : L.length ≤ 1000000) (k : Nat) (hk : L.length + 1 ≤ k) : flist_Same.f k L L = some true := by
 rw [flist_Same.f, api_Entry_45.f, if_pos rfl]
 have := same_l L hl L.length 0 k (by omega) (by omega) (by omega)
 rw [show ((0 : Nat) : Int) = 0 from rfl] at this
 rw [this]
 rfl
theorem below_ok (L : List S35) (hl : light20 L) (top : ByteArray) (ht : top.size ≤ 1000) : flist_Below.f L top = some (belowL L top) := if_pos ⟨by have := hl.1; omega, fun y hy => by have := hl.2 y hy; omega, by omega⟩
end Go.Proofs.YtcdmgdegohcmhaaDoor.PA
namespace Go.Proofs.YtcdmgdegohcmhaaDoor.PA
open Go.RowKit Go.Proofs.YtcdmgdegohcmhaaDoorW.PrintWords Go.Proofs.YtcdmgdegohcmhaaDoorW.PrintLast Go.Proofs.YtcdmgdegohcmhaaDoorW.PrintMore
attribute [local go_sem] max2_int min2_int max_two min_two max_three min_three max_four min_four
set_option linter.unusedVariables false
set_option linter.unusedSimpArgs false
theorem eta35 (x : S35) : (⟨x.f0, x.f1, x.f2, (⟨x.f3.f0, x.f3.f1, x.f3.f2, x.f3.f3, x.f3.f4⟩ : S33), x.f4, x.f5, x.f6⟩ : S35) = x := rfl
theorem find_both (L : List S35) (p : ByteArray) (hL : L.length ≤ 1000) : ∀ (m i k : Nat), L.length - i = m → i ≤ L.length → m + 1 ≤ k → ∃ r, flist_Find.l0 k p L (L.length : Int) (i : Int) = some r ∧ remoraref20_Find.l0 k L p (i : Int) = some r := by
 intro m
 induction m with
 | zero =>
  intro i k hm hi hk
  obtain ⟨k, rfl⟩ : ∃ j, k = j + 1 := ⟨k - 1, by omega⟩
  exact ⟨(0, false), by rw [flist_Find.l0, if_neg (by omega)], by rw [remoraref20_Find.l0, if_neg (by omega)]⟩
 | succ m ih =>
  intro i k hm hi hk
  obtain ⟨k, rfl⟩ : ∃ j, k = j + 1 := ⟨k - 1, by omega⟩
  have e1 : flist_Find.l0 (k + 1) p L (L.length : Int) (i : Int) = if ((rd_T35 L (i : Int)).f0).toList = p.toList then some ((i : Int), true) else flist_Find.l0 k p L (L.length : Int) ((i + 1 : Nat) : Int) := by
   rw [flist_Find.l0, if_pos (by omega), if_pos (by omega), if_pos (by omega), wrapS35 i (by omega)]
  have e2 : remoraref20_Find.l0 (k + 1) L p (i : Int) = if ((rd_T35 L (i : Int)).f0).toList = p.toList then some ((i : Int), true) else remoraref20_Find.l0 k L p ((i + 1 : Nat) : Int) := by
   rw [remoraref20_Find.l0, if_pos (by omega), if_pos (by omega), wrapS35 i (by omega)]
  rw [e1, e2]
  by_cases h : ((rd_T35 L (i : Int)).f0).toList = p.toList
  ·exact ⟨((i : Int), true), by rw [if_pos h], by rw [if_pos h]⟩
  rw [if_neg h, if_neg h]
  exact ih (i + 1) k (by omega) (by omega) (by omega)
def neqB35 (x y : S35) : Bool := (!(((x.f0).toList) == ((y.f0).toList)) || (!((x.f1) == (y.f1)) || (!((x.f2) == (y.f2)) || ((!((x.f3.f0) == (y.f3.f0)) || (!((x.f3.f1) == (y.f3.f1)) || (!((x.f3.f2) == (y.f3.f2)) || (!((x.f3.f3) == (y.f3.f3)) || (!((x.f3.f4) == (y.f3.f4))))))) || (!(((x.f4).toList) == ((y.f4).toList)) || (!(((x.f5).toList) == ((y.f5).toList)) || (!((x.f6) == (y.f6)))))))))
theorem same_bothl (a b : List S35) (he : a.length = b.length) (hL : a.length ≤ 1000000) : ∀ (m i k : Nat), a.length - i = m → i ≤ a.length → m + 1 ≤ k → ∃ r, api_Entry_45.l0 k a b (a.length : Int) (i : Int) = some r ∧ remoraref20_Same.l0 k a b (i : Int) = some r := by
 intro m
 induction m with
 | zero =>
  intro i k hm hi hk
  obtain ⟨k, rfl⟩ : ∃ j, k = j + 1 := ⟨k - 1, by omega⟩
  exact ⟨true, by rw [api_Entry_45.l0, if_neg (by omega)], by rw [remoraref20_Same.l0, if_neg (by omega)]⟩
 | succ m ih =>
  intro i k hm hi hk
  obtain ⟨k, rfl⟩ : ∃ j, k = j + 1 := ⟨k - 1, by omega⟩
  obtain ⟨r, h1, h2⟩ := ih (i + 1) k (by omega) (by omega) (by omega)
  have e1 : api_Entry_45.l0 (k + 1) a b (a.length : Int) (i : Int) = if neqB35 (rd_T35 a (i : Int)) (rd_T35 b (i : Int)) = true then some false else some r := by
   rw [api_Entry_45.l0, if_pos (by omega), if_pos (by omega), if_pos (by omega), if_pos (by omega), wrapS35 i (by omega), h1]
   rfl
  have e2 : remoraref20_Same.l0 (k + 1) a b (i : Int) = if neqB35 (rd_T35 a (i : Int)) (rd_T35 b (i : Int)) = true then some false else some r := by
   rw [remoraref20_Same.l0, if_pos (by omega), if_pos (by omega), if_pos (by omega), wrapS35 i (by omega), h2]
   rfl
  rw [e1, e2]
  split
  ·exact ⟨false, rfl, rfl⟩
  exact ⟨r, rfl, rfl⟩
theorem same_both (a b : List S35) (hL : a.length ≤ 1000000) (k : Nat) (hk : a.length + 1 ≤ k) : ∃ r, flist_Same.f k a b = some r ∧ remoraref20_Same.f k a b = some r := by
 rw [flist_Same.f, api_Entry_45.f, remoraref20_Same.f]
 by_cases he : a.length = b.length
 ·obtain ⟨r, h1, h2⟩ := same_bothl a b he hL a.length 0 k (by omega) (by omega) (by omega)
  rw [if_pos (by rw [he]), if_pos (by rw [he])]
  exact ⟨r, by rw [show (0 : Int) = ((0 : Nat) : Int) from rfl, h1]; rfl, h2⟩
 rw [if_neg (by omega), if_neg (by omega)]
 exact ⟨false, rfl, rfl⟩
theorem rsame_refl (a : List S35) (hL : a.length ≤ 1000000) (k : Nat) (hk : a.length + 1 ≤ k) : remoraref20_Same.f k a a = some true := by
 obtain ⟨r, h1, h2⟩ := same_both a a hL k hk
 rw [same_refl a hL k hk] at h1
 rw [h2, ← h1]
theorem rbelow_l (L : List S35) (p : ByteArray) (hL : light20 L) (hp : p.size ≤ 1000) : ∀ (m i k : Nat) (acc : List S35), L.length - i = m → i ≤ L.length → acc.length ≤ i → m + 1048600 ≤ k → remoraref20_Below.l0 k L p acc (i : Int) = some (acc ++ (L.drop i).filter (belowB p)) := by
 have hlen := hL.1
 intro m
 induction m with
 | zero =>
  intro i k acc hm hi ha hk
  obtain ⟨k, rfl⟩ : ∃ j, k = j + 1 := ⟨k - 1, by omega⟩
  rw [remoraref20_Below.l0, if_neg (by omega), List.drop_eq_nil_of_le (by omega), List.filter_nil, List.append_nil]
 | succ m ih =>
  intro i k acc hm hi ha hk
  obtain ⟨k, rfl⟩ : ∃ j, k = j + 1 := ⟨k - 1, by omega⟩
  have hlt : i < L.length := by omega
  have hx := hL.2 L[i] (List.getElem_mem hlt)
  have h1 := ih (i + 1) k (acc ++ [L[i]]) (by omega) (by omega) (by simp; omega) (by omega)
  have h2 := ih (i + 1) k acc (by omega) (by omega) (by omega) (by omega)
  rw [List.append_assoc] at h1
  rw [remoraref20_Below.l0, if_pos (by omega), rd35_get L i hlt, wrapS35 i (by omega), eta35, List.drop_eq_getElem_cons hlt, List.filter_cons]
  by_cases h0 : p.toList = ([] : List UInt8)
  ·have hb : belowB p L[i] = true := by unfold belowB; rw [decide_eq_true ((size_tl20 p).1 h0)]; rfl
   rw [if_pos h0, if_pos (by omega), if_pos (by omega), if_pos hb, h1]
   rfl
  have h0' : p.size ≠ 0 := fun e => h0 ((size_tl20 p).2 e)
  rw [if_neg h0, if_pos (by omega), runder_f _ _ (show sml _ by unfold sml; omega) (show sml _ by unfold sml; omega) k (by omega), Option.bind_some]
  by_cases h3 : preB (splitL p) (splitL L[i].f0) = true
  ·rw [if_pos h3]
   by_cases h4 : L[i].f0.toList = p.toList
   ·have hb : belowB p L[i] = false := by rw [below_no p _ h0', (tl_eq _ _).1 h4]; simp
    rw [if_pos h4, if_neg (by rw [hb]; decide), h2]
   have hb : belowB p L[i] = true := by
    rw [below_no p _ h0', h3, Bool.and_true]
    exact decide_eq_true (fun e => h4 (by rw [e]))
   rw [if_neg h4, if_pos (by omega), if_pos hb, h1]
   rfl
  have hb : belowB p L[i] = false := by
   rw [below_no p _ h0', show preB (splitL p) (splitL L[i].f0) = false by simpa using h3, Bool.and_false]
  rw [if_neg h3, if_neg (by rw [hb]; decide), h2]
theorem rbelow_f (L : List S35) (p : ByteArray) (hL : light20 L) (hp : p.size ≤ 1000) (k : Nat) (hk : 1050000 ≤ k) : remoraref20_Below.f k L p = some (belowL L p) :=
 rbelow_l L p hL hp L.length 0 k [] (by omega) (by omega) (by simp) (by have := hL.1; omega)
theorem insB_at (acc : List S35) (x : S35) (hs : SortedL ltS acc) (t : Nat) (ht : t ≤ acc.length) (h1 : t = 0 ∨ ∃ h : t - 1 < acc.length, ltS x acc[t - 1] = false) (h2 : ∀ a ∈ acc.drop t, ltS x a = true) : insB acc x = acc.take t ++ x :: acc.drop t := by
 have h3 : ∀ a ∈ acc.take t, ltS x a = false := by
  rcases h1 with h | ⟨h, he⟩
  ·rw [h, List.take_zero]
   simp
  by_cases e : t = 0
  ·rw [e, List.take_zero]
   simp
  have := up2 swoS hs x (t - 1) h he
  rwa [show t - 1 + 1 = t by omega] at this
 unfold insB
 have e1 : acc.filter (fun a => !ltS x a) = acc.take t := by
  conv => lhs; rw [← List.take_append_drop t acc]
  rw [List.filter_append, List.filter_eq_self.2 (fun a ha => by rw [h3 a ha]; rfl), List.filter_eq_nil_iff.2 (fun a ha => by rw [h2 a ha]; decide), List.append_nil]
 have e2 : acc.filter (fun a => ltS x a) = acc.drop t := by
  conv => lhs; rw [← List.take_append_drop t acc]
  rw [List.filter_append, List.filter_eq_self.2 (fun a ha => h2 a ha), List.filter_eq_nil_iff.2 (fun a ha => by rw [h3 a ha]; decide), List.nil_append]
 rw [e1, e2]
theorem set_mid (l r : List S35) (z x : S35) (n : Nat) (h : n = l.length) : (l ++ z :: r).set n x = l ++ x :: r := by
 subst h
 rw [List.set_append_right _ _ (Nat.le_refl _), Nat.sub_self, List.set_cons_zero]
theorem rd35_mid (l r : List S35) (x : S35) (n : Nat) (h : n = l.length) : rd_T35 (l ++ x :: r) (n : Int) = x := by
 subst h
 rw [rd35_get _ _ (by simp)]
 simp
theorem rsort_l1 (L : List S35) (hL : light20 L) (i : Nat) (hi : i < L.length) (acc : List S35) (hacc : ∀ a ∈ acc, a.f0.size ≤ 1000) (hal : acc.length ≤ 1000) (hs : SortedL ltS acc) : ∀ (t k : Nat) (z : S35), t ≤ acc.length → t + 3000100 ≤ k → (∀ a ∈ acc.drop t, ltS L[i] a = true) → ∃ j, k ≤ j + t + 1 ∧ j < k ∧ remoraref20_Sort.l1 k L (acc.take t ++ z :: acc.drop t) (i : Int) (t : Int) = remoraref20_Sort.l0 j L (insB acc L[i]) ((i + 1 : Nat) : Int) := by
 have hlen := hL.1
 have hx := hL.2 L[i] (List.getElem_mem hi)
 intro t
 induction t with
 | zero =>
  intro k z ht hk hd
  obtain ⟨k, rfl⟩ : ∃ j, k = j + 1 := ⟨k - 1, by omega⟩
  refine ⟨k, by omega, by omega, ?_⟩
  rw [remoraref20_Sort.l1, if_neg (by omega), if_pos (by omega), if_pos (by omega), if_pos (by omega), if_pos (by simp), rd35_get L i hi, eta35, wrapS35 i (by omega), insB_at acc L[i] hs 0 (Nat.zero_le _) (Or.inl rfl) hd]
  rw [show (((0 : Nat) : Int)).toNat = 0 from rfl, set_mid _ _ _ _ 0 (by simp)]
 | succ t ih =>
  intro k z ht hk hd
  obtain ⟨k, rfl⟩ : ∃ j, k = j + 1 := ⟨k - 1, by omega⟩
  have htl : t < acc.length := by omega
  have hw : wrap64 (((t + 1 : Nat) : Int) - 1) = (t : Int) := by rw [wr64 _ (by omega) (by omega)]; omega
  have htk : acc.take (t + 1) = acc.take t ++ [acc[t]] := List.take_succ_eq_append_getElem htl
  have hl1 : (acc.take t).length = t := by rw [List.length_take]; omega
  have hlen2 : (acc.take (t + 1) ++ z :: acc.drop (t + 1)).length = acc.length + 1 := by simp; omega
  have hrd : rd_T35 (acc.take (t + 1) ++ z :: acc.drop (t + 1)) (t : Int) = acc[t] := by
   rw [htk, List.append_assoc]
   exact rd35_mid _ _ _ t hl1.symm
  have ha := hacc acc[t] (List.getElem_mem htl)
  rw [remoraref20_Sort.l1, if_pos (by omega), if_pos (by omega), if_pos (by omega), hw, if_pos (by omega), if_pos (by rw [hlen2]; omega), hrd, rd35_get L i hi, rless_f _ _ (show sml _ by unfold sml; omega) (show sml _ by unfold sml; omega) k (by omega), Option.bind_some, eta35, eta35, Int.toNat_natCast, set_mid _ _ z _ (t + 1) (by rw [List.length_take]; omega), set_mid _ _ z _ (t + 1) (by rw [List.length_take]; omega)]
  by_cases hlt : ltS L[i] acc[t] = true
  ·have hc : decide (cmpL (splitL L[i].f0) (splitL acc[t].f0) < 0) = true := hlt
   have hdt : acc.drop t = acc[t] :: acc.drop (t + 1) := List.drop_eq_getElem_cons htl
   obtain ⟨j, h1, h2, h3⟩ := ih k acc[t] (by omega) (by omega) (by
    intro a hm
    rw [hdt] at hm
    rcases List.mem_cons.1 hm with rfl | hm
    ·exact hlt
    exact hd a hm)
   refine ⟨j, by omega, by omega, ?_⟩
   rw [if_pos hc, if_pos (by omega), if_pos (by rw [hlen2]; omega), ← h3]
   congr 1
   rw [htk, hdt]
   simp only [List.append_assoc, List.cons_append, List.nil_append]
  have hlf : ltS L[i] acc[t] = false := by simpa using hlt
  have hc : ¬ decide (cmpL (splitL L[i].f0) (splitL acc[t].f0) < 0) = true := by
   have : decide (cmpL (splitL L[i].f0) (splitL acc[t].f0) < 0) = false := hlf
   rw [this]
   decide
  refine ⟨k, by omega, by omega, ?_⟩
  rw [if_neg hc, if_pos (by omega), if_pos (by rw [hlen2]; omega), wrapS35 i (by omega), insB_at acc L[i] hs (t + 1) ht (Or.inr ⟨htl, hlf⟩) hd]
theorem insB_len (acc : List S35) (x : S35) (h : SortedL ltS acc) : (insB acc x).length = acc.length + 1 ∧ ∀ a ∈ insB acc x, a ∈ acc ∨ a = x := by
 have := (insB_ok acc x h).1
 refine ⟨by rw [this.len]; simp, fun a ha => ?_⟩
 have := (this.1.mem_iff).1 ha
 simpa using this
theorem rsort_l0 (L : List S35) (hL : light20 L) : ∀ (m i k : Nat) (acc : List S35), L.length - i = m → i ≤ L.length → acc.length = i → SortedL ltS acc → (∀ a ∈ acc, a.f0.size ≤ 1000) → 1002 * m + 3000200 ≤ k → remoraref20_Sort.l0 k L acc (i : Int) = some ((L.drop i).foldl insB acc) := by
 have hlen := hL.1
 intro m
 induction m with
 | zero =>
  intro i k acc hm hi ha hs hz hk
  obtain ⟨k, rfl⟩ : ∃ j, k = j + 1 := ⟨k - 1, by omega⟩
  rw [remoraref20_Sort.l0, if_neg (by omega), List.drop_eq_nil_of_le (by omega)]
  rfl
 | succ m ih =>
  intro i k acc hm hi ha hs hz hk
  obtain ⟨k, rfl⟩ : ∃ j, k = j + 1 := ⟨k - 1, by omega⟩
  have hlt : i < L.length := by omega
  have hx := hL.2 L[i] (List.getElem_mem hlt)
  rw [remoraref20_Sort.l0, if_pos (by omega), if_pos (by omega), if_pos (by omega), rd35_get L i hlt, eta35]
  obtain ⟨j, h1, h2, h3⟩ := rsort_l1 L hL i hlt acc hz (by omega) hs acc.length k L[i] (Nat.le_refl _) (by omega) (by rw [List.drop_length]; simp)
  rw [List.take_length, List.drop_length] at h3
  have hn := insB_len acc L[i] hs
  rw [h3, ih (i + 1) j (insB acc L[i]) (by omega) (by omega) (by rw [hn.1]; omega) (insB_ok acc L[i] hs).2 (fun a ha => by
    rcases hn.2 a ha with h | h
    ·exact hz a h
    rw [h]; exact hx) (by omega), List.drop_eq_getElem_cons hlt]
  rfl
theorem rsort_f (L : List S35) (hL : light20 L) (k : Nat) (hk : 5000000 ≤ k) : remoraref20_Sort.f k L = some (sortS L) :=
 rsort_l0 L hL L.length 0 k [] (by omega) (by omega) rfl List.Pairwise.nil (by simp) (by have := hL.1; omega)
theorem finds_l1 (L : List S35) (hl : light20 L) : ∀ (m i k : Nat) (x : List S35), x.length - i = m → i ≤ x.length → x.length ≤ 1000 → m + 10000 ≤ k → remoralaw20_FlistFinds.l1 k L L x (i : Int) = some true := by
 have hlen := hl.1
 intro m
 induction m with
 | zero =>
  intro i k x hm hi hx hk
  obtain ⟨k, rfl⟩ : ∃ j, k = j + 1 := ⟨k - 1, by omega⟩
  rw [remoralaw20_FlistFinds.l1, if_neg (by omega), rsame_refl L (by omega) k (by omega), Option.bind_some, if_pos rfl, awake20 k (by omega)]
  rfl
 | succ m ih =>
  intro i k x hm hi hx hk
  obtain ⟨k, rfl⟩ : ∃ j, k = j + 1 := ⟨k - 1, by omega⟩
  rw [remoralaw20_FlistFinds.l1, if_pos (by omega), if_pos (by omega), wrapS35 i (by omega)]
  exact ih (i + 1) k _ (by rw [List.length_set]; omega) (by rw [List.length_set]; omega) (by rw [List.length_set]; omega) (by omega)
theorem finds_l0 (L : List S35) (hl : light20 L) (S : List S35) (hS : S.length ≤ 1000) : ∀ (m i k : Nat) (x : List S35), x.length - i = m → i ≤ x.length → x.length ≤ 1000 → m + 20000 ≤ k → remoralaw20_FlistFinds.l0 k L L x S (i : Int) = some true := by
 intro m
 induction m with
 | zero =>
  intro i k x hm hi hx hk
  obtain ⟨k, rfl⟩ : ∃ j, k = j + 1 := ⟨k - 1, by omega⟩
  rw [remoralaw20_FlistFinds.l0, if_neg (by omega)]
  exact finds_l1 L hl S.length 0 k S (by omega) (by omega) hS (by omega)
 | succ m ih =>
  intro i k x hm hi hx hk
  obtain ⟨k, rfl⟩ : ∃ j, k = j + 1 := ⟨k - 1, by omega⟩
  rw [remoralaw20_FlistFinds.l0, if_pos (by omega), if_pos (by omega), wrapS35 i (by omega)]
  exact ih (i + 1) k _ (by rw [List.length_set]; omega) (by rw [List.length_set]; omega) (by rw [List.length_set]; omega) (by omega)
theorem flistFinds_f (L : List S35) (p : ByteArray) (hL : L.length ≤ 9223372036854775807) : ∃ k, remoralaw20_FlistFinds.f k L p = some true := by
 refine ⟨L.length + 1003010000, ?_⟩
 obtain ⟨k, hk⟩ : ∃ k, k = L.length + 1003010000 := ⟨_, rfl⟩
 rw [← hk]
 obtain ⟨j, hj⟩ : ∃ j, k = j + 1 := ⟨k - 1, by omega⟩
 unfold remoralaw20_FlistFinds.f
 rw [small_f L hL k (by omega), Option.bind_some]
 by_cases h : smallB L = true
 ·rw [if_pos h, hj, remoralaw20_FlistFinds.j0]
  have hl := light_small h
  have hlen := hl.1
  by_cases hp : (p.size : Int) > 600
  ·rw [if_pos (decide_eq_true hp), awake20 j (by omega)]
   rfl
  have hps : p.size ≤ 600 := by omega
  obtain ⟨r, f1, f2⟩ := find_both L p hl.1 L.length 0 j (by omega) (by omega) (by omega)
  have g1 : flist_Find.f j L p = some r := f1
  have g2 : remoraref20_Find.f j L p = some r := f2
  have hBl : (belowL L p).length ≤ 1000 := by
   have := List.length_filter_le (belowB p) L
   unfold belowL
   omega
  have hSl : (sortS L).length ≤ 1000 := by rw [(sortS_ok L).1.len]; omega
  have hsort : flist_Sort.f L = some (sortS L) := if_pos ⟨by omega, fun y hy => by have := hl.2 y hy; omega⟩
  obtain ⟨s, s1, s2⟩ := same_both (belowL L p) (sortS L) (by omega) j (by omega)
  obtain ⟨i, hi⟩ : ∃ i, j = i + 1 := ⟨j - 1, by omega⟩
  have hj1 : remoralaw20_FlistFinds.j1 j L L (belowL L p) (sortS L) false = some true := by
   rw [hi, remoralaw20_FlistFinds.j1, if_neg (by decide)]
   exact finds_l0 L hl (sortS L) hSl (belowL L p).length 0 i (belowL L p) (by omega) (by omega) hBl (by omega)
  rw [if_neg (by rw [decide_eq_false hp]; decide), Option.bind_some, if_pos (by simp; omega), Option.bind_some, List.nil_append, g1, Option.bind_some, g2, Option.bind_some, below_ok L hl p (by omega), Option.bind_some, hsort, Option.bind_some, if_pos rfl, if_neg (by cases r.2 <;> decide), rbelow_f L p hl (by omega) j (by omega), Option.bind_some, rsame_refl _ (by omega) j (by omega), Option.bind_some, if_pos rfl, rsort_f L hl j (by omega), Option.bind_some, rsame_refl _ (by omega) j (by omega), Option.bind_some, if_pos rfl, s1, Option.bind_some, s2, Option.bind_some, if_neg (by cases s <;> decide), same_refl L (by omega) j (by omega), Option.bind_some]
  exact hj1
 rw [if_neg h, hj, remoralaw20_FlistFinds.j0, if_pos rfl, awake20 j (by omega)]
 rfl
end Go.Proofs.YtcdmgdegohcmhaaDoor.PA
namespace Go.Proofs.YtcdmgdegohcmhaaDoor.PA
open Go.RowKit Go.Proofs.YtcdmgdegohcmhaaDoorW.PrintWords Go.Proofs.YtcdmgdegohcmhaaDoorW.PrintLast Go.Proofs.YtcdmgdegohcmhaaDoorW.PrintMore
attribute [local go_sem] max2_int min2_int max_two min_two max_three min_three max_four min_four
set_option linter.unusedVariables false
set_option linter.unusedSimpArgs false
theorem bulk_pos {H : Type} : ∀ d : DataW H, 1 ≤ Rows.uptoBulk d
 | .lit (.string b) => by simp [Rows.uptoBulk]
 | .lit (.int _ _) => by simp [Rows.uptoBulk]
 | .lit (.bool _) => by simp [Rows.uptoBulk]
 | .lit (.float _ _) => by simp [Rows.uptoBulk]
 | .lit .nil => by simp [Rows.uptoBulk]
 | .nil => by simp [Rows.uptoBulk]
 | .ptr d => by simp [Rows.uptoBulk]
 | .slice _ _ => by simp [Rows.uptoBulk]
 | .agg _ => by simp [Rows.uptoBulk]
 | .iface _ _ => by simp [Rows.uptoBulk]
 | .map _ => by simp [Rows.uptoBulk]
 | .held _ => by simp [Rows.uptoBulk]
theorem bulk_len {H : Type} : ∀ l : List (DataW H), l.length ≤ Rows.uptoBulkAll l
 | [] => by simp [Rows.uptoBulkAll]
 | d :: r => by
  have h1 := bulk_pos d
  have h2 := bulk_len r
  simp only [List.length_cons, Rows.uptoBulkAll]
  omega
theorem bulk_mem {H : Type} : ∀ (l : List (DataW H)) (d : DataW H), d ∈ l → Rows.uptoBulk d ≤ Rows.uptoBulkAll l
 | [], d, h => by simp at h
 | e :: r, d, h => by
  simp only [Rows.uptoBulkAll]
  rcases List.mem_cons.1 h with rfl | h
  ·omega
  have := bulk_mem r d h
  omega
structure Opn {α : Type} (P : Program) (t : TypeId) (d : Kd α) (wf : Nat → α → Prop) : Prop where
 sz : d.sz = P.cellsOf t
 mono : ∀ n m a, n ≤ m → wf n a → wf m a
 op : ∀ {H : Type} (enc : TypeId × Value → H) (w : World) (base : Nat) (spare : Nat → Bool) (held : Bool) (fuel : Nat) (cs : List Value) (x : DataW H × List MemPlace), DataW.trod enc P w base spare held fuel t cs = some x → ∃ a, d.K w a cs ∧ wf (Rows.uptoBulk x.1) a
section
variable {P : Program} {t : TypeId}
theorem opn_int {k : IntKind} (ht : P.underlying t = some (.int k)) (hs : P.cellsOf t = 1) : Opn P t (Kd.int k) (fun _ a => (Lit.int k a).wf = true) where
 sz := hs.symm
 mono := fun _ _ _ _ h => h
 op := fun enc w base spare held fuel cs x h => by
  obtain ⟨n, rfl, rfl, hw⟩ := DataW.trod_int ht h
  exact ⟨n, rfl, hw⟩
theorem opn_string (ht : P.underlying t = some .string) (hs : P.cellsOf t = 1) : Opn P t Kd.string (fun n s => s.size < n ∧ s.size ≤ maxLen) where
 sz := hs.symm
 mono := fun _ _ _ h h' => ⟨Nat.lt_of_lt_of_le h'.1 h, h'.2⟩
 op := fun enc w base spare held fuel cs x h => by
  obtain ⟨s, rfl, rfl, hw⟩ := DataW.trod_string ht h
  refine ⟨s, rfl, ?_, hw⟩
  simp [Rows.uptoBulk]
theorem cells_get {w : World} {base : Nat} {a : Addr} {n : Nat} {cs : List Value} (h : w.cells? base a n = some cs) : cs.length = n ∧ ∀ i u, cs[i]? = some u → w.cell? (a.add i) = some u := by
 unfold World.cells? at h
 split at h
 ·refine ⟨by simpa using mapM_some_length h, fun i u hu => ?_⟩
  have hl := mapM_some_length h
  have hi : i < cs.length := (List.getElem?_eq_some_iff.1 hu).1
  have := mapM_some_get h i i (by rw [List.getElem?_range]; simp at hl; omega)
  rw [this, hu]
 cases h
theorem add_add (a : Addr) (i j : Nat) : (a.add i).add j = a.add (i + j) := by
 unfold Addr.add
 by_cases hi : i = 0 <;> by_cases hj : j = 0 <;> simp [hi, hj, Nat.add_assoc]
theorem opn_slice {α : Type} {e : TypeId} {d : Kd α} {wf : Nat → α → Prop} (ht : P.underlying t = some (.slice e)) (hs : P.cellsOf t = 1) (O : Opn P e d wf) :
  Opn P t (Kd.slice e d) (fun n xs => xs.length < n ∧ ∀ a ∈ xs, wf n a) where
 sz := hs.symm
 mono := fun n m a h h' => ⟨Nat.lt_of_lt_of_le h'.1 h, fun x hx => O.mono n m x h (h'.2 x hx)⟩
 op := fun enc w base spare held fuel cs x h => by
  rcases DataW.trod_slice ht h with ⟨rfl, rfl⟩ | ⟨a, len, cap, elems, rest, n, _, rfl, rfl, hb, hl, hm, hlen, hel, hsp, hns⟩
  ·exact ⟨[], ⟨none, 0, rfl, Nat.le_refl _, Kd.C_nil _ _⟩, by simp [Rows.uptoBulk], by simp⟩
  have each : ∀ i, i < len → ∃ y, elems[i]? = some y ∧ ∃ cs', w.cells? base (a.add (i * P.cellsOf e)) (P.cellsOf e) = some cs' ∧ ∃ v, d.K w v cs' ∧ wf (Rows.uptoBulk y.1) v := by
   intro i hi
   have h1 := hel i hi
   have h2 : elems[i]? = some (elems[i]'(by omega)) := List.getElem?_eq_getElem (by omega)
   rw [h2, Option.bind_eq_some_iff] at h1
   obtain ⟨cs', hc, ht'⟩ := h1
   obtain ⟨v, hv, hw⟩ := O.op enc w base spare held n cs' _ ht'
   exact ⟨_, h2, cs', hc, v, hv, hw⟩
  have ex : ∀ m, m ≤ len → ∃ xs : List α, xs.length = m ∧ ∀ i v, xs[i]? = some v → ∃ y, elems[i]? = some y ∧ ∃ cs', w.cells? base (a.add (i * P.cellsOf e)) (P.cellsOf e) = some cs' ∧ d.K w v cs' ∧ wf (Rows.uptoBulk y.1) v := by
   intro m
   induction m with
   | zero => exact fun _ => ⟨[], rfl, by simp⟩
   | succ m ih =>
    intro hm'
    obtain ⟨xs, hx, hg⟩ := ih (by omega)
    obtain ⟨y, hy, cs', hc, v, hv, hw⟩ := each m (by omega)
    refine ⟨xs ++ [v], by simp [hx], fun i u hu => ?_⟩
    by_cases hi : i < xs.length
    ·rw [List.getElem?_append_left hi] at hu
     exact hg i u hu
    rw [List.getElem?_append_right (by omega)] at hu
    have hi' : i = m := by
     have := (List.getElem?_eq_some_iff.1 hu).1
     simp at this
     omega
    subst hi'
    rw [hx, Nat.sub_self] at hu
    have : v = u := by simpa using hu
    subst this
    exact ⟨y, hy, cs', hc, hv, hw⟩
  obtain ⟨xs, hx, hg⟩ := ex len (Nat.le_refl _)
  have htot : Rows.uptoBulkAll (elems.map (·.1)) + 1 ≤ Rows.uptoBulk (DataW.slice (elems.map (·.1)) (rest.map (·.1))) := by
   simp only [Rows.uptoBulk]
   omega
  refine ⟨xs, ⟨some a, cap, by rw [hx], by omega, ⟨rfl, by unfold maxLen at hm; omega, fun _ => ⟨a, rfl, fun j p hp => ?_⟩⟩⟩, ?_, ?_⟩
  ·obtain ⟨y, hy, cs', hc, hk, hw⟩ := hg j p hp
   obtain ⟨g1, g2⟩ := cells_get hc
   refine ⟨cs', by rw [g1, O.sz], hk, fun i u hu => ?_⟩
   have := g2 i u hu
   rw [add_add] at this
   rw [O.sz]
   exact this
  ·have h1 := bulk_len (elems.map (·.1))
   simp only [List.length_map, hlen] at h1
   rw [hx]
   exact Nat.lt_of_lt_of_le (Nat.lt_succ_of_le h1) htot
  intro v hv
  obtain ⟨i, hi⟩ := List.getElem?_of_mem hv
  obtain ⟨y, hy, _, _, _, hw⟩ := hg i v hi
  refine O.mono _ _ _ ?_ hw
  have hmem : y.1 ∈ elems.map (·.1) := List.mem_map_of_mem (List.mem_of_getElem? hy)
  exact Nat.le_trans (bulk_mem _ _ hmem) (Nat.le_of_succ_le htot)
def OpnF {α : Type} (P : Program) (fs : List Field) (o : Nat) (d : Kd α) (wf : Nat → α → Prop) : Prop :=
 (∀ n m a, n ≤ m → wf n a → wf m a) ∧
 ∀ {H : Type} (enc : TypeId × Value → H) (w : World) (base : Nat) (spare : Nat → Bool) (held : Bool) (fuel : Nat) (cs : List Value) (ys : List (DataW H × List MemPlace)) (N : Nat),
  (∀ (i : Nat) (f : Field), fs[i]? = some f → ∃ y, ys[i]? = some y ∧ Rows.uptoBulk y.1 ≤ N ∧ DataW.trod enc P w base spare held fuel f.type ((cs.drop f.offset).take (P.cellsOf f.type)) = some y) →
  ∃ a, d.K w a ((cs.drop o).take d.sz) ∧ wf N a
theorem opnF_one {α : Type} {d : Kd α} {wf : Nat → α → Prop} {f : Field} {o : Nat} (ho : f.offset = o) (O : Opn P f.type d wf) : OpnF P [f] o d wf := by
 refine ⟨O.mono, fun enc w base spare held fuel cs ys N h => ?_⟩
 obtain ⟨y, hy, hN, ht⟩ := h 0 f rfl
 obtain ⟨a, ha, hw⟩ := O.op enc w base spare held fuel _ y ht
 refine ⟨a, ?_, O.mono _ _ _ hN hw⟩
 rw [O.sz, ← ho]
 exact ha
theorem opnF_cons {α β : Type} {d : Kd α} {d' : Kd β} {wf : Nat → α → Prop} {wf' : Nat → β → Prop} {f : Field} {fs : List Field} {o o' : Nat} (ho : f.offset = o) (O : Opn P f.type d wf) (he : o' = o + d.sz) (F : OpnF P fs o' d' wf') :
  OpnF P (f :: fs) o (Kd.pair d d') (fun n x => wf n x.1 ∧ wf' n x.2) := by
 refine ⟨fun n m a h h' => ⟨O.mono _ _ _ h h'.1, F.1 _ _ _ h h'.2⟩, fun enc w base spare held fuel cs ys N h => ?_⟩
 obtain ⟨y, hy, hN, ht⟩ := h 0 f rfl
 obtain ⟨a, ha, hw⟩ := O.op enc w base spare held fuel _ y ht
 obtain ⟨b, hb, hw'⟩ := F.2 enc w base spare held fuel cs (ys.drop 1) N (fun i g hg => by
  obtain ⟨z, hz, h1, h2⟩ := h (i + 1) g (by simpa using hg)
  refine ⟨z, ?_, h1, h2⟩
  rw [List.getElem?_drop, Nat.add_comm]
  exact hz)
 refine ⟨(a, b), ⟨(cs.drop o).take d.sz, (cs.drop o').take d'.sz, ?_, ?_, hb⟩, O.mono _ _ _ hN hw, hw'⟩
 ·show (cs.drop o).take (d.sz + d'.sz) = _
  rw [List.take_add, List.drop_drop, he]
 rw [O.sz, ← ho]
 exact ha
theorem opn_struct {α β : Type} {fs : Array Field} {d : Kd α} {wf : Nat → α → Prop} (f : β → α) (g : α → β) (hfg : ∀ a, f (g a) = a) (ht : P.underlying t = some (.struct fs)) (F : OpnF P fs.toList 0 d wf) (hs : d.sz = P.cellsOf t) :
  Opn P t (Kd.iso d f) (fun n x => wf n (f x)) where
 sz := hs
 mono := fun n m a h h' => F.1 n m (f a) h h'
 op := fun enc w base spare held fuel cs x h => by
  obtain ⟨xs, n, rfl, rfl, hl, hlen, hf⟩ := DataW.trod_struct ht h
  obtain ⟨a, ha, hw⟩ := F.2 enc w base spare held n cs xs (Rows.uptoBulk (DataW.agg (xs.map (·.1)))) (fun i q hq => by
   have h1 := hf i q (by simpa using hq)
   have hi : i < xs.length := by
    have := (List.getElem?_eq_some_iff.1 hq).1
    simp at this
    omega
   rw [List.getElem?_eq_getElem hi] at h1
   refine ⟨_, List.getElem?_eq_getElem hi, ?_, h1⟩
   have hmem : (xs[i]).1 ∈ xs.map (·.1) := List.mem_map_of_mem (List.getElem_mem hi)
   have := bulk_mem _ _ hmem
   simp only [Rows.uptoBulk]
   omega)
  refine ⟨g a, ?_, by rw [hfg]; exact hw⟩
  show d.K w (f (g a)) cs
  rw [hfg]
  rw [List.drop_zero, hs, ← hl, List.take_length] at ha
  exact ha
end
end Go.Proofs.YtcdmgdegohcmhaaDoor.PA
namespace Go.Proofs.YtcdmgdegohcmhaaDoor.PA
open Go.RowKit Go.Proofs.YtcdmgdegohcmhaaDoorW.PrintWords Go.Proofs.YtcdmgdegohcmhaaDoorW.PrintLast Go.Proofs.YtcdmgdegohcmhaaDoorW.PrintMore
attribute [local go_sem] max2_int min2_int max_two min_two max_three min_three max_four min_four
set_option linter.unusedVariables false
set_option linter.unusedSimpArgs false
theorem tabW_laid {W : World} (h : laidMetH Tryd.prog [("remora/crc.table", Go.Proofs.YtcdmgdegohcmhaaDoor.Rows.laid_remora_crc_table)] W) : TabW W := by
 rw [MakeChecks.laidMetH_plain _ _ _ (by kernel_rfl)] at h
 obtain ⟨ps, ⟨g, t, cs, fuel, p, q, hg, ht, hv, hd, _, _⟩, _, _⟩ := h
 obtain rfl := Option.some.inj ((show Tryd.prog.globalNamed "remora/crc.table" = some 1 by kernel_rfl).symm.trans hg)
 obtain rfl := Option.some.inj ((show (Tryd.prog.globals[1]?).map (·.type) = some 103 by kernel_rfl).symm.trans ht)
 obtain ⟨xs, m, _, ex, _, hl, hel⟩ := DataW.trod_array Tryd.underlying103 hd
 have c5 : Tryd.prog.cellsOf 57 = 1 := by kernel_rfl
 intro r hr
 have hE := hel r hr
 rw [c5, Nat.mul_one, List.getElem?_eq_getElem (by omega)] at hE
 obtain ⟨z, e1, e2, _⟩ := DataW.trod_int Tryd.underlying57 hE
 have hlen : tabN.length = 16 := by kernel_rfl
 have e3 : (xs.map (·.1)) = tabN.map fun n => .lit (.int .u32 n) := (DataW.agg.inj (Prod.mk.inj ex).1).symm
 have e4 : (xs.map (·.1))[r]? = (tabN.map fun n => (DataW.lit (.int .u32 n) : DataW Unit))[r]? := by rw [e3]
 rw [List.getElem?_map, List.getElem?_map, List.getElem?_eq_getElem (by omega : r < xs.length), List.getElem?_eq_getElem (by omega : r < tabN.length), e2] at e4
 have hz : z = tabN.getD r 0 := by
  simp only [Option.map_some, Option.some.injEq, DataW.lit.injEq, Lit.int.injEq, true_and] at e4
  rw [e4, List.getD, List.getElem?_eq_getElem (by omega : r < tabN.length)]; rfl
 rw [World.var?_cell hg hv r, ← hz]
 have : cs.toList[r]? = some (.int .u32 z) := by
  have h0 : ((cs.toList.drop r).take 1)[0]? = some (.int .u32 z) := by rw [e1]; rfl
  simpa using h0
 simpa using this
end Go.Proofs.YtcdmgdegohcmhaaDoor.PA
namespace Go.Proofs.YtcdmgdegohcmhaaDoor.PA
open Go.RowKit Go.Proofs.YtcdmgdegohcmhaaDoorW.PrintWords Go.Proofs.YtcdmgdegohcmhaaDoorW.PrintLast Go.Proofs.YtcdmgdegohcmhaaDoorW.PrintMore
attribute [local go_sem] max2_int min2_int max_two min_two max_three min_three max_four min_four
set_option linter.unusedVariables false
set_option linter.unusedSimpArgs false
def wf33 (n : Nat) (x : S33) : Prop := ((Lit.int .i64 x.f0).wf = true) ∧ ((Lit.int .i64 x.f1).wf = true) ∧ ((Lit.int .i64 x.f2).wf = true) ∧ ((Lit.int .i64 x.f3).wf = true) ∧ ((Lit.int .i64 x.f4).wf = true)
theorem opn33 : Opn Tryd.prog 33 k33 wf33 := opn_struct (fun x : S33 => (x.f0, x.f1, x.f2, x.f3, x.f4)) (fun a => (⟨a.1, a.2.1, a.2.2.1, a.2.2.2.1, a.2.2.2.2⟩ : S33)) (fun _ => rfl) Tryd.underlying33 (opnF_cons rfl (opn_int Tryd.underlying3 (by kernel_rfl)) rfl (opnF_cons rfl (opn_int Tryd.underlying3 (by kernel_rfl)) rfl (opnF_cons rfl (opn_int Tryd.underlying3 (by kernel_rfl)) rfl (opnF_cons rfl (opn_int Tryd.underlying3 (by kernel_rfl)) rfl (opnF_one rfl (opn_int Tryd.underlying3 (by kernel_rfl))))))) (by kernel_rfl)
def wf35 (n : Nat) (x : S35) : Prop := (x.f0.size < n ∧ x.f0.size ≤ maxLen) ∧ ((Lit.int .i64 x.f1).wf = true) ∧ ((Lit.int .i64 x.f2).wf = true) ∧ (wf33 n x.f3) ∧ (x.f4.size < n ∧ x.f4.size ≤ maxLen) ∧ (x.f5.size < n ∧ x.f5.size ≤ maxLen) ∧ ((Lit.int .i64 x.f6).wf = true)
theorem opn35 : Opn Tryd.prog 35 k35 wf35 := opn_struct (fun x : S35 => (x.f0, x.f1, x.f2, x.f3, x.f4, x.f5, x.f6)) (fun a => (⟨a.1, a.2.1, a.2.2.1, a.2.2.2.1, a.2.2.2.2.1, a.2.2.2.2.2.1, a.2.2.2.2.2.2⟩ : S35)) (fun _ => rfl) Tryd.underlying35 (opnF_cons rfl (opn_string Tryd.underlying9 (by kernel_rfl)) rfl (opnF_cons rfl (opn_int Tryd.underlying3 (by kernel_rfl)) rfl (opnF_cons rfl (opn_int Tryd.underlying3 (by kernel_rfl)) rfl (opnF_cons rfl opn33 rfl (opnF_cons rfl (opn_string Tryd.underlying9 (by kernel_rfl)) rfl (opnF_cons rfl (opn_string Tryd.underlying9 (by kernel_rfl)) rfl (opnF_one rfl (opn_int Tryd.underlying3 (by kernel_rfl))))))))) (by kernel_rfl)
theorem flistFinds_law (w : World) (hT : TabW w) (A0 : Option Addr) (c0 : Nat) (x0 : List S35) (hC : Kd.C k35 w A0 x0.length x0) (hL : x0.length ≤ c0) (hw : ∃ n, x0.length < n ∧ ∀ a ∈ x0, wf35 n a) (x1 : ByteArray) (hw1 : ∃ n, x1.size < n ∧ x1.size ≤ maxLen) :
  Calls Tryd.prog 9 #[.slice A0 x0.length c0, .string x1] w fun e w' => e = .returned (.bool true) ∧ Below w.heap.size w w' := by
 obtain ⟨k, hk⟩ := flistFinds_f x0 x1 hC.2.1
 exact remoralaw20_FlistFinds.calls k A0 c0 x0 x1 true w hC hL hk hT
end Go.Proofs.YtcdmgdegohcmhaaDoor.PA
namespace Go.Proofs.YtcdmgdegohcmhaaDoor.flistFindsRow
open Go.ChangeShapes Go.WideShapes Go.ChangeAt Go.RowKit Go.Proofs.YtcdmgdegohcmhaaDoor.PA Go.Proofs.YtcdmgdegohcmhaaDoorW.PrintWords Go.Proofs.YtcdmgdegohcmhaaDoorW.PrintLast Go.Proofs.YtcdmgdegohcmhaaDoorW.PrintMore
open Go.ChangeMaps (open_string shut_string)
theorem own : ownKnob Tryd.prog.godebug = none := by kernel_rfl
theorem laidOut : laidOutB Tryd.prog = true := by kernel_rfl
set_option linter.unusedSimpArgs false in
set_option maxHeartbeats 1000000 in
set_option maxRecDepth 100000 in
theorem lifted (os : Os) (started : os.Started) (H : Type) (enc : TypeId × Value → H) :
  ReturnsInHanded {} Tryd.checked os 9 .any (fun w args => (Rows.flistFindsSpec.pre enc Tryd.prog Tryd.f9 Rows.flistFindsRow.domain false w args ∧ laidMetH Tryd.prog Rows.flistFindsRow.laid w) ∧ sizedMet enc Tryd.prog Tryd.f9 (OpenSpec.ofChange Rows.flistFindsSpec) false w args)
   (Rows.flistFindsSpec.post enc Tryd.prog Tryd.f9 false true false false) := by
 refine returnsInHanded_of_change_and (C := Tryd.checked) (X := fun w _ => laidMetH Tryd.prog Rows.flistFindsRow.laid w) (fun _ _ _ hh h => h.of_heap hh) own started (by kernel_rfl) Tryd.func9
  (ChangeSpec.witness_shaped (enc := enc) (C := Tryd.checked) (os := os) (X := fun w _ => laidMetH Tryd.prog Rows.flistFindsRow.laid w) false (World.laidAll Tryd.prog os Rows.flistFindsRow.laid) #[.slice none 0 0, .string ByteArray.empty] 8 (World.laidAll_os _ _ _)
   (World.shaped_of_ZipB (by kernel_rfl) (by kernel_rfl)) (by kernel_rfl) (by kernel_rfl) (by kernel_rfl)
   (by rw [MakeChecks.laidMetH_plain _ _ _ (by kernel_rfl)]; exact laidMet_laidAll _ (by kernel_rfl) (by kernel_rfl))) ?_
 intro W base args ds gs before hval0 hW hcnd _ hL_ _
 have hval : ∀ (j : Nat) t v, Tryd.f9.params[j]? = some t → args[j]? = some v → Value.okWide Tryd.prog W .any base t v := hval0
 have hW' := hW
 obtain ⟨p, q, hA0, hV, rfl, hfz, hnd⟩ := hW
 have hA : DataW.TrodAll enc Tryd.prog W 0 (fun _ => true) true Tryd.f9.params.toList args.toList ds p := hA0
 rw [Tryd.params9] at hA hval
 obtain ⟨v0, vs0, d0, ds0, p0, q0, hargs, rfl, rfl, h0, r0⟩ := trodAll_cons hA
 obtain ⟨v1, vs1, d1, ds1, p1, q1, rfl, rfl, rfl, h1, r1⟩ := trodAll_cons r0
 obtain ⟨rfl, rfl, rfl⟩ := trodAll_nil r1
 obtain rfl : args = #[v0, v1] := by cases args; simp_all
 obtain ⟨rfl, rfl⟩ := trodVars_none hV
 obtain ⟨A0, l0, c0, rfl⟩ := okWide_slice Tryd.underlying22 (hval 0 22 v0 rfl rfl)
 have k0 := h0
 have lt0 : ∀ x ∈ p0, x.block < W.heap.size := by obtain ⟨m, hm⟩ := k0; exact DataW.trod_lt m _ _ _ hm
 obtain ⟨fu0, hf0⟩ := h0
 obtain ⟨x0, hk0, hw0⟩ := (show Opn Tryd.prog 22 (Kd.slice 35 k35) (fun n x => x.length < n ∧ ∀ a ∈ x, wf35 n a) from (opn_slice Tryd.underlying22 (by kernel_rfl) opn35)).op enc W 0 _ true fu0 _ _ hf0
 obtain ⟨A_, c_, e0, hL0, hC0⟩ := hk0
 simp only [Value.cells, Array.toList, List.cons.injEq, Value.slice.injEq, and_true] at e0
 obtain ⟨rfl, rfl, rfl⟩ := e0
 obtain ⟨y1, rfl⟩ := okWide_string Tryd.underlying9 (hval 1 9 v1 rfl rfl)
 have k1 := h1
 have lt1 : ∀ x ∈ p1, x.block < W.heap.size := by obtain ⟨m, hm⟩ := k1; exact DataW.trod_lt m _ _ _ hm
 obtain ⟨fu1, hf1⟩ := h1
 obtain ⟨x1, hk1, hw1⟩ := (show Opn Tryd.prog 9 Kd.string (fun n x => x.size < n ∧ x.size ≤ maxLen) from (opn_string Tryd.underlying9 (by kernel_rfl))).op enc W 0 _ true fu1 _ _ hf1
 have e1 := (List.cons.inj hk1).1
 injection e1 with e1
 have e1 := e1.symm
 subst e1
 refine (flistFinds_law W (tabW_laid hL_) A0 c0 x0 hC0 hL0 ⟨Rows.uptoBulk d0, hw0⟩ x1 ⟨Rows.uptoBulk d1, hw1⟩).mono fun e W' ⟨he, bel⟩ => ?_
 subst he
 exact ⟨_, rfl, _, _, _, [], _, [], hW', trodAll_mk1 (shut_bool Tryd.underlying4 _), (trodAll_cons_mk (Below.trod laidOut (by kernel_rfl) (of_decide_eq_true (by kernel_rfl)) k0 bel lt0) (trodAll_cons_mk (Below.trod laidOut (by kernel_rfl) (of_decide_eq_true (by kernel_rfl)) k1 bel lt1) trodAll_mk0)), rfl, bel.frame _, fun h => by cases h⟩
theorem over : Rows.flistFindsRow.holds Tryd.pinned (OpenSpec.ofChange Rows.flistFindsSpec) :=
 OpenClaim.holds_of_wide 9 Tryd.f9 rfl rfl rfl rfl rfl rfl rfl ⟨rfl, rfl, rfl, rfl, rfl⟩ rfl rfl rfl rfl rfl (by kernel_rfl) Tryd.func9 (by kernel_rfl)
  (of_decide_eq_true (by kernel_rfl)) (by unfold Func.isWrapper; first | (rw [if_pos (by decide +kernel)]; kernel_rfl) | (rw [if_neg (by decide +kernel)]; exact ⟨rfl, rfl⟩))
  (fun os started H enc _ => lifted os started H enc)
theorem proved : Rows.FlistFindsSaid := over
theorem card : Rows.FlistFindsCardSaid :=
 Claim7.holds_tied_plain_at .later [] _ _ _ _ proved (fun _ h => by cases h) (by kernel_rfl) (fun _ h => by cases h) flistFinds_row_tie rfl ⟨rfl, rfl⟩ (by kernel_rfl) rfl
  (fun f fn hf hfn => by
   obtain rfl : f = 9 := Option.some.inj ((show Tryd.prog.funcNamed "remora/remoralaw20.FlistFinds" = some 9 by kernel_rfl).symm.trans hf) |>.symm
   obtain rfl : fn = Tryd.f9 := (Option.some.inj (Tryd.func9.symm.trans hfn)).symm
   exact ⟨by kernel_rfl, fun j t ht => by
    rw [Tryd.params9] at ht
    have hm : t ∈ [22, 9] := by simpa using Array.mem_of_getElem? ht
    have hall : ([22, 9].all fun u => !Tryd.prog.wantsStandIn u) = true := by kernel_rfl
    exact (show Tryd.prog.wantsStandIn t = false by simpa using List.all_eq_true.1 hall t hm)⟩)
  (by kernel_rfl)
#print axioms card
end Go.Proofs.YtcdmgdegohcmhaaDoor.flistFindsRow
namespace Go.Proofs.YtcdmgdegohcmhaaDoor
theorem flistFinds_holds : Rows.FlistFindsCardSaid := flistFindsRow.card
end Go.Proofs.YtcdmgdegohcmhaaDoor
namespace Go.Proofs.YtcdmgdegohcmhaaDoor.PA
end Go.Proofs.YtcdmgdegohcmhaaDoor.PA
