/- The walk of glob.signs: its signs are the plain parse, for a pattern of at most 100 bytes. -/
import Derived.Test.YtioehkeocddniaaDoorProg
import Derived.Below
import Derived.Deep.Draws
import Derived.Deep.AppendLies
import Derived.Maps.AppendAt
import Derived.OwnWalk
import Derived.Laws.BytesArg
import Derived.Laws.MakeOwn
import Derived.Laws.OwnMore
import Derived.Deep.OwnRows
import Derived.Tactics
import Derived.Lib.ConvBytes
import Derived.Laws.Slices
import Derived.WalkKit
import Derived.KernelRfl
import Derived.RowKit3
import Derived.Deep.LoopGhost
import Derived.Deep.QuietTactic
import Derived.BigQuiet
import Derived.WideLaws
import Derived.Deep.DeepCutAuto
import Derived.Deep.CutBlock
import Derived.Deep.RegionHeld3
import Derived.Laws.Rows
import Derived.Lib.AppendStr
import Derived.ArgAppend
import Derived.Laws.IdiomCopy
import Derived.OrdersHeld
import Derived.Laws.BitsLemmas
import Derived.RowKit
import Derived.Test.YtioehkeocddniaaDoorNWWords
import Derived.Test.YtioehkeocddniaaDoorNWLast
import Derived.Test.YtioehkeocddniaaDoorNWTab
import Derived.Test.YtioehkeocddniaaDoorNWFour
import Derived.Test.YtioehkeocddniaaDoorNWQPut
import Derived.Test.YtioehkeocddniaaDoorNWApart
import Derived.Test.YtioehkeocddniaaDoorNWArr
import Derived.Test.YtioehkeocddniaaDoorNWZeros
import Derived.Test.YtioehkeocddniaaDoorNWFoot
import Derived.Test.YtioehkeocddniaaDoorNWKept
import Derived.Test.YtioehkeocddniaaDoorNWShare
import Derived.Test.YtioehkeocddniaaDoorNWN
import Derived.Test.YtioehkeocddniaaDoorNWFootNe
import Derived.Test.YtioehkeocddniaaDoorNWAt
import Derived.Test.YtioehkeocddniaaDoorNWEqStruct
import Derived.Test.YtioehkeocddniaaDoorNWRepsOne
import Derived.Test.YtioehkeocddniaaDoorNWInv
import Derived.Test.YtioehkeocddniaaDoorNWInvWords
import Derived.Test.YtioehkeocddniaaDoorNWGuard
import Derived.Test.YtioehkeocddniaaDoorNWNEv
import Derived.Test.YtioehkeocddniaaDoorNWMore
import Derived.Deep.MidRow
import Derived.IntWalk
import Derived.Great.BuildSlice
import Derived.Laws.CopyOwn
import Derived.Outline
namespace Go.Proofs.YtioehkeocddniaaDoor.PA
open Go.RowKit Go.Proofs.YtioehkeocddniaaDoorW.PrintWords Go.Proofs.YtioehkeocddniaaDoorW.PrintLast Go.Proofs.YtioehkeocddniaaDoorW.PrintMore
attribute [local go_sem] max2_int min2_int max_two min_two max_three min_three max_four min_four   -- for this text's walks alone
set_option linter.unusedVariables false
set_option linter.unusedSimpArgs false
def errW : Option Int → Value
 | none => .nilIface
 | some c => .iface 0 (.int .i64 c)
theorem errW_none : errW none = .nilIface := rfl
theorem errW_some (c : Int) : errW (some c) = .iface 0 (.int .i64 c) := rfl
theorem info9 : (Tryd.prog.info? 9).map (fun i => (i.zero, i.size, i.bytes)) = some (some (.string ⟨#[]⟩), 1, 16) := by kernel_rfl
theorem info24 : (Tryd.prog.info? 24).map (fun i => (i.zero, i.size, i.bytes)) = some (some (.agg #[(.int .i64 0), (.string ⟨#[]⟩), (.bool false), (.bool false)]), 4, 32) := by kernel_rfl
structure S24 where
 f0 : Int
 f1 : ByteArray
 f2 : Bool
 f3 : Bool
def z24 : S24 := ⟨(0 : Int), (⟨#[]⟩ : ByteArray), false, false⟩
def k24 : Kd S24 := Kd.iso (Kd.pair (Kd.int .i64) (Kd.pair Kd.string (Kd.pair Kd.bool Kd.bool))) (fun x : S24 => (x.f0, x.f1, x.f2, x.f3))
theorem k24_open {w : World} {x : S24} {cs : List Value} (h : k24.K w x cs) : cs = [.int .i64 x.f0, .string x.f1, .bool x.f2, .bool x.f3] := by
 obtain ⟨_, _, rfl, rfl, ⟨_, _, rfl, rfl, ⟨_, _, rfl, rfl, rfl⟩⟩⟩ := h
 exact rfl
theorem k24_mkM (w : World) (base : Nat) (ok : Nat → Prop) (x : S24)  : k24.M w base ok x [.int .i64 x.f0, .string x.f1, .bool x.f2, .bool x.f3] := ⟨[.int .i64 x.f0], [.string x.f1, .bool x.f2, .bool x.f3], rfl, rfl, ⟨[.string x.f1], [.bool x.f2, .bool x.f3], rfl, rfl, ⟨[.bool x.f2], [.bool x.f3], rfl, rfl, rfl⟩⟩⟩
def rd_T24 (xs : List S24) (i : Int) : S24 := xs.getD i.toNat z24
theorem at_T24 {w : World} {A : Option Addr} {n : Nat} {xs : List S24} (h : Kd.C k24 w A n xs) (i : Int) (h0 : 0 ≤ i) (h1 : i < n) : ∃ ad , A = some ad ∧ w.cell? (ad.add (i.toNat * 4)) = some (.int .i64 (rd_T24 xs i).f0) ∧ w.cell? ⟨(ad.add (i.toNat * 4)).block, (ad.add (i.toNat * 4)).off + 1, none⟩ = some (.string (rd_T24 xs i).f1) ∧ w.cell? ⟨(ad.add (i.toNat * 4)).block, (ad.add (i.toNat * 4)).off + 2, none⟩ = some (.bool (rd_T24 xs i).f2) ∧ w.cell? ⟨(ad.add (i.toNat * 4)).block, (ad.add (i.toNat * 4)).off + 3, none⟩ = some (.bool (rd_T24 xs i).f3) := by
 obtain ⟨ad, c, e, _, hK, hc0⟩ := Kd.C_get h z24 i h0 h1
 have hc : ∀ j u, c[j]? = some u → w.cell? (ad.add (i.toNat * 4 + j)) = some u := hc0
 obtain rfl := k24_open hK
 exact ⟨ad, e, hc 0 _ rfl, by rw [← add_field _ _ 1 (by omega)]; exact hc 1 _ rfl, by rw [← add_field _ _ 2 (by omega)]; exact hc 2 _ rfl, by rw [← add_field _ _ 3 (by omega)]; exact hc 3 _ rfl⟩
end Go.Proofs.YtioehkeocddniaaDoor.PA
namespace Go.Proofs.YtioehkeocddniaaDoor.PA
open Go.RowKit Go.Proofs.YtioehkeocddniaaDoorW.PrintWords Go.Proofs.YtioehkeocddniaaDoorW.PrintLast Go.Proofs.YtioehkeocddniaaDoorW.PrintMore
attribute [local go_sem] max2_int min2_int max_two min_two max_three min_three max_four min_four   -- for this text's walks alone
set_option linter.unusedVariables false
set_option linter.unusedSimpArgs false
def glob_member.j0 : Nat → ByteArray → Int → Bool → Option (Int × Int × Bool)
 | 0, _, _, _ => none
 | k + 1, x0, x1, x16 => if x16 = true then (if (wrap64 (x1 + 1)) ≥ (x0.size : Int) then (some (0, 0, false)) else (if 0 ≤ (wrap64 (x1 + 1)) then (if (wrap64 (x1 + 1)) < (x0.size : Int) then (some (bt x0 (wrap64 (x1 + 1)), wrap64 ((wrap64 (x1 + 1)) + 1), true)) else (none)) else (none))) else (if x1 ≥ (x0.size : Int) then (some (0, 0, false)) else (if 0 ≤ x1 then (if x1 < (x0.size : Int) then (some (bt x0 x1, wrap64 (x1 + 1), true)) else (none)) else (none)))
def glob_member.f (k : Nat) (a0 : ByteArray) (a1 : Int) : Option (Int × Int × Bool) := if a1 < (a0.size : Int) then (if 0 ≤ a1 then (glob_member.j0 k a0 a1 ((bt a0 a1) == 92)) else (none)) else (glob_member.j0 k a0 a1 false)
set_option maxHeartbeats 8000000 in
set_option maxRecDepth 100000 in
theorem glob_member.calls (k : Nat) (a0 : ByteArray) (a1 : Int) (r1 : Int) (r2 : Int) (r3 : Bool) (w : World) (h : glob_member.f k a0 a1 = some (r1, r2, r3)) :
  Calls Tryd.prog 79 #[.string a0, .int .i64 a1] w fun e w' => e = .returned (.tuple #[.int .u8 r1, .int .i64 r2, .bool r3]) ∧ Drawn0 w w' := by
 have H : (if a1 < (a0.size : Int) then (if 0 ≤ a1 then (glob_member.j0 k a0 a1 ((bt a0 a1) == 92)) else (none)) else (glob_member.j0 k a0 a1 false)) = some (r1, r2, r3) := h
 clear h
 have HC3 := Aside0.mk H
 clear H
 go_enter Tryd.func79, Tryd.ntmps79
 go_upto_region 1 with (fail)
 go_cut [16] (fun v16 wc => ∃ (kq : Nat) (x16_2 : Bool), v16 = .bool x16_2 ∧ Aside0 (glob_member.j0 kq a0 a1 x16_2 = some (r1, r2, r3)) ∧ Aside0 (kq ≤ k) ∧ Drawn0 w wc)
 case first =>
  have H := HC3.out
  clear HC3
  by_cases c4 : a1 < (a0.size : Int)
  ·rw [if_pos c4] at H
   have c4b0 : decide (a1 < (a0.size : Int)) = true := decide_eq_true c4
   clear c4
   (first | rw [c4b0] | (simp only [i64_w, i32_w]; rw [c4b0]) | skip)
   by_cases c5 : 0 ≤ a1
   ·rw [if_pos c5] at H
    have c5b0 : decide (0 ≤ a1) = true := decide_eq_true c5
    clear c5
    have H' := Aside0.mk H
    clear H
    have p6 : 0 ≤ (a1 : Int) := of_decide_eq_true (by first | (with_reducible assumption) | assumption)
    have q6 : a1 < (a0.size : Int) := of_decide_eq_true (by first | (with_reducible assumption) | assumption)
    have hx6 := bt_at a0 a1
    replace p6 := eq_true p6
    replace q6 := eq_true q6
    go_wp2
    go_meet
    case rel => exact ⟨_, (((bt a0 a1) == 92)), (by first | rfl | (simp; done) | (simp [*]; done)), H', ⟨by first | omega | exact Nat.le_refl _⟩, by repeat (first | exact Drawn0.refl _ | apply Drawn0.step)⟩
   ·rw [if_neg c5] at H
    exact absurd H (by simp)
  ·rw [if_neg c4] at H
   have c4b0 : decide (a1 < (a0.size : Int)) = false := decide_eq_false c4
   clear c4
   (first | rw [c4b0] | (simp only [i64_w, i32_w]; rw [c4b0]) | skip)
   have H' := Aside0.mk H
   clear H
   go_wp2
   go_meet
   case rel => exact ⟨_, (false), (by first | rfl | (simp; done) | (simp [*]; done)), H', ⟨by first | omega | exact Nat.le_refl _⟩, by repeat (first | exact Drawn0.refl _ | apply Drawn0.step)⟩
 case rest =>
  clear HC3
  try clear p2
  try clear c4
  try clear c4b0
  try clear c5
  try clear c5b0
  try clear p6
  try clear q6
  try clear hx6
  try clear p6
  try clear q6
  obtain ⟨kq, x16_2, rfl, HA, HJ2, ⟨mc2, rfl⟩⟩ := hcut
  cases kq with
  | zero => exact absurd HA.out (by simp [glob_member.j0])
  | succ kj2 =>
   have H := HA.out
   clear HA
   simp only [glob_member.j0] at H
   by_cases c7 : x16_2 = true
   ·subst c7
    have H1 : (if (wrap64 (a1 + 1)) ≥ (a0.size : Int) then (some (0, 0, false)) else (if 0 ≤ (wrap64 (a1 + 1)) then (if (wrap64 (a1 + 1)) < (a0.size : Int) then (some (bt a0 (wrap64 (a1 + 1)), wrap64 ((wrap64 (a1 + 1)) + 1), true)) else (none)) else (none))) = some (r1, r2, r3) := by rw [if_pos rfl] at H; exact H
    clear H
    have H := H1
    clear H1
    by_cases c8 : (wrap64 (a1 + 1)) ≥ (a0.size : Int)
    ·rw [if_pos c8] at H
     have c8b0 : decide ((a0.size : Int) ≤ (wrap64 (a1 + 1))) = true := decide_eq_true c8
     clear c8
     simp only [Option.some.injEq, Prod.mk.injEq] at H
     obtain ⟨rfl, rfl, rfl⟩ := H
     go_wp2
     go_ret3
     exact ⟨by first | rfl | (simp; done) | (simp [*]; done), by repeat (first | exact Drawn0.refl _ | apply Drawn0.step)⟩
    ·rw [if_neg c8] at H
     have c8b0 : decide ((a0.size : Int) ≤ (wrap64 (a1 + 1))) = false := decide_eq_false c8
     clear c8
     obtain ⟨ji9, hji9⟩ : ∃ j_ : Int, (wrap64 (a1 + 1)) = j_ := ⟨_, rfl⟩
     replace H : (if 0 ≤ (ji9) then (if (ji9) < (a0.size : Int) then (some (bt a0 (ji9), wrap64 ((ji9) + 1), true)) else (none)) else (none)) = some (r1, r2, r3) := by first | (rw [hji9] at H; exact H) | (simp only [hji9] at H ⊢; exact H)
     (try rw [hji9] at c8b0)
     have hji9w : (IntKind.i64.wrap (a1 + 1)) = ji9 := (i64_w _).trans hji9
     by_cases c10 : 0 ≤ (ji9)
     ·rw [if_pos c10] at H
      have c10b0 : decide (0 ≤ (ji9)) = true := decide_eq_true c10
      clear c10
      by_cases c11 : (ji9) < (a0.size : Int)
      ·rw [if_pos c11] at H
       have c11b0 : decide ((ji9) < (a0.size : Int)) = true := decide_eq_true c11
       clear c11
       simp only [Option.some.injEq, Prod.mk.injEq] at H
       obtain ⟨rfl, rfl, rfl⟩ := H
       have p12 : 0 ≤ ((ji9) : Int) := of_decide_eq_true (by first | (with_reducible assumption) | assumption)
       have q12 : (ji9) < (a0.size : Int) := of_decide_eq_true (by first | (with_reducible assumption) | assumption)
       have hx12 := bt_at a0 (ji9)
       replace p12 := eq_true p12
       replace q12 := eq_true q12
       go_wp2
       go_ret3
       exact ⟨by first | rfl | (simp; done) | (simp only [← hji9] <;> (first | rfl | simp)) | (simp [*]; done), by repeat (first | exact Drawn0.refl _ | apply Drawn0.step)⟩
      ·rw [if_neg c11] at H
       exact absurd H (by simp)
     ·rw [if_neg c10] at H
      exact absurd H (by simp)
   ·replace c7 := Bool.eq_false_iff.mpr c7
    subst c7
    have H1 : (if a1 ≥ (a0.size : Int) then (some (0, 0, false)) else (if 0 ≤ a1 then (if a1 < (a0.size : Int) then (some (bt a0 a1, wrap64 (a1 + 1), true)) else (none)) else (none))) = some (r1, r2, r3) := by rw [if_neg (show ¬ (false = true) by decide)] at H; exact H
    clear H
    have H := H1
    clear H1
    by_cases c13 : a1 ≥ (a0.size : Int)
    ·rw [if_pos c13] at H
     have c13b0 : decide ((a0.size : Int) ≤ a1) = true := decide_eq_true c13
     clear c13
     simp only [Option.some.injEq, Prod.mk.injEq] at H
     obtain ⟨rfl, rfl, rfl⟩ := H
     go_wp2
     go_ret3
     exact ⟨by first | rfl | (simp; done) | (simp [*]; done), by repeat (first | exact Drawn0.refl _ | apply Drawn0.step)⟩
    ·rw [if_neg c13] at H
     have c13b0 : decide ((a0.size : Int) ≤ a1) = false := decide_eq_false c13
     clear c13
     by_cases c14 : 0 ≤ a1
     ·rw [if_pos c14] at H
      have c14b0 : decide (0 ≤ a1) = true := decide_eq_true c14
      clear c14
      by_cases c15 : a1 < (a0.size : Int)
      ·rw [if_pos c15] at H
       have c15b0 : decide (a1 < (a0.size : Int)) = true := decide_eq_true c15
       clear c15
       simp only [Option.some.injEq, Prod.mk.injEq] at H
       obtain ⟨rfl, rfl, rfl⟩ := H
       have p16 : 0 ≤ (a1 : Int) := of_decide_eq_true (by first | (with_reducible assumption) | assumption)
       have q16 : a1 < (a0.size : Int) := of_decide_eq_true (by first | (with_reducible assumption) | assumption)
       have hx16 := bt_at a0 a1
       replace p16 := eq_true p16
       replace q16 := eq_true q16
       go_wp2
       go_ret3
       exact ⟨by first | rfl | (simp; done) | (simp [*]; done), by repeat (first | exact Drawn0.refl _ | apply Drawn0.step)⟩
      ·rw [if_neg c15] at H
       exact absurd H (by simp)
     ·rw [if_neg c14] at H
      exact absurd H (by simp)
end Go.Proofs.YtioehkeocddniaaDoor.PA
namespace Go.Proofs.YtioehkeocddniaaDoor.PA
open Go.RowKit Go.Proofs.YtioehkeocddniaaDoorW.PrintWords Go.Proofs.YtioehkeocddniaaDoorW.PrintLast Go.Proofs.YtioehkeocddniaaDoorW.PrintMore
attribute [local go_sem] max2_int min2_int max_two min_two max_three min_three max_four min_four   -- for this text's walks alone
set_option linter.unusedVariables false
set_option linter.unusedSimpArgs false
def remoraref14_member.j0 : Nat → ByteArray → Int → Bool → Option (Int × Int × Bool)
 | 0, _, _, _ => none
 | k + 1, x0, x1, x16 => if x16 = true then (if (wrap64 (x1 + 1)) ≥ (x0.size : Int) then (some (0, 0, false)) else (if 0 ≤ (wrap64 (x1 + 1)) then (if (wrap64 (x1 + 1)) < (x0.size : Int) then (some (bt x0 (wrap64 (x1 + 1)), wrap64 ((wrap64 (x1 + 1)) + 1), true)) else (none)) else (none))) else (if x1 ≥ (x0.size : Int) then (some (0, 0, false)) else (if 0 ≤ x1 then (if x1 < (x0.size : Int) then (some (bt x0 x1, wrap64 (x1 + 1), true)) else (none)) else (none)))
def remoraref14_member.f (k : Nat) (a0 : ByteArray) (a1 : Int) : Option (Int × Int × Bool) := if a1 < (a0.size : Int) then (if 0 ≤ a1 then (remoraref14_member.j0 k a0 a1 ((bt a0 a1) == 92)) else (none)) else (remoraref14_member.j0 k a0 a1 false)
set_option maxHeartbeats 8000000 in
set_option maxRecDepth 100000 in
theorem remoraref14_member.calls (k : Nat) (a0 : ByteArray) (a1 : Int) (r1 : Int) (r2 : Int) (r3 : Bool) (w : World) (h : remoraref14_member.f k a0 a1 = some (r1, r2, r3)) :
  Calls Tryd.prog 89 #[.string a0, .int .i64 a1] w fun e w' => e = .returned (.tuple #[.int .u8 r1, .int .i64 r2, .bool r3]) ∧ Drawn0 w w' := by
 have H : (if a1 < (a0.size : Int) then (if 0 ≤ a1 then (remoraref14_member.j0 k a0 a1 ((bt a0 a1) == 92)) else (none)) else (remoraref14_member.j0 k a0 a1 false)) = some (r1, r2, r3) := h
 clear h
 have HC3 := Aside0.mk H
 clear H
 go_enter Tryd.func89, Tryd.ntmps89
 go_upto_region 1 with (fail)
 go_cut [16] (fun v16 wc => ∃ (kq : Nat) (x16_2 : Bool), v16 = .bool x16_2 ∧ Aside0 (remoraref14_member.j0 kq a0 a1 x16_2 = some (r1, r2, r3)) ∧ Aside0 (kq ≤ k) ∧ Drawn0 w wc)
 case first =>
  have H := HC3.out
  clear HC3
  by_cases c4 : a1 < (a0.size : Int)
  ·rw [if_pos c4] at H
   have c4b0 : decide (a1 < (a0.size : Int)) = true := decide_eq_true c4
   clear c4
   (first | rw [c4b0] | (simp only [i64_w, i32_w]; rw [c4b0]) | skip)
   by_cases c5 : 0 ≤ a1
   ·rw [if_pos c5] at H
    have c5b0 : decide (0 ≤ a1) = true := decide_eq_true c5
    clear c5
    have H' := Aside0.mk H
    clear H
    have p6 : 0 ≤ (a1 : Int) := of_decide_eq_true (by first | (with_reducible assumption) | assumption)
    have q6 : a1 < (a0.size : Int) := of_decide_eq_true (by first | (with_reducible assumption) | assumption)
    have hx6 := bt_at a0 a1
    replace p6 := eq_true p6
    replace q6 := eq_true q6
    go_wp2
    go_meet
    case rel => exact ⟨_, (((bt a0 a1) == 92)), (by first | rfl | (simp; done) | (simp [*]; done)), H', ⟨by first | omega | exact Nat.le_refl _⟩, by repeat (first | exact Drawn0.refl _ | apply Drawn0.step)⟩
   ·rw [if_neg c5] at H
    exact absurd H (by simp)
  ·rw [if_neg c4] at H
   have c4b0 : decide (a1 < (a0.size : Int)) = false := decide_eq_false c4
   clear c4
   (first | rw [c4b0] | (simp only [i64_w, i32_w]; rw [c4b0]) | skip)
   have H' := Aside0.mk H
   clear H
   go_wp2
   go_meet
   case rel => exact ⟨_, (false), (by first | rfl | (simp; done) | (simp [*]; done)), H', ⟨by first | omega | exact Nat.le_refl _⟩, by repeat (first | exact Drawn0.refl _ | apply Drawn0.step)⟩
 case rest =>
  clear HC3
  try clear p2
  try clear c4
  try clear c4b0
  try clear c5
  try clear c5b0
  try clear p6
  try clear q6
  try clear hx6
  try clear p6
  try clear q6
  obtain ⟨kq, x16_2, rfl, HA, HJ2, ⟨mc2, rfl⟩⟩ := hcut
  cases kq with
  | zero => exact absurd HA.out (by simp [remoraref14_member.j0])
  | succ kj2 =>
   have H := HA.out
   clear HA
   simp only [remoraref14_member.j0] at H
   by_cases c7 : x16_2 = true
   ·subst c7
    have H1 : (if (wrap64 (a1 + 1)) ≥ (a0.size : Int) then (some (0, 0, false)) else (if 0 ≤ (wrap64 (a1 + 1)) then (if (wrap64 (a1 + 1)) < (a0.size : Int) then (some (bt a0 (wrap64 (a1 + 1)), wrap64 ((wrap64 (a1 + 1)) + 1), true)) else (none)) else (none))) = some (r1, r2, r3) := by rw [if_pos rfl] at H; exact H
    clear H
    have H := H1
    clear H1
    by_cases c8 : (wrap64 (a1 + 1)) ≥ (a0.size : Int)
    ·rw [if_pos c8] at H
     have c8b0 : decide ((a0.size : Int) ≤ (wrap64 (a1 + 1))) = true := decide_eq_true c8
     clear c8
     simp only [Option.some.injEq, Prod.mk.injEq] at H
     obtain ⟨rfl, rfl, rfl⟩ := H
     go_wp2
     go_ret3
     exact ⟨by first | rfl | (simp; done) | (simp [*]; done), by repeat (first | exact Drawn0.refl _ | apply Drawn0.step)⟩
    ·rw [if_neg c8] at H
     have c8b0 : decide ((a0.size : Int) ≤ (wrap64 (a1 + 1))) = false := decide_eq_false c8
     clear c8
     obtain ⟨ji9, hji9⟩ : ∃ j_ : Int, (wrap64 (a1 + 1)) = j_ := ⟨_, rfl⟩
     replace H : (if 0 ≤ (ji9) then (if (ji9) < (a0.size : Int) then (some (bt a0 (ji9), wrap64 ((ji9) + 1), true)) else (none)) else (none)) = some (r1, r2, r3) := by first | (rw [hji9] at H; exact H) | (simp only [hji9] at H ⊢; exact H)
     (try rw [hji9] at c8b0)
     have hji9w : (IntKind.i64.wrap (a1 + 1)) = ji9 := (i64_w _).trans hji9
     by_cases c10 : 0 ≤ (ji9)
     ·rw [if_pos c10] at H
      have c10b0 : decide (0 ≤ (ji9)) = true := decide_eq_true c10
      clear c10
      by_cases c11 : (ji9) < (a0.size : Int)
      ·rw [if_pos c11] at H
       have c11b0 : decide ((ji9) < (a0.size : Int)) = true := decide_eq_true c11
       clear c11
       simp only [Option.some.injEq, Prod.mk.injEq] at H
       obtain ⟨rfl, rfl, rfl⟩ := H
       have p12 : 0 ≤ ((ji9) : Int) := of_decide_eq_true (by first | (with_reducible assumption) | assumption)
       have q12 : (ji9) < (a0.size : Int) := of_decide_eq_true (by first | (with_reducible assumption) | assumption)
       have hx12 := bt_at a0 (ji9)
       replace p12 := eq_true p12
       replace q12 := eq_true q12
       go_wp2
       go_ret3
       exact ⟨by first | rfl | (simp; done) | (simp only [← hji9] <;> (first | rfl | simp)) | (simp [*]; done), by repeat (first | exact Drawn0.refl _ | apply Drawn0.step)⟩
      ·rw [if_neg c11] at H
       exact absurd H (by simp)
     ·rw [if_neg c10] at H
      exact absurd H (by simp)
   ·replace c7 := Bool.eq_false_iff.mpr c7
    subst c7
    have H1 : (if a1 ≥ (a0.size : Int) then (some (0, 0, false)) else (if 0 ≤ a1 then (if a1 < (a0.size : Int) then (some (bt a0 a1, wrap64 (a1 + 1), true)) else (none)) else (none))) = some (r1, r2, r3) := by rw [if_neg (show ¬ (false = true) by decide)] at H; exact H
    clear H
    have H := H1
    clear H1
    by_cases c13 : a1 ≥ (a0.size : Int)
    ·rw [if_pos c13] at H
     have c13b0 : decide ((a0.size : Int) ≤ a1) = true := decide_eq_true c13
     clear c13
     simp only [Option.some.injEq, Prod.mk.injEq] at H
     obtain ⟨rfl, rfl, rfl⟩ := H
     go_wp2
     go_ret3
     exact ⟨by first | rfl | (simp; done) | (simp [*]; done), by repeat (first | exact Drawn0.refl _ | apply Drawn0.step)⟩
    ·rw [if_neg c13] at H
     have c13b0 : decide ((a0.size : Int) ≤ a1) = false := decide_eq_false c13
     clear c13
     by_cases c14 : 0 ≤ a1
     ·rw [if_pos c14] at H
      have c14b0 : decide (0 ≤ a1) = true := decide_eq_true c14
      clear c14
      by_cases c15 : a1 < (a0.size : Int)
      ·rw [if_pos c15] at H
       have c15b0 : decide (a1 < (a0.size : Int)) = true := decide_eq_true c15
       clear c15
       simp only [Option.some.injEq, Prod.mk.injEq] at H
       obtain ⟨rfl, rfl, rfl⟩ := H
       have p16 : 0 ≤ (a1 : Int) := of_decide_eq_true (by first | (with_reducible assumption) | assumption)
       have q16 : a1 < (a0.size : Int) := of_decide_eq_true (by first | (with_reducible assumption) | assumption)
       have hx16 := bt_at a0 a1
       replace p16 := eq_true p16
       replace q16 := eq_true q16
       go_wp2
       go_ret3
       exact ⟨by first | rfl | (simp; done) | (simp [*]; done), by repeat (first | exact Drawn0.refl _ | apply Drawn0.step)⟩
      ·rw [if_neg c15] at H
       exact absurd H (by simp)
     ·rw [if_neg c14] at H
      exact absurd H (by simp)
end Go.Proofs.YtioehkeocddniaaDoor.PA
namespace Go.Proofs.YtioehkeocddniaaDoor.PA
open Go.RowKit Go.Proofs.YtioehkeocddniaaDoorW.PrintWords Go.Proofs.YtioehkeocddniaaDoorW.PrintLast Go.Proofs.YtioehkeocddniaaDoorW.PrintMore
attribute [local go_sem] max2_int min2_int max_two min_two max_three min_three max_four min_four
set_option linter.unusedVariables false
set_option linter.unusedSimpArgs false
structure Sg where
 k : Int
 c : Int
 n : Bool
 s : Nat → Bool
inductive Tok where
 | lit (c : Int)
 | star2
 | star
 | one
 | cls (n : Bool) (s : Nat → Bool)
def noS : Nat → Bool := fun _ => false
def sgz : Sg := ⟨0, 0, false, noS⟩
def codeSg : Tok → Sg
 | .lit c => ⟨0, c, false, noS⟩
 | .star2 => ⟨1, 0, false, noS⟩
 | .star => ⟨2, 0, false, noS⟩
 | .one => ⟨3, 0, false, noS⟩
 | .cls n s => ⟨4, 0, n, s⟩
def refSg : Tok → Sg
 | .lit c => ⟨0, c, false, noS⟩
 | .one => ⟨1, 63, false, noS⟩
 | .star => ⟨2, 42, false, noS⟩
 | .star2 => ⟨3, 42, false, noS⟩
 | .cls n s => ⟨4, 0, n, s⟩
def sgL (x : Sg) : List Value := .int .i64 x.k :: .int .u8 x.c :: .bool x.n :: (List.range 256).map (fun i => .bool (x.s i))
def sgA (x : Sg) : Array Value := (sgL x).toArray
theorem sgL_len (x : Sg) : (sgL x).length = 259 := by simp [sgL]
theorem sgA_len (x : Sg) : (sgA x).size = 259 := by simp [sgA, sgL_len]
theorem sgL_one (x : Sg) : ∀ u ∈ sgL x, u.oneCell' = true := by
 intro u hu
 simp only [sgL, List.mem_cons, List.mem_map] at hu
 rcases hu with rfl | rfl | rfl | ⟨i, _, rfl⟩ <;> rfl
theorem sgA_one (x : Sg) : (sgA x).all (·.oneCell') = true := all_oneCell_toArray (sgL_one x)
theorem sgL_get (x : Sg) (i : Nat) (h : i < 256) : (sgL x)[3 + i]? = some (.bool (x.s i)) := by
 rw [Nat.add_comm]
 simp [sgL, h]
theorem sgA_get (x : Sg) (i : Nat) (h : i < 256) : (sgA x)[3 + i]? = some (.bool (x.s i)) := by
 rw [sgA, List.getElem?_toArray, sgL_get x i h]
def addS (s : Nat → Bool) (j : Nat) : Nat → Bool := fun i => i == j || s i
theorem sg_set (k c : Int) (n : Bool) (s : Nat → Bool) (j : Nat) (h : j < 256) : (sgA ⟨k, c, n, s⟩).setIfInBounds (3 + j) (.bool true) = sgA ⟨k, c, n, addS s j⟩ := by
 apply Array.ext_getElem?
 intro i
 rw [Array.getElem?_setIfInBounds, sgA_len]
 by_cases hi : 3 + j = i
 ·subst hi
  rw [if_pos rfl, if_pos (by omega), sgA_get _ _ h]
  simp [addS]
 ·rw [if_neg hi]
  by_cases h3 : i < 3
  ·have : i = 0 ∨ i = 1 ∨ i = 2 := by omega
   rcases this with rfl | rfl | rfl <;> simp only [sgA, sgL, List.getElem?_toArray, List.getElem?_cons_zero, List.getElem?_cons_succ]
  ·obtain ⟨m, rfl⟩ : ∃ m, i = 3 + m := ⟨i - 3, by omega⟩
   by_cases hm : m < 256
   ·rw [sgA_get _ _ hm, sgA_get _ _ hm]
    have : (m == j) = false := by simp; omega
    simp [addS, this]
   ·rw [Array.getElem?_eq_none (by rw [sgA_len]; omega), Array.getElem?_eq_none (by rw [sgA_len]; omega)]
theorem sg_not (k c : Int) (n : Bool) (s : Nat → Bool) : (sgA ⟨k, c, n, s⟩).setIfInBounds 2 (.bool true) = sgA ⟨k, c, true, s⟩ := by
 simp only [sgA, sgL, List.setIfInBounds_toArray, List.set_cons_succ, List.set_cons_zero]
theorem sg_kind (k c k' : Int) (n : Bool) (s : Nat → Bool) : (sgA ⟨k, c, n, s⟩).setIfInBounds 0 (.int .i64 k') = sgA ⟨k', c, n, s⟩ := by
 simp only [sgA, sgL, List.setIfInBounds_toArray, List.set_cons_succ, List.set_cons_zero]
theorem sg_c (k c c' : Int) (n : Bool) (s : Nat → Bool) : (sgA ⟨k, c, n, s⟩).setIfInBounds 1 (.int .u8 c') = sgA ⟨k, c', n, s⟩ := by
 simp only [sgA, sgL, List.setIfInBounds_toArray, List.set_cons_succ, List.set_cons_zero]
def kRow {α : Type} (n : Nat) (enc : α → List Value) (hl : ∀ x, (enc x).length = n) (h1 : ∀ x, ∀ u ∈ enc x, u.oneCell' = true) : Kd α where
 sz := n
 E := []
 K := fun _ x cs => cs = enc x
 M := fun _ _ _ x cs => cs = enc x
 K_len := fun h => by rw [h]; exact hl _
 K_one := fun h u hu => by
  rw [h] at hu
  exact h1 _ u hu
 K_below := fun _ h => h
 K_of_M := fun h => h
 M_mono := fun _ h => h
 M_bound := fun h => h
 M_move := fun _ h => h
 M_lower := fun _ h => h
def kSg : Kd Sg := kRow 259 sgL sgL_len sgL_one
theorem sgInfo1 : (Tryd.prog.info? 64).map (fun i => (i.zero, i.size, i.bytes)) = some (some (.agg (sgA sgz)), 259, 272) := by kernel_rfl
theorem sgInfo2 : (Tryd.prog.info? 76).map (fun i => (i.zero, i.size, i.bytes)) = some (some (.agg (sgA sgz)), 259, 272) := by kernel_rfl
theorem sgSize1 (x : Sg) : (Tryd.prog.info? 64).map (·.size) = some (sgA x).size := by rw [sgA_len]; kernel_rfl
theorem sgSize2 (x : Sg) : (Tryd.prog.info? 76).map (·.size) = some (sgA x).size := by rw [sgA_len]; kernel_rfl
theorem sgZero_of {P : Program} {t : TypeId} (h : (P.info? t).map (fun i => (i.zero, i.size, i.bytes)) = some (some (.agg (sgA sgz)), 259, 272)) (W : World) : (zeroValue t).run P W = .ok (.agg (sgA sgz)) W := by
 cases hq : P.info? t with
 | none => simp [hq] at h
 | some i =>
  simp only [hq, Option.map_some, Option.some.injEq, Prod.mk.injEq] at h
  obtain ⟨h1, h2, h3⟩ := h
  simp [zeroValue, typeInfo, hq, h1]
theorem sgAlloc (W : World) : (zeroValue 64).run Tryd.prog W = .ok (.agg (sgA sgz)) W := sgZero_of sgInfo1 W
theorem sgAlloc2 (W : World) : (zeroValue 76).run Tryd.prog W = .ok (.agg (sgA sgz)) W := sgZero_of sgInfo2 W
end Go.Proofs.YtioehkeocddniaaDoor.PA
namespace Go.Proofs.YtioehkeocddniaaDoor.PA
open Go.RowKit Go.Proofs.YtioehkeocddniaaDoorW.PrintWords Go.Proofs.YtioehkeocddniaaDoorW.PrintLast Go.Proofs.YtioehkeocddniaaDoorW.PrintMore
attribute [local go_sem] max2_int min2_int max_two min_two max_three min_three max_four min_four
set_option linter.unusedVariables false
set_option linter.unusedSimpArgs false
def gL (s : ByteArray) : List Int := bytesOf s
theorem gl_len (s : ByteArray) : (gL s).length = s.size := by
 rw [gL, bytesOf_length]
theorem gl_get (s : ByteArray) (i : Nat) (h : i < s.size) : (gL s)[i]? = some (bt s (i : Int)) := by
 rw [bt, dif_pos (by simpa using h)]
 simp [gL, bytesOf, h]
 rfl
def dropL (s : ByteArray) (i : Nat) : List Int := (gL s).drop i
theorem dropL_len (s : ByteArray) (i : Nat) : (dropL s i).length = s.size - i := by rw [dropL, List.length_drop, gl_len]
theorem gl_drop (s : ByteArray) (i : Nat) (h : i < s.size) : dropL s i = bt s (i : Int) :: dropL s (i + 1) := by
 unfold dropL
 have h1 := gl_get s i h
 obtain ⟨hl, hg⟩ := List.getElem?_eq_some_iff.1 h1
 rw [List.drop_eq_getElem_cons hl, hg]
theorem gl_end (s : ByteArray) (i : Nat) (h : s.size ≤ i) : dropL s i = [] := List.drop_eq_nil_of_le (by rw [gl_len]; exact h)
theorem bt_range (s : ByteArray) (i : Int) : 0 ≤ bt s i ∧ bt s i < 256 := by
 unfold bt
 split
 ·have := (s[i.toNat]'(by assumption)).toNat_lt
  omega
 ·omega
def mem1 : List Int → Option (Int × List Int)
 | [] => none
 | c :: r => if c = 92 then (match r with | [] => none | d :: r' => some (d, r')) else some (c, r)
def dash : List Int → Bool
 | a :: d :: _ => a == 45 && d != 93
 | _ => false
def rngS (s : Nat → Bool) (lo hi : Int) : Nat → Bool := fun i => (decide (lo ≤ (i : Int)) && decide ((i : Int) ≤ hi)) || s i
def clsL : Nat → List Int → (Nat → Bool) → Option (List Int × (Nat → Bool))
 | 0, _, _ => none
 | _ + 1, [], s => some ([], s)
 | n + 1, c :: r, s => if c = 93 then some (c :: r, s) else
  match mem1 (c :: r) with
  | none => none
  | some lr => if dash lr.2 = true then (match mem1 (lr.2.drop 1) with | none => none | some hr => if hr.1 < lr.1 then none else clsL n hr.2 (rngS s lr.1 hr.1)) else clsL n lr.2 (rngS s lr.1 lr.1)
def clsEnd (nt : Bool) : Option (List Int × (Nat → Bool)) → Option (Tok × List Int)
 | none => none
 | some ([], _) => none
 | some (_ :: q, s) => some (.cls nt s, q)
def cls1 (nt : Bool) (l : List Int) : Option (Tok × List Int) :=
 match l with
 | [] => none
 | c :: r => if c = 93 then none else clsEnd nt (clsL (l.length + 1) l noS)
def cls0 (l : List Int) : Option (Tok × List Int) :=
 match l with
 | [] => none
 | c :: r => if c = 33 then cls1 true r else cls1 false (c :: r)
theorem clsL_eq (n : Nat) (c : Int) (r : List Int) (s : Nat → Bool) : clsL (n + 1) (c :: r) s = (if c = 93 then some (c :: r, s) else
  match mem1 (c :: r) with
  | none => none
  | some lr => if dash lr.2 = true then (match mem1 (lr.2.drop 1) with | none => none | some hr => if hr.1 < lr.1 then none else clsL n hr.2 (rngS s lr.1 hr.1)) else clsL n lr.2 (rngS s lr.1 lr.1)) := rfl
def sk : List Int → List Int
 | [] => []
 | c :: r => if c = 42 then sk r else c :: r
def parse : Nat → List Int → Option (List Tok)
 | 0, _ => none
 | _ + 1, [] => some []
 | n + 1, c :: r =>
  if c = 42 then (parse n (sk r)).map ((if (sk r).length < r.length then Tok.star2 else Tok.star) :: ·)
  else if c = 63 then (parse n r).map (Tok.one :: ·)
  else if c = 91 then (match cls0 r with | none => none | some tr => (parse n tr.2).map (tr.1 :: ·))
  else if c = 92 then (match r with | [] => none | d :: r' => (parse n r').map (Tok.lit d :: ·))
  else (parse n r).map (Tok.lit c :: ·)
theorem gp0 (x : Int) (h0 : -9223372036854775808 ≤ x) (h1 : x < 9223372036854775808) : wrap64 x = x := by
 unfold wrap64
 omega
theorem gp1 (a : Nat) (n : Nat) (h : a ≤ n) (hn : n < 1000000) : wrap64 ((a : Int) + 1) = ((a + 1 : Nat) : Int) := by
 rw [gp0 _ (by omega) (by omega)]
 omega
theorem member_at (s : ByteArray) (i : Nat) (hs : s.size < 1000000) (hi : i ≤ s.size) : (∃ c j, mem1 (dropL s i) = some (c, dropL s j) ∧ i < j ∧ j ≤ s.size ∧ c = bt s ((j - 1 : Nat) : Int) ∧ glob_member.f 5 s (i : Int) = some (c, (j : Int), true)) ∨ (mem1 (dropL s i) = none ∧ glob_member.f 5 s (i : Int) = some (0, 0, false)) := by
 unfold glob_member.f
 by_cases h : i < s.size
 ·rw [if_pos (by omega), if_pos (by omega), gl_drop s i h]
  unfold mem1
  dsimp only
  by_cases hc : bt s (i : Int) = 92
  ·rw [if_pos hc, show (bt s (i : Int) == 92) = true from beq_iff_eq.2 hc]
   unfold glob_member.j0
   dsimp only
   rw [if_pos rfl, gp1 i s.size hi hs]
   by_cases h2 : i + 1 < s.size
   ·rw [gl_drop s (i + 1) h2, if_neg (by omega), if_pos (by omega), if_pos (by omega), gp1 (i + 1) s.size (by omega) hs]
    exact .inl ⟨_, i + 1 + 1, rfl, by omega, by omega, by simp, rfl⟩
   ·rw [gl_end s (i + 1) (by omega), if_pos (by omega)]
    exact .inr ⟨rfl, rfl⟩
  ·rw [if_neg hc, show (bt s (i : Int) == 92) = false from beq_eq_false_iff_ne.2 hc]
   unfold glob_member.j0
   dsimp only
   rw [if_neg (by decide), if_neg (by omega), if_pos (by omega), if_pos (by omega), gp1 i s.size hi hs]
   exact .inl ⟨_, i + 1, rfl, by omega, by omega, by simp, rfl⟩
 ·rw [if_neg (by omega), gl_end s i (by omega)]
  unfold glob_member.j0
  dsimp only
  rw [if_neg (by decide), if_pos (by omega)]
  exact .inr ⟨rfl, rfl⟩
theorem rmember_at (s : ByteArray) (i : Nat) (hs : s.size < 1000000) (hi : i ≤ s.size) : (∃ c j, mem1 (dropL s i) = some (c, dropL s j) ∧ i < j ∧ j ≤ s.size ∧ c = bt s ((j - 1 : Nat) : Int) ∧ remoraref14_member.f 5 s (i : Int) = some (c, (j : Int), true)) ∨ (mem1 (dropL s i) = none ∧ remoraref14_member.f 5 s (i : Int) = some (0, 0, false)) := by
 unfold remoraref14_member.f
 by_cases h : i < s.size
 ·rw [if_pos (by omega), if_pos (by omega), gl_drop s i h]
  unfold mem1
  dsimp only
  by_cases hc : bt s (i : Int) = 92
  ·rw [if_pos hc, show (bt s (i : Int) == 92) = true from beq_iff_eq.2 hc]
   unfold remoraref14_member.j0
   dsimp only
   rw [if_pos rfl, gp1 i s.size hi hs]
   by_cases h2 : i + 1 < s.size
   ·rw [gl_drop s (i + 1) h2, if_neg (by omega), if_pos (by omega), if_pos (by omega), gp1 (i + 1) s.size (by omega) hs]
    exact .inl ⟨_, i + 1 + 1, rfl, by omega, by omega, by simp, rfl⟩
   ·rw [gl_end s (i + 1) (by omega), if_pos (by omega)]
    exact .inr ⟨rfl, rfl⟩
  ·rw [if_neg hc, show (bt s (i : Int) == 92) = false from beq_eq_false_iff_ne.2 hc]
   unfold remoraref14_member.j0
   dsimp only
   rw [if_neg (by decide), if_neg (by omega), if_pos (by omega), if_pos (by omega), gp1 i s.size hi hs]
   exact .inl ⟨_, i + 1, rfl, by omega, by omega, by simp, rfl⟩
 ·rw [if_neg (by omega), gl_end s i (by omega)]
  unfold remoraref14_member.j0
  dsimp only
  rw [if_neg (by decide), if_pos (by omega)]
  exact .inr ⟨rfl, rfl⟩
theorem mem1_len {l : List Int} {c : Int} {r : List Int} (h : mem1 l = some (c, r)) : r.length < l.length := by
 cases l with
 | nil => simp [mem1] at h
 | cons a t =>
  unfold mem1 at h
  dsimp only at h
  split at h
  ·cases t with
   | nil => simp at h
   | cons b t =>
    simp at h
    rw [← h.2]
    simp
    omega
  ·simp at h
   rw [← h.2]
   simp
theorem clsL_rest : ∀ (n : Nat) (l : List Int) (s : Nat → Bool) (r : List Int) (s' : Nat → Bool), clsL n l s = some (r, s') → r.length ≤ l.length
 | 0, _, _, _, _, h => by simp [clsL] at h
 | n + 1, [], s, r, s', h => by
  simp [clsL] at h
  rw [← h.1]
  simp
 | n + 1, c :: t, s, r, s', h => by
  unfold clsL at h
  by_cases hc : c = 93
  ·rw [if_pos hc] at h
   simp at h
   rw [← h.1]
   simp
  ·rw [if_neg hc] at h
   cases hm : mem1 (c :: t) with
   | none => rw [hm] at h; simp at h
   | some lr =>
    obtain ⟨lo, r1⟩ := lr
    have hl := mem1_len hm
    rw [hm] at h
    dsimp only at h
    by_cases hd : dash r1 = true
    ·rw [if_pos hd] at h
     cases hm2 : mem1 (r1.drop 1) with
     | none => rw [hm2] at h; simp at h
     | some hr =>
      obtain ⟨hi, r2⟩ := hr
      have hl2 := mem1_len hm2
      rw [List.length_drop] at hl2
      rw [hm2] at h
      dsimp only at h
      by_cases hlt : hi < lo
      ·rw [if_pos hlt] at h
       simp at h
      ·rw [if_neg hlt] at h
       have := clsL_rest n r2 _ r s' h
       omega
    ·rw [if_neg hd] at h
     have := clsL_rest n r1 _ r s' h
     omega
theorem cls1_len {b : Bool} {l : List Int} {t : Tok} {r : List Int} (h : cls1 b l = some (t, r)) : r.length < l.length := by
 unfold cls1 at h
 cases l with
 | nil => simp at h
 | cons c l' =>
  dsimp only at h
  split at h
  ·simp at h
  ·cases hc : clsL ((c :: l').length + 1) (c :: l') noS with
   | none => rw [hc] at h; simp [clsEnd] at h
   | some p =>
    obtain ⟨q, s⟩ := p
    rw [hc] at h
    cases q with
    | nil => simp [clsEnd] at h
    | cons a q =>
     simp [clsEnd] at h
     have := clsL_rest _ _ _ _ _ hc
     rw [← h.2]
     simp at this ⊢
     omega
theorem cls0_len {l : List Int} {t : Tok} {r : List Int} (h : cls0 l = some (t, r)) : r.length < l.length := by
 unfold cls0 at h
 cases l with
 | nil => simp at h
 | cons c l' =>
  dsimp only at h
  split at h
  ·have := cls1_len h
   simp
   omega
  ·exact cls1_len h
theorem sk_len : ∀ l : List Int, (sk l).length ≤ l.length
 | [] => by simp [sk]
 | c :: r => by
  unfold sk
  split
  ·have := sk_len r
   simp
   omega
  ·exact Nat.le_refl _
theorem take_next (s : ByteArray) (i : Nat) (h : i < s.size) : (gL s).take (i + 1) = (gL s).take i ++ [bt s (i : Int)] := by
 have h1 := gl_get s i h
 obtain ⟨hl, hg⟩ := List.getElem?_eq_some_iff.1 h1
 rw [List.take_succ_eq_append_getElem hl, hg]
end Go.Proofs.YtioehkeocddniaaDoor.PA
namespace Go.Proofs.YtioehkeocddniaaDoor.PA
open Go.RowKit Go.Proofs.YtioehkeocddniaaDoorW.PrintWords Go.Proofs.YtioehkeocddniaaDoorW.PrintLast Go.Proofs.YtioehkeocddniaaDoorW.PrintMore
attribute [local go_sem] max2_int min2_int max_two min_two max_three min_three max_four min_four
set_option linter.unusedVariables false
set_option linter.unusedSimpArgs false
def B1 (o : Nat) (w0 wr : World) (O : Array Value) : Prop := Below w0.heap.size w0 wr ∧ wr.heap[w0.heap.size]? = some (.cells O o (0, 0))
theorem B1.start (o : Nat) (w : World) (O : Array Value) : B1 o w (w.alloc (.cells O o)) O := ⟨below_alloc (Below.refl _ _) _, blk_new _ _⟩
theorem B1.step {o : Nat} {w0 wr w2 : World} {O : Array Value} (h : B1 o w0 wr O) (hb : Below wr.heap.size wr w2) : B1 o w0 w2 O := ⟨below_step h.1 hb, blk_below h.2 hb⟩
def B2 (s o : Nat) (w0 wr : World) (S O : Array Value) : Prop := Below w0.heap.size w0 wr ∧ wr.heap[w0.heap.size]? = some (.cells S s (0, 0)) ∧ wr.heap[w0.heap.size + 1]? = some (.cells O o (0, 0))
theorem B2.start (s o : Nat) (w : World) (S O : Array Value) : B2 s o w ((w.alloc (.cells S s)).alloc (.cells O o)) S O := by
 refine ⟨below_alloc (below_alloc (Below.refl _ _) _) _, blk_alloc (blk_new _ _) _, ?_⟩
 have := blk_new (w.alloc (.cells S s)) (.cells O o)
 simpa using this
theorem B2.step {s o : Nat} {w0 wr w2 : World} {S O : Array Value} (h : B2 s o w0 wr S O) (hb : Below wr.heap.size wr w2) : B2 s o w0 w2 S O := ⟨below_step h.1 hb, blk_below h.2.1 hb, blk_below h.2.2 hb⟩
theorem B2.put {s o : Nat} {w0 wr : World} {S O : Array Value} (h : B2 s o w0 wr S O) (i : Nat) (v : Value) : B2 s o w0 (wr.setCell ⟨w0.heap.size + 1, i, none⟩ v) S (O.setIfInBounds i v) :=
 ⟨below_set h.1 (Nat.le_succ _), blk_far h.2.1 (Nat.ne_of_lt (Nat.lt_succ_self _)) v, blk_set h.2.2 i v⟩
end Go.Proofs.YtioehkeocddniaaDoor.PA
namespace Go.Proofs.YtioehkeocddniaaDoor.PA
open Go.RowKit Go.Proofs.YtioehkeocddniaaDoorW.PrintWords Go.Proofs.YtioehkeocddniaaDoorW.PrintLast Go.Proofs.YtioehkeocddniaaDoorW.PrintMore
attribute [local go_sem] max2_int min2_int max_two min_two max_three min_three max_four min_four
set_option linter.unusedVariables false
set_option linter.unusedSimpArgs false
def ClsPost (a0 : ByteArray) (o : Option (Tok × List Int)) (w : World) (e : Ending) (w' : World) : Prop := Below w.heap.size w w' ∧
 match o with
 | some (t, r) => ∃ j : Nat, r = dropL a0 j ∧ j ≤ a0.size ∧ e = .returned (.tuple #[.agg (sgA (codeSg t)), .int .i64 j, .bool true])
 | none => ∃ (x : Sg) (j : Int), e = .returned (.tuple #[.agg (sgA x), .int .i64 j, .bool false])
theorem dr_below {w w' : World} (h : Drawn0 w w') : Below w.heap.size w w' := by
 obtain ⟨n, rfl⟩ := h
 exact pw_below_drewN (Below.refl _ _) n
theorem sgA_same (x y : Sg) : (sgA x).size = (sgA y).size := by rw [sgA_len, sgA_len]
theorem B2.row {s o : Nat} {w0 wr : World} {S O : Array Value} (h : B2 s o w0 wr S O) (O2 : Array Value) : B2 s o w0 (wr.setRow (w0.heap.size + 1) O2) S O2 :=
 ⟨below_setRow h.1 (Nat.le_succ _) _, (setRow_other _ _ _ _ (Nat.ne_of_lt (Nat.lt_succ_self _))).trans h.2.1, setRow_heap _ _ _ _ _ _ h.2.2⟩
theorem b2_cell {s o : Nat} {w0 wr : World} {S O : Array Value} (h : B2 s o w0 wr S O) (i : Nat) : wr.cell? ⟨w0.heap.size + 1, i, none⟩ = O[i]? := blk_cell h.2.2 i
theorem b2_at {s o : Nat} {w0 wr : World} {S : Array Value} {k c : Int} {n : Bool} {f : Nat → Bool} (h : B2 s o w0 wr S (sgA ⟨k, c, n, f⟩)) (q : Nat) (hq : q < 256) : wr.cell? ⟨w0.heap.size + 1, 3 + q, none⟩ = some (.bool (f q)) := (blk_cell h.2.2 _).trans (sgA_get _ _ hq)
theorem b2_put {s o : Nat} {w0 wr : World} {S : Array Value} {k c : Int} {n : Bool} {f : Nat → Bool} (h : B2 s o w0 wr S (sgA ⟨k, c, n, f⟩)) (q : Nat) (hq : q < 256) : B2 s o w0 (wr.setCell ⟨w0.heap.size + 1, 3 + q, none⟩ (.bool true)) S (sgA ⟨k, c, n, addS f q⟩) := by
 have := h.put (3 + q) (.bool true)
 rwa [sg_set k c n f q hq] at this
theorem rng_none (s : Nat → Bool) (lo : Nat) : rngS s lo ((lo : Int) - 1) = s := by
 funext i
 have : (decide ((lo : Int) ≤ (i : Int)) && decide ((i : Int) ≤ (lo : Int) - 1)) = false := by
  rw [Bool.and_eq_false_iff, decide_eq_false_iff_not, decide_eq_false_iff_not]
  omega
 simp only [rngS, this, Bool.false_or]
theorem rng_next (s : Nat → Bool) (lo q : Nat) (h : lo ≤ q) : addS (rngS s lo ((q : Int) - 1)) q = rngS s lo (((q + 1 : Nat) : Int) - 1) := by
 funext i
 simp only [addS, rngS]
 by_cases hi : i = q
 ·subst hi
  have : (decide ((lo : Int) ≤ (i : Int)) && decide ((i : Int) ≤ ((i + 1 : Nat) : Int) - 1)) = true := by
   rw [Bool.and_eq_true, decide_eq_true_iff, decide_eq_true_iff]
   omega
  rw [this]
  simp
 ·have e1 : (i == q) = false := beq_eq_false_iff_ne.2 hi
  have e2 : decide ((i : Int) ≤ (q : Int) - 1) = decide ((i : Int) ≤ ((q + 1 : Nat) : Int) - 1) := by
   rw [Bool.eq_iff_iff, decide_eq_true_iff, decide_eq_true_iff]
   omega
  rw [e1, e2, Bool.false_or]
def CInv (a0 : ByteArray) (i0 i : Nat) (s : Nat → Bool) : Prop := i0 ≤ i ∧ i ≤ a0.size ∧ (i0 < i → i0 < a0.size ∧ bt a0 (i0 : Int) ≠ 93) ∧ (i = i0 → s = noS) ∧
 ∃ n, (dropL a0 i).length < n ∧ clsL n (dropL a0 i) s = clsL ((dropL a0 i0).length + 1) (dropL a0 i0) noS
theorem CInv.start (a0 : ByteArray) (i0 : Nat) (h : i0 ≤ a0.size) : CInv a0 i0 i0 noS := ⟨Nat.le_refl _, h, fun h => absurd h (Nat.lt_irrefl _), fun _ => rfl, _, Nat.lt_succ_self _, rfl⟩
section
variable {a0 : ByteArray} {i0 i : Nat} {s : Nat → Bool} {nt : Bool}
theorem CInv.head (h : CInv a0 i0 i s) (hk : i < a0.size) (h93 : bt a0 (i : Int) ≠ 93) : i0 < a0.size ∧ bt a0 (i0 : Int) ≠ 93 := by
 obtain ⟨h1, h2, h3, _⟩ := h
 rcases Nat.lt_or_ge i0 i with hl | hl
 ·exact h3 hl
 ·obtain rfl : i0 = i := by omega
  exact ⟨hk, h93⟩
theorem cls1_of (h0 : i0 < a0.size) (h1 : bt a0 (i0 : Int) ≠ 93) : cls1 nt (dropL a0 i0) = clsEnd nt (clsL ((dropL a0 i0).length + 1) (dropL a0 i0) noS) := by
 rw [gl_drop a0 i0 h0]
 unfold cls1
 dsimp only
 rw [if_neg h1]
theorem CInv.close (h : CInv a0 i0 i s) (hk : i < a0.size) (h93 : bt a0 (i : Int) = 93) (hl : i0 < i) : cls1 nt (dropL a0 i0) = some (.cls nt s, dropL a0 (i + 1)) := by
 obtain ⟨h1, h2, h3, _, n, hn, he⟩ := h
 obtain ⟨g0, g1⟩ := h3 hl
 rw [cls1_of g0 g1, ← he]
 cases n with
 | zero => omega
 | succ n =>
  rw [gl_drop a0 i hk]
  rw [clsL_eq, if_pos h93]
  rfl
theorem CInv.empty (h : CInv a0 i0 i s) (hk : i < a0.size) (h93 : bt a0 (i : Int) = 93) (hl : ¬ i0 < i) : cls1 nt (dropL a0 i0) = none := by
 have h1 := h.1
 obtain rfl : i0 = i := by omega
 rw [gl_drop a0 i0 hk]
 unfold cls1
 dsimp only
 rw [if_pos h93]
theorem CInv.over (h : CInv a0 i0 i s) (hk : ¬ i < a0.size) : cls1 nt (dropL a0 i0) = none := by
 obtain ⟨h1, h2, h3, _, n, hn, he⟩ := h
 rcases Nat.lt_or_ge i0 i with hl | hl
 ·obtain ⟨g0, g1⟩ := h3 hl
  rw [cls1_of g0 g1, ← he]
  cases n with
  | zero => omega
  | succ n =>
   rw [gl_end a0 i (by omega)]
   rfl
 ·rw [gl_end a0 i0 (by omega)]
  rfl
theorem CInv.stop (h : CInv a0 i0 i s) (hk : i < a0.size) (h93 : bt a0 (i : Int) ≠ 93) (hm : mem1 (dropL a0 i) = none) : cls1 nt (dropL a0 i0) = none := by
 obtain ⟨g0, g1⟩ := h.head hk h93
 obtain ⟨h1, h2, h3, _, n, hn, he⟩ := h
 rw [cls1_of g0 g1, ← he]
 cases n with
 | zero => omega
 | succ n =>
  rw [gl_drop a0 i hk] at hm ⊢
  rw [clsL_eq, if_neg h93, hm]
  rfl
theorem dash_at (j : Nat) (h : j + 1 < a0.size ∧ bt a0 (j : Int) = 45 ∧ bt a0 ((j + 1 : Nat) : Int) ≠ 93) : dash (dropL a0 j) = true := by
 rw [gl_drop a0 j (by omega), gl_drop a0 (j + 1) h.1]
 simp only [dash, Bool.and_eq_true]
 exact ⟨beq_iff_eq.2 h.2.1, bne_iff_ne.2 h.2.2⟩
theorem dash_no (j : Nat) (h : ¬ (j + 1 < a0.size ∧ bt a0 (j : Int) = 45 ∧ bt a0 ((j + 1 : Nat) : Int) ≠ 93)) : dash (dropL a0 j) = false := by
 by_cases h0 : j < a0.size
 ·rw [gl_drop a0 j h0]
  by_cases h1 : j + 1 < a0.size
  ·rw [gl_drop a0 (j + 1) h1]
   simp only [dash]
   rw [Bool.and_eq_false_iff, beq_eq_false_iff_ne]
   by_cases h2 : bt a0 (j : Int) = 45
   ·right
    have : bt a0 ((j + 1 : Nat) : Int) = 93 := Classical.not_not.1 (fun h3 => h ⟨h1, h2, h3⟩)
    rw [this]
    rfl
   ·exact .inl h2
  ·rw [gl_end a0 (j + 1) (by omega)]
   rfl
 ·rw [gl_end a0 j (by omega)]
  rfl
theorem drop_one (j : Nat) : (dropL a0 j).drop 1 = dropL a0 (j + 1) := by rw [dropL, dropL, List.drop_drop]
theorem CInv.step (h : CInv a0 i0 i s) (hk : i < a0.size) (h93 : bt a0 (i : Int) ≠ 93) {lo : Int} {j : Nat} (hm : mem1 (dropL a0 i) = some (lo, dropL a0 j)) :
  ∃ n, (dropL a0 i).length ≤ n ∧ (if dash (dropL a0 j) = true then (match mem1 (dropL a0 (j + 1)) with | .none => .none | some hr => if hr.1 < lo then .none else clsL n hr.2 (rngS s lo hr.1)) else clsL n (dropL a0 j) (rngS s lo lo)) = clsL ((dropL a0 i0).length + 1) (dropL a0 i0) noS := by
 obtain ⟨h1, h2, h3, _, n, hn, he⟩ := h
 cases n with
 | zero => omega
 | succ n =>
  refine ⟨n, by omega, ?_⟩
  rw [← he]
  rw [gl_drop a0 i hk] at hm ⊢
  rw [clsL_eq, if_neg h93, hm]
  dsimp only
  rw [drop_one]
  try rfl
theorem CInv.cut (h : CInv a0 i0 i s) (hk : i < a0.size) (h93 : bt a0 (i : Int) ≠ 93) {lo : Int} {j : Nat} (hm : mem1 (dropL a0 i) = some (lo, dropL a0 j)) (q1 : j + 1 < a0.size) (q2 : bt a0 (j : Int) = 45) (q3 : bt a0 ((j + 1 : Nat) : Int) ≠ 93) (hm' : mem1 (dropL a0 (j + 1)) = .none) : cls1 nt (dropL a0 i0) = .none := by
 obtain ⟨g0, g1⟩ := h.head hk h93
 obtain ⟨n, hn, he⟩ := h.step hk h93 hm
 rw [if_pos (dash_at j ⟨q1, q2, q3⟩), hm'] at he
 rw [cls1_of g0 g1, ← he]
 rfl
theorem CInv.low (h : CInv a0 i0 i s) (hk : i < a0.size) (h93 : bt a0 (i : Int) ≠ 93) {lo hi : Int} {j : Nat} {r : List Int} (hm : mem1 (dropL a0 i) = some (lo, dropL a0 j)) (q1 : j + 1 < a0.size) (q2 : bt a0 (j : Int) = 45) (q3 : bt a0 ((j + 1 : Nat) : Int) ≠ 93) (hm' : mem1 (dropL a0 (j + 1)) = some (hi, r)) (hlt : hi < lo) : cls1 nt (dropL a0 i0) = .none := by
 obtain ⟨g0, g1⟩ := h.head hk h93
 obtain ⟨n, hn, he⟩ := h.step hk h93 hm
 rw [if_pos (dash_at j ⟨q1, q2, q3⟩), hm'] at he
 dsimp only at he
 rw [if_pos hlt] at he
 rw [cls1_of g0 g1, ← he]
 rfl
theorem CInv.next (h : CInv a0 i0 i s) {lo hi j j2 : Nat} (hm : mem1 (dropL a0 i) = some ((lo : Int), dropL a0 j)) (hk : i < a0.size) (h93 : bt a0 (i : Int) ≠ 93)
  (hor : (j + 1 < a0.size ∧ bt a0 (j : Int) = 45 ∧ bt a0 ((j + 1 : Nat) : Int) ≠ 93 ∧ mem1 (dropL a0 (j + 1)) = some ((hi : Int), dropL a0 j2) ∧ ¬ hi < lo) ∨ (¬ (j + 1 < a0.size ∧ bt a0 (j : Int) = 45 ∧ bt a0 ((j + 1 : Nat) : Int) ≠ 93) ∧ hi = lo ∧ j2 = j)) (hl : i < j2) (hle : j2 ≤ a0.size) : CInv a0 i0 j2 (rngS s lo hi) := by
 have hh := h.head hk h93
 obtain ⟨n, hn, he⟩ := h.step hk h93 hm
 refine ⟨by have := h.1; omega, hle, fun _ => hh, fun h0 => absurd h0 (by have := h.1; omega), n, by rw [dropL_len] at hn ⊢; omega, ?_⟩
 rcases hor with ⟨q1, q2, q3, hm', hlt⟩ | ⟨hd, rfl, rfl⟩
 ·rw [if_pos (dash_at j ⟨q1, q2, q3⟩), hm'] at he
  dsimp only at he
  rw [if_neg (by omega)] at he
  exact he
 ·rw [if_neg (by rw [dash_no _ hd]; decide)] at he
  exact he
end
theorem clsR_start (a0 : ByteArray) (i1 : Nat) (h : i1 < a0.size ∧ bt a0 (i1 : Int) = 33) : cls0 (dropL a0 i1) = cls1 true (dropL a0 (i1 + 1)) := by
 rw [gl_drop a0 i1 h.1]
 unfold cls0
 dsimp only
 rw [if_pos h.2]
theorem clsR_start2 (a0 : ByteArray) (i1 : Nat) (h : ¬ (i1 < a0.size ∧ bt a0 (i1 : Int) = 33)) : cls0 (dropL a0 i1) = cls1 false (dropL a0 i1) := by
 by_cases h0 : i1 < a0.size
 ·rw [gl_drop a0 i1 h0]
  unfold cls0
  dsimp only
  rw [if_neg (fun h1 => h ⟨h0, h1⟩)]
 ·rw [gl_end a0 i1 (by omega)]
  rfl
theorem ClsPost.bad {a0 : ByteArray} {o : Option (Tok × List Int)} {w w' : World} (hb : Below w.heap.size w w') (ho : o = none) (x : Sg) (j : Int) : ClsPost a0 o w (.returned (.tuple #[.agg (sgA x), .int .i64 j, .bool false])) w' := by
 subst ho
 exact ⟨hb, x, j, rfl⟩
theorem ClsPost.good {a0 : ByteArray} {o : Option (Tok × List Int)} {w w' : World} {nt : Bool} {s : Nat → Bool} {i : Nat} {v : Value} (hb : Below w.heap.size w w') (ho : o = some (.cls nt s, dropL a0 i)) (hi : i ≤ a0.size) (hv : v = .int .i64 i) : ClsPost a0 o w (.returned (.tuple #[.agg (sgA ⟨4, 0, nt, s⟩), v, .bool true])) w' := by
 subst ho hv
 exact ⟨hb, i, rfl, hi, rfl⟩
theorem sg4_classAt_call : Tryd.prog.built 64 [(0, .int .i64 4)] = some (sgA ⟨4, 0, false, noS⟩) := by kernel_rfl
set_option maxHeartbeats 8000000 in
set_option maxRecDepth 100000 in
theorem classAt_call (a0 : ByteArray) (i1 : Nat) (hs : a0.size < 1000000) (hi1 : i1 ≤ a0.size) (w : World) :
  Calls Tryd.prog 69 #[.string a0, .int .i64 i1] w (ClsPost a0 (cls0 (dropL a0 i1)) w) := by
 have hu1 := Tryd.underlying64
 have sgS := sgSize1
 have ha := sgAlloc
 have HD := Aside0.mk (B2.start 64 64 w (sgA sgz) (sgA sgz))
 by_cases h33 : i1 < a0.size ∧ bt a0 (i1 : Int) = 33
 ·have e0 : ((i1 : Int) < (a0.size : Int)) = True := eq_true (by omega)
  have e1 : i1 < a0.size := h33.1
  have e2 : ∀ h : i1 < a0.size, ((a0[i1]'h).toNat : Int) = 33 := fun h => by rw [← h33.2]; exact bt_at a0 i1 h
  obtain ⟨i0, hi0⟩ : ∃ x, x = i1 + 1 := ⟨_, rfl⟩
  have hR := clsR_start a0 i1 h33
  have hi0s : i0 ≤ a0.size := by omega
  clear h33 
  go_enter Tryd.func69, Tryd.ntmps69
  go_wp2_with (first | ((with_reducible refine gate_dst (N := 14) rfl ?_); refine wpList_buildTo rfl 64 #[(0, .const (.int .i64 4))] rfl (some 14) rfl (sgA ⟨4, 0, false, noS⟩) ?hf ?_; (case hf => (simp only [List.map_toArray, List.map_cons, List.map_nil]; exact sg4_classAt_call))) | ((with_reducible refine gate_store (t := 64) (p := 7) rfl ?_); refine wpList_store_rowTo rfl 64 (.tmp 7) (.tmp 14) rfl rfl (w.heap.size + 1) (sgA ⟨4, 0, false, noS⟩) rfl rfl 64 (sgA sgz) HD.out.2.2 (sgS _) (sgA_same _ _) (sgA_one _) ?_; have n0_ := Aside0.mk (B2.row HD.out (sgA ⟨4, 0, false, noS⟩)); clear HD; have HD := n0_; clear n0_; have hc2 := b2_cell HD.out 2; have hf2 := blk_frozen HD.out.2.2 2; change _ = some (Value.bool false) at hc2))
  clear e2
  have n0_ := Aside0.mk (B2.put HD.out 2 (.bool true))
  rw [sg_not] at n0_
  clear HD hc2 hf2
  have HD := n0_
  clear n0_ e0 e1
  go_loopw [1] (fun v1 wr => ∃ (i : Nat) (s : Nat → Bool), v1 = .int .i64 i ∧ Aside0 (CInv a0 i0 i s) ∧ Aside0 (B2 64 64 w wr (sgA sgz) (sgA ⟨4, 0, true, s⟩))) (fun v1 _ => a0.size - (intOf v1).toNat)
  case atStart => exact ⟨i0, noS, by rw [hi0]; go_num, ⟨CInv.start a0 i0 hi0s⟩, ⟨HD.out⟩⟩
  case round =>
   clear HD
   obtain ⟨i, s, rfl, HC, HD⟩ := hrel
   by_cases hk : i < a0.size
   ·have d0 : ((i : Int) < (a0.size : Int)) = True := eq_true (by omega)
    have d1 : ∀ h : i < a0.size, ((a0[i]'h).toNat : Int) = bt a0 (i : Int) := fun h => bt_at a0 i h
    have b1 := bt_range a0 (i : Int)
    by_cases h93 : bt a0 (i : Int) = 93
    ·rw [h93] at d1
     by_cases hfi : i0 < i
     ·have f1 : ((i1 : Int) + 1 < (i : Int)) = True := eq_true (by omega)
      have f2 : (i1 + 1 < i) = True := eq_true (by omega)
      skip
      go_wp2_with (first | (go_at_call 79; (with_reducible first | refine (glob_member.calls 5 _ _ _ _ _ _ hm1).mono ?_ | refine (glob_member.calls 5 _ _ _ _ _ _ hm2).mono ?_); rintro e w2 ⟨rfl, hb⟩; have n0_ := Aside0.mk (B2.step HD.out (dr_below hb)); clear HD; have HD := n0_; clear n0_; clear hb) | ((with_reducible refine gate_dst (N := 96) rfl ?_); refine wpList_load_row rfl 64 (.tmp 7) rfl (w.heap.size + 1) rfl 64 (sgA ⟨4, 0, true, s⟩) (0, 0) _ HD.out.2.2 hu1 rfl (sgS _) ?_) | ((with_reducible refine gate_store (t := 64) (p := 4) rfl ?_); refine wpList_store_rowTo rfl 64 (.tmp 4) (.tmp 96) rfl rfl w.heap.size (sgA ⟨4, 0, true, s⟩) rfl rfl 64 (sgA sgz) HD.out.2.1 (sgS _) (sgA_same _ _) (sgA_one _) ?_))
      refine bodyPost_ret (results_ctt rfl _ _ w.heap.size 64 (sgA ⟨4, 0, true, s⟩) (0, 0) _ rfl (setRow_heap _ _ (sgA sgz) _ 64 (0, 0) HD.out.2.1) hu1 rfl (sgS _)) rfl ?_
      exact ClsPost.good (below_setRow HD.out.1 (Nat.le_refl _) _) (hR.trans (by rw [← hi0]; exact HC.out.close hk h93 hfi)) (by omega) (by go_num)
     ·have f1 : ((i1 : Int) + 1 < (i : Int)) = False := eq_false (by omega)
      have f2 : (i1 + 1 < i) = False := eq_false (by omega)
      skip
      go_wp2_with (first | (go_at_call 79; (with_reducible first | refine (glob_member.calls 5 _ _ _ _ _ _ hm1).mono ?_ | refine (glob_member.calls 5 _ _ _ _ _ _ hm2).mono ?_); rintro e w2 ⟨rfl, hb⟩; have n0_ := Aside0.mk (B2.step HD.out (dr_below hb)); clear HD; have HD := n0_; clear n0_; clear hb) | ((with_reducible refine gate_dst (N := 96) rfl ?_); refine wpList_load_row rfl 64 (.tmp 7) rfl (w.heap.size + 1) rfl 64 (sgA ⟨4, 0, true, s⟩) (0, 0) _ HD.out.2.2 hu1 rfl (sgS _) ?_) | ((with_reducible refine gate_store (t := 64) (p := 4) rfl ?_); refine wpList_store_rowTo rfl 64 (.tmp 4) (.tmp 96) rfl rfl w.heap.size (sgA ⟨4, 0, true, s⟩) rfl rfl 64 (sgA sgz) HD.out.2.1 (sgS _) (sgA_same _ _) (sgA_one _) ?_))
      refine bodyPost_ret (results_ctt rfl _ _ w.heap.size 64 (sgA ⟨4, 0, true, s⟩) (0, 0) _ rfl (setRow_heap _ _ (sgA sgz) _ 64 (0, 0) HD.out.2.1) hu1 rfl (sgS _)) rfl ?_
      exact ClsPost.bad (below_setRow HD.out.1 (Nat.le_refl _) _) (hR.trans (by rw [← hi0]; exact HC.out.empty hk h93 hfi)) _ _
    ·have d2 : (bt a0 (i : Int) != 93) = true := bne_iff_ne.2 h93
     rcases member_at a0 i hs (by omega) with ⟨lo', j, hm, hij, hj, hb', hm1⟩ | ⟨hm, hm1⟩
     ·obtain ⟨lo, rfl⟩ : ∃ x : Nat, lo' = x := ⟨lo'.toNat, by rw [hb']; have := bt_range a0 ((j - 1 : Nat) : Int); omega⟩
      have hlo : lo < 256 := by have := bt_range a0 ((j - 1 : Nat) : Int); omega
      clear hb'
      have g1 : ∀ h : j < a0.size, ((a0[j]'h).toNat : Int) = bt a0 (j : Int) := fun h => bt_at a0 j h
      have g2 : ∀ h : j + 1 < a0.size, ((a0[j + 1]'h).toNat : Int) = bt a0 ((j : Int) + 1) := fun h => bt_at a0 ((j + 1 : Nat) : Int) h
      have b2 := bt_range a0 (j : Int)
      have b3 := bt_range a0 ((j + 1 : Nat) : Int)
      by_cases hd : j + 1 < a0.size ∧ bt a0 (j : Int) = 45 ∧ bt a0 ((j + 1 : Nat) : Int) ≠ 93
      ·obtain ⟨q1, q2, q3⟩ := hd
       have q4 : (((j : Int) + 1) < (a0.size : Int)) = True := eq_true (by omega)
       have q5 : j < a0.size := by omega
       have q6 : (bt a0 ((j : Int) + 1) != 93) = true := bne_iff_ne.2 q3
       rw [q2] at g1
       rcases member_at a0 (j + 1) hs (by omega) with ⟨hi', j2, hm', hij2, hj2, hb2, hm2⟩ | ⟨hm', hm2⟩
       ·obtain ⟨hi, rfl⟩ : ∃ x : Nat, hi' = x := ⟨hi'.toNat, by rw [hb2]; have := bt_range a0 ((j2 - 1 : Nat) : Int); omega⟩
        have hhi : hi < 256 := by have := bt_range a0 ((j2 - 1 : Nat) : Int); omega
        clear hb2
        change glob_member.f 5 a0 ((j : Int) + 1) = _ at hm2
        by_cases hlt : hi < lo
        ·have r1 : ((hi : Int) < (lo : Int)) = True := eq_true (by omega)
         go_wp2_with (first | (go_at_call 79; (with_reducible first | refine (glob_member.calls 5 _ _ _ _ _ _ hm1).mono ?_ | refine (glob_member.calls 5 _ _ _ _ _ _ hm2).mono ?_); rintro e w2 ⟨rfl, hb⟩; have n0_ := Aside0.mk (B2.step HD.out (dr_below hb)); clear HD; have HD := n0_; clear n0_; clear hb) | ((with_reducible refine gate_dst (N := 83) rfl ?_); refine wpList_load_row rfl 64 (.tmp 7) rfl (w.heap.size + 1) rfl 64 (sgA ⟨4, 0, true, s⟩) (0, 0) _ HD.out.2.2 hu1 rfl (sgS _) ?_) | ((with_reducible refine gate_store (t := 64) (p := 4) rfl ?_); refine wpList_store_rowTo rfl 64 (.tmp 4) (.tmp 83) rfl rfl w.heap.size (sgA ⟨4, 0, true, s⟩) rfl rfl 64 (sgA sgz) HD.out.2.1 (sgS _) (sgA_same _ _) (sgA_one _) ?_))
         refine bodyPost_ret (results_ctt rfl _ _ w.heap.size 64 (sgA ⟨4, 0, true, s⟩) (0, 0) _ rfl (setRow_heap _ _ (sgA sgz) _ 64 (0, 0) HD.out.2.1) hu1 rfl (sgS _)) rfl ?_
         exact ClsPost.bad (below_setRow HD.out.1 (Nat.le_refl _) _) (hR.trans (by rw [← hi0]; exact HC.out.low hk h93 hm q1 q2 q3 hm' (by omega))) _ _
        ·have r1 : ((hi : Int) < (lo : Int)) = False := eq_false (by omega)
         go_wp2_with (first | (go_at_call 79; (with_reducible first | refine (glob_member.calls 5 _ _ _ _ _ _ hm1).mono ?_ | refine (glob_member.calls 5 _ _ _ _ _ _ hm2).mono ?_); rintro e w2 ⟨rfl, hb⟩; have n0_ := Aside0.mk (B2.step HD.out (dr_below hb)); clear HD; have HD := n0_; clear n0_; clear hb))
         go_loopw [13] (fun v13 wi => ∃ q : Nat, v13 = .int .i64 q ∧ lo ≤ q ∧ q ≤ hi + 1 ∧ Aside0 (B2 64 64 w wi (sgA sgz) (sgA ⟨4, 0, true, rngS s lo ((q : Int) - 1)⟩))) (fun v13 _ => hi + 1 - (intOf v13).toNat)
         case atStart => exact ⟨lo, rfl, Nat.le_refl _, by omega, ⟨by rw [rng_none]; exact HD.out⟩⟩
         case round =>
          clear HD
          obtain ⟨q, rfl, hq1, hq2, HD⟩ := hrel
          by_cases hq : q ≤ hi
          ·have hc3 := b2_at HD.out q (by omega)
           have hf3 := blk_frozen HD.out.2.2 (3 + q)
           have e1 : ((q : Int) ≤ (hi : Int)) = True := eq_true (by omega)
           have e2 : q < 256 := by omega
           have e3 : ((q : Int) < 256) = True := eq_true (by omega)
           go_wp2
           have n0_ := Aside0.mk (b2_put HD.out q (by omega))
           clear HD
           go_roundw
           case rel => exact ⟨q + 1, by go_num, by omega, by omega, ⟨by rw [rng_next s lo q (by omega)] at n0_; exact n0_.out⟩⟩
           case measure => simp [intOf]; omega
          ·have e1 : ((q : Int) ≤ (hi : Int)) = False := eq_false (by omega)
           obtain rfl : q = hi + 1 := by omega
           go_wp2
           go_roundw
           case rel => exact ⟨j2, rngS s lo hi, rfl, ⟨HC.out.next hm hk h93 (.inl ⟨q1, q2, q3, hm', by omega⟩) (by omega) (by omega)⟩, ⟨by rw [show ((hi + 1 : Nat) : Int) - 1 = (hi : Int) by omega] at HD; exact HD.out⟩⟩
           case measure => simp [intOf]; omega
       ·change glob_member.f 5 a0 ((j : Int) + 1) = _ at hm2
        go_wp2_with (first | (go_at_call 79; (with_reducible first | refine (glob_member.calls 5 _ _ _ _ _ _ hm1).mono ?_ | refine (glob_member.calls 5 _ _ _ _ _ _ hm2).mono ?_); rintro e w2 ⟨rfl, hb⟩; have n0_ := Aside0.mk (B2.step HD.out (dr_below hb)); clear HD; have HD := n0_; clear n0_; clear hb) | ((with_reducible refine gate_dst (N := 83) rfl ?_); refine wpList_load_row rfl 64 (.tmp 7) rfl (w.heap.size + 1) rfl 64 (sgA ⟨4, 0, true, s⟩) (0, 0) _ HD.out.2.2 hu1 rfl (sgS _) ?_) | ((with_reducible refine gate_store (t := 64) (p := 4) rfl ?_); refine wpList_store_rowTo rfl 64 (.tmp 4) (.tmp 83) rfl rfl w.heap.size (sgA ⟨4, 0, true, s⟩) rfl rfl 64 (sgA sgz) HD.out.2.1 (sgS _) (sgA_same _ _) (sgA_one _) ?_))
        refine bodyPost_ret (results_ctt rfl _ _ w.heap.size 64 (sgA ⟨4, 0, true, s⟩) (0, 0) _ rfl (setRow_heap _ _ (sgA sgz) _ 64 (0, 0) HD.out.2.1) hu1 rfl (sgS _)) rfl ?_
        exact ClsPost.bad (below_setRow HD.out.1 (Nat.le_refl _) _) (hR.trans (by rw [← hi0]; exact HC.out.cut hk h93 hm q1 q2 q3 hm')) _ _
      ·have hm2 := hm1
       by_cases q1 : j + 1 < a0.size
       ·have q4 : (((j : Int) + 1) < (a0.size : Int)) = True := eq_true (by omega)
        have q5 : j < a0.size := by omega
        by_cases q2 : bt a0 (j : Int) = 45
        ·rw [q2] at g1
         have q3 : bt a0 ((j + 1 : Nat) : Int) = 93 := Classical.not_not.1 (fun h => hd ⟨q1, q2, h⟩)
         have q3_ : bt a0 ((j : Int) + 1) = 93 := q3
         rw [q3_] at g2
         go_wp2_with (first | (go_at_call 79; (with_reducible first | refine (glob_member.calls 5 _ _ _ _ _ _ hm1).mono ?_ | refine (glob_member.calls 5 _ _ _ _ _ _ hm2).mono ?_); rintro e w2 ⟨rfl, hb⟩; have n0_ := Aside0.mk (B2.step HD.out (dr_below hb)); clear HD; have HD := n0_; clear n0_; clear hb))
         go_loopw [13] (fun v13 wi => ∃ q : Nat, v13 = .int .i64 q ∧ lo ≤ q ∧ q ≤ lo + 1 ∧ Aside0 (B2 64 64 w wi (sgA sgz) (sgA ⟨4, 0, true, rngS s lo ((q : Int) - 1)⟩))) (fun v13 _ => lo + 1 - (intOf v13).toNat)
         case atStart => exact ⟨lo, rfl, Nat.le_refl _, by omega, ⟨by rw [rng_none]; exact HD.out⟩⟩
         case round =>
          clear HD
          obtain ⟨q, rfl, hq1, hq2, HD⟩ := hrel
          by_cases hq : q ≤ lo
          ·have hc3 := b2_at HD.out q (by omega)
           have hf3 := blk_frozen HD.out.2.2 (3 + q)
           have e1 : ((q : Int) ≤ (lo : Int)) = True := eq_true (by omega)
           have e2 : q < 256 := by omega
           have e3 : ((q : Int) < 256) = True := eq_true (by omega)
           go_wp2
           have n0_ := Aside0.mk (b2_put HD.out q (by omega))
           clear HD
           go_roundw
           case rel => exact ⟨q + 1, by go_num, by omega, by omega, ⟨by rw [rng_next s lo q (by omega)] at n0_; exact n0_.out⟩⟩
           case measure => simp [intOf]; omega
          ·have e1 : ((q : Int) ≤ (lo : Int)) = False := eq_false (by omega)
           obtain rfl : q = lo + 1 := by omega
           go_wp2
           go_roundw
           case rel => exact ⟨j, rngS s lo lo, rfl, ⟨HC.out.next hm hk h93 (.inr ⟨hd, rfl, rfl⟩) (by omega) (by omega)⟩, ⟨by rw [show ((lo + 1 : Nat) : Int) - 1 = (lo : Int) by omega] at HD; exact HD.out⟩⟩
           case measure => simp [intOf]; omega
        ·have q3 : (bt a0 (j : Int) == 45) = false := beq_eq_false_iff_ne.2 q2
         go_wp2_with (first | (go_at_call 79; (with_reducible first | refine (glob_member.calls 5 _ _ _ _ _ _ hm1).mono ?_ | refine (glob_member.calls 5 _ _ _ _ _ _ hm2).mono ?_); rintro e w2 ⟨rfl, hb⟩; have n0_ := Aside0.mk (B2.step HD.out (dr_below hb)); clear HD; have HD := n0_; clear n0_; clear hb))
         go_loopw [13] (fun v13 wi => ∃ q : Nat, v13 = .int .i64 q ∧ lo ≤ q ∧ q ≤ lo + 1 ∧ Aside0 (B2 64 64 w wi (sgA sgz) (sgA ⟨4, 0, true, rngS s lo ((q : Int) - 1)⟩))) (fun v13 _ => lo + 1 - (intOf v13).toNat)
         case atStart => exact ⟨lo, rfl, Nat.le_refl _, by omega, ⟨by rw [rng_none]; exact HD.out⟩⟩
         case round =>
          clear HD
          obtain ⟨q, rfl, hq1, hq2, HD⟩ := hrel
          by_cases hq : q ≤ lo
          ·have hc3 := b2_at HD.out q (by omega)
           have hf3 := blk_frozen HD.out.2.2 (3 + q)
           have e1 : ((q : Int) ≤ (lo : Int)) = True := eq_true (by omega)
           have e2 : q < 256 := by omega
           have e3 : ((q : Int) < 256) = True := eq_true (by omega)
           go_wp2
           have n0_ := Aside0.mk (b2_put HD.out q (by omega))
           clear HD
           go_roundw
           case rel => exact ⟨q + 1, by go_num, by omega, by omega, ⟨by rw [rng_next s lo q (by omega)] at n0_; exact n0_.out⟩⟩
           case measure => simp [intOf]; omega
          ·have e1 : ((q : Int) ≤ (lo : Int)) = False := eq_false (by omega)
           obtain rfl : q = lo + 1 := by omega
           go_wp2
           go_roundw
           case rel => exact ⟨j, rngS s lo lo, rfl, ⟨HC.out.next hm hk h93 (.inr ⟨hd, rfl, rfl⟩) (by omega) (by omega)⟩, ⟨by rw [show ((lo + 1 : Nat) : Int) - 1 = (lo : Int) by omega] at HD; exact HD.out⟩⟩
           case measure => simp [intOf]; omega
       ·have q4 : (((j : Int) + 1) < (a0.size : Int)) = False := eq_false (by omega)
        go_wp2_with (first | (go_at_call 79; (with_reducible first | refine (glob_member.calls 5 _ _ _ _ _ _ hm1).mono ?_ | refine (glob_member.calls 5 _ _ _ _ _ _ hm2).mono ?_); rintro e w2 ⟨rfl, hb⟩; have n0_ := Aside0.mk (B2.step HD.out (dr_below hb)); clear HD; have HD := n0_; clear n0_; clear hb))
        go_loopw [13] (fun v13 wi => ∃ q : Nat, v13 = .int .i64 q ∧ lo ≤ q ∧ q ≤ lo + 1 ∧ Aside0 (B2 64 64 w wi (sgA sgz) (sgA ⟨4, 0, true, rngS s lo ((q : Int) - 1)⟩))) (fun v13 _ => lo + 1 - (intOf v13).toNat)
        case atStart => exact ⟨lo, rfl, Nat.le_refl _, by omega, ⟨by rw [rng_none]; exact HD.out⟩⟩
        case round =>
         clear HD
         obtain ⟨q, rfl, hq1, hq2, HD⟩ := hrel
         by_cases hq : q ≤ lo
         ·have hc3 := b2_at HD.out q (by omega)
          have hf3 := blk_frozen HD.out.2.2 (3 + q)
          have e1 : ((q : Int) ≤ (lo : Int)) = True := eq_true (by omega)
          have e2 : q < 256 := by omega
          have e3 : ((q : Int) < 256) = True := eq_true (by omega)
          go_wp2
          have n0_ := Aside0.mk (b2_put HD.out q (by omega))
          clear HD
          go_roundw
          case rel => exact ⟨q + 1, by go_num, by omega, by omega, ⟨by rw [rng_next s lo q (by omega)] at n0_; exact n0_.out⟩⟩
          case measure => simp [intOf]; omega
         ·have e1 : ((q : Int) ≤ (lo : Int)) = False := eq_false (by omega)
          obtain rfl : q = lo + 1 := by omega
          go_wp2
          go_roundw
          case rel => exact ⟨j, rngS s lo lo, rfl, ⟨HC.out.next hm hk h93 (.inr ⟨hd, rfl, rfl⟩) (by omega) (by omega)⟩, ⟨by rw [show ((lo + 1 : Nat) : Int) - 1 = (lo : Int) by omega] at HD; exact HD.out⟩⟩
          case measure => simp [intOf]; omega
     ·have hm2 := hm1
      go_wp2_with (first | (go_at_call 79; (with_reducible first | refine (glob_member.calls 5 _ _ _ _ _ _ hm1).mono ?_ | refine (glob_member.calls 5 _ _ _ _ _ _ hm2).mono ?_); rintro e w2 ⟨rfl, hb⟩; have n0_ := Aside0.mk (B2.step HD.out (dr_below hb)); clear HD; have HD := n0_; clear n0_; clear hb) | ((with_reducible refine gate_dst (N := 48) rfl ?_); refine wpList_load_row rfl 64 (.tmp 7) rfl (w.heap.size + 1) rfl 64 (sgA ⟨4, 0, true, s⟩) (0, 0) _ HD.out.2.2 hu1 rfl (sgS _) ?_) | ((with_reducible refine gate_store (t := 64) (p := 4) rfl ?_); refine wpList_store_rowTo rfl 64 (.tmp 4) (.tmp 48) rfl rfl w.heap.size (sgA ⟨4, 0, true, s⟩) rfl rfl 64 (sgA sgz) HD.out.2.1 (sgS _) (sgA_same _ _) (sgA_one _) ?_))
      refine bodyPost_ret (results_ctt rfl _ _ w.heap.size 64 (sgA ⟨4, 0, true, s⟩) (0, 0) _ rfl (setRow_heap _ _ (sgA sgz) _ 64 (0, 0) HD.out.2.1) hu1 rfl (sgS _)) rfl ?_
      exact ClsPost.bad (below_setRow HD.out.1 (Nat.le_refl _) _) (hR.trans (by rw [← hi0]; exact HC.out.stop hk h93 hm)) _ _
   ·have d0 : ((i : Int) < (a0.size : Int)) = False := eq_false (by omega)
    go_wp2_with (first | (go_at_call 79; (with_reducible first | refine (glob_member.calls 5 _ _ _ _ _ _ hm1).mono ?_ | refine (glob_member.calls 5 _ _ _ _ _ _ hm2).mono ?_); rintro e w2 ⟨rfl, hb⟩; have n0_ := Aside0.mk (B2.step HD.out (dr_below hb)); clear HD; have HD := n0_; clear n0_; clear hb) | ((with_reducible refine gate_dst (N := 96) rfl ?_); refine wpList_load_row rfl 64 (.tmp 7) rfl (w.heap.size + 1) rfl 64 (sgA ⟨4, 0, true, s⟩) (0, 0) _ HD.out.2.2 hu1 rfl (sgS _) ?_) | ((with_reducible refine gate_store (t := 64) (p := 4) rfl ?_); refine wpList_store_rowTo rfl 64 (.tmp 4) (.tmp 96) rfl rfl w.heap.size (sgA ⟨4, 0, true, s⟩) rfl rfl 64 (sgA sgz) HD.out.2.1 (sgS _) (sgA_same _ _) (sgA_one _) ?_))
    refine bodyPost_ret (results_ctt rfl _ _ w.heap.size 64 (sgA ⟨4, 0, true, s⟩) (0, 0) _ rfl (setRow_heap _ _ (sgA sgz) _ 64 (0, 0) HD.out.2.1) hu1 rfl (sgS _)) rfl ?_
    exact ClsPost.bad (below_setRow HD.out.1 (Nat.le_refl _) _) (hR.trans (by rw [← hi0]; exact HC.out.over hk)) _ _
 ·have e2 : ∀ h : i1 < a0.size, (((a0[i1]'h).toNat : Int) == 33) = false := fun h => beq_eq_false_iff_ne.2 (fun he => h33 ⟨h, by rw [← he]; exact (bt_at a0 i1 h).symm⟩)
  have e3 : (i1 < a0.size ∧ ((i1 : Int) < (a0.size : Int)) = True) ∨ (((i1 : Int) < (a0.size : Int)) = False) := by
   by_cases hl : i1 < a0.size
   ·exact .inl ⟨hl, eq_true (by omega)⟩
   ·exact .inr (eq_false (by omega))
  rcases e3 with ⟨e4, e3⟩ | e3
  all_goals
   obtain ⟨i0, hi0⟩ : ∃ x, x = i1 := ⟨_, rfl⟩
   have hR := clsR_start2 a0 i1 h33
   have hi0s : i0 ≤ a0.size := by omega
   clear h33 
   go_enter Tryd.func69, Tryd.ntmps69
   go_wp2_with (first | ((with_reducible refine gate_dst (N := 14) rfl ?_); refine wpList_buildTo rfl 64 #[(0, .const (.int .i64 4))] rfl (some 14) rfl (sgA ⟨4, 0, false, noS⟩) ?hf ?_; (case hf => (simp only [List.map_toArray, List.map_cons, List.map_nil]; exact sg4_classAt_call))) | ((with_reducible refine gate_store (t := 64) (p := 7) rfl ?_); refine wpList_store_rowTo rfl 64 (.tmp 7) (.tmp 14) rfl rfl (w.heap.size + 1) (sgA ⟨4, 0, false, noS⟩) rfl rfl 64 (sgA sgz) HD.out.2.2 (sgS _) (sgA_same _ _) (sgA_one _) ?_; have n0_ := Aside0.mk (B2.row HD.out (sgA ⟨4, 0, false, noS⟩)); clear HD; have HD := n0_; clear n0_; have hc2 := b2_cell HD.out 2; have hf2 := blk_frozen HD.out.2.2 2; change _ = some (Value.bool false) at hc2))
   clear e2
   clear hc2 hf2
   go_loopw [1] (fun v1 wr => ∃ (i : Nat) (s : Nat → Bool), v1 = .int .i64 i ∧ Aside0 (CInv a0 i0 i s) ∧ Aside0 (B2 64 64 w wr (sgA sgz) (sgA ⟨4, 0, false, s⟩))) (fun v1 _ => a0.size - (intOf v1).toNat)
   case atStart => exact ⟨i0, noS, by rw [hi0], ⟨CInv.start a0 i0 hi0s⟩, ⟨HD.out⟩⟩
   case round =>
    clear HD
    obtain ⟨i, s, rfl, HC, HD⟩ := hrel
    by_cases hk : i < a0.size
    ·have d0 : ((i : Int) < (a0.size : Int)) = True := eq_true (by omega)
     have d1 : ∀ h : i < a0.size, ((a0[i]'h).toNat : Int) = bt a0 (i : Int) := fun h => bt_at a0 i h
     have b1 := bt_range a0 (i : Int)
     by_cases h93 : bt a0 (i : Int) = 93
     ·rw [h93] at d1
      by_cases hfi : i0 < i
      ·have f1 : ((i1 : Int) < (i : Int)) = True := eq_true (by omega)
       have f2 : (i1 < i) = True := eq_true (by omega)
       skip
       go_wp2_with (first | (go_at_call 79; (with_reducible first | refine (glob_member.calls 5 _ _ _ _ _ _ hm1).mono ?_ | refine (glob_member.calls 5 _ _ _ _ _ _ hm2).mono ?_); rintro e w2 ⟨rfl, hb⟩; have n0_ := Aside0.mk (B2.step HD.out (dr_below hb)); clear HD; have HD := n0_; clear n0_; clear hb) | ((with_reducible refine gate_dst (N := 96) rfl ?_); refine wpList_load_row rfl 64 (.tmp 7) rfl (w.heap.size + 1) rfl 64 (sgA ⟨4, 0, false, s⟩) (0, 0) _ HD.out.2.2 hu1 rfl (sgS _) ?_) | ((with_reducible refine gate_store (t := 64) (p := 4) rfl ?_); refine wpList_store_rowTo rfl 64 (.tmp 4) (.tmp 96) rfl rfl w.heap.size (sgA ⟨4, 0, false, s⟩) rfl rfl 64 (sgA sgz) HD.out.2.1 (sgS _) (sgA_same _ _) (sgA_one _) ?_))
       refine bodyPost_ret (results_ctt rfl _ _ w.heap.size 64 (sgA ⟨4, 0, false, s⟩) (0, 0) _ rfl (setRow_heap _ _ (sgA sgz) _ 64 (0, 0) HD.out.2.1) hu1 rfl (sgS _)) rfl ?_
       exact ClsPost.good (below_setRow HD.out.1 (Nat.le_refl _) _) (hR.trans (by rw [← hi0]; exact HC.out.close hk h93 hfi)) (by omega) (by go_num)
      ·have f1 : ((i1 : Int) < (i : Int)) = False := eq_false (by omega)
       have f2 : (i1 < i) = False := eq_false (by omega)
       skip
       go_wp2_with (first | (go_at_call 79; (with_reducible first | refine (glob_member.calls 5 _ _ _ _ _ _ hm1).mono ?_ | refine (glob_member.calls 5 _ _ _ _ _ _ hm2).mono ?_); rintro e w2 ⟨rfl, hb⟩; have n0_ := Aside0.mk (B2.step HD.out (dr_below hb)); clear HD; have HD := n0_; clear n0_; clear hb) | ((with_reducible refine gate_dst (N := 96) rfl ?_); refine wpList_load_row rfl 64 (.tmp 7) rfl (w.heap.size + 1) rfl 64 (sgA ⟨4, 0, false, s⟩) (0, 0) _ HD.out.2.2 hu1 rfl (sgS _) ?_) | ((with_reducible refine gate_store (t := 64) (p := 4) rfl ?_); refine wpList_store_rowTo rfl 64 (.tmp 4) (.tmp 96) rfl rfl w.heap.size (sgA ⟨4, 0, false, s⟩) rfl rfl 64 (sgA sgz) HD.out.2.1 (sgS _) (sgA_same _ _) (sgA_one _) ?_))
       refine bodyPost_ret (results_ctt rfl _ _ w.heap.size 64 (sgA ⟨4, 0, false, s⟩) (0, 0) _ rfl (setRow_heap _ _ (sgA sgz) _ 64 (0, 0) HD.out.2.1) hu1 rfl (sgS _)) rfl ?_
       exact ClsPost.bad (below_setRow HD.out.1 (Nat.le_refl _) _) (hR.trans (by rw [← hi0]; exact HC.out.empty hk h93 hfi)) _ _
     ·have d2 : (bt a0 (i : Int) != 93) = true := bne_iff_ne.2 h93
      rcases member_at a0 i hs (by omega) with ⟨lo', j, hm, hij, hj, hb', hm1⟩ | ⟨hm, hm1⟩
      ·obtain ⟨lo, rfl⟩ : ∃ x : Nat, lo' = x := ⟨lo'.toNat, by rw [hb']; have := bt_range a0 ((j - 1 : Nat) : Int); omega⟩
       have hlo : lo < 256 := by have := bt_range a0 ((j - 1 : Nat) : Int); omega
       clear hb'
       have g1 : ∀ h : j < a0.size, ((a0[j]'h).toNat : Int) = bt a0 (j : Int) := fun h => bt_at a0 j h
       have g2 : ∀ h : j + 1 < a0.size, ((a0[j + 1]'h).toNat : Int) = bt a0 ((j : Int) + 1) := fun h => bt_at a0 ((j + 1 : Nat) : Int) h
       have b2 := bt_range a0 (j : Int)
       have b3 := bt_range a0 ((j + 1 : Nat) : Int)
       by_cases hd : j + 1 < a0.size ∧ bt a0 (j : Int) = 45 ∧ bt a0 ((j + 1 : Nat) : Int) ≠ 93
       ·obtain ⟨q1, q2, q3⟩ := hd
        have q4 : (((j : Int) + 1) < (a0.size : Int)) = True := eq_true (by omega)
        have q5 : j < a0.size := by omega
        have q6 : (bt a0 ((j : Int) + 1) != 93) = true := bne_iff_ne.2 q3
        rw [q2] at g1
        rcases member_at a0 (j + 1) hs (by omega) with ⟨hi', j2, hm', hij2, hj2, hb2, hm2⟩ | ⟨hm', hm2⟩
        ·obtain ⟨hi, rfl⟩ : ∃ x : Nat, hi' = x := ⟨hi'.toNat, by rw [hb2]; have := bt_range a0 ((j2 - 1 : Nat) : Int); omega⟩
         have hhi : hi < 256 := by have := bt_range a0 ((j2 - 1 : Nat) : Int); omega
         clear hb2
         change glob_member.f 5 a0 ((j : Int) + 1) = _ at hm2
         by_cases hlt : hi < lo
         ·have r1 : ((hi : Int) < (lo : Int)) = True := eq_true (by omega)
          go_wp2_with (first | (go_at_call 79; (with_reducible first | refine (glob_member.calls 5 _ _ _ _ _ _ hm1).mono ?_ | refine (glob_member.calls 5 _ _ _ _ _ _ hm2).mono ?_); rintro e w2 ⟨rfl, hb⟩; have n0_ := Aside0.mk (B2.step HD.out (dr_below hb)); clear HD; have HD := n0_; clear n0_; clear hb) | ((with_reducible refine gate_dst (N := 83) rfl ?_); refine wpList_load_row rfl 64 (.tmp 7) rfl (w.heap.size + 1) rfl 64 (sgA ⟨4, 0, false, s⟩) (0, 0) _ HD.out.2.2 hu1 rfl (sgS _) ?_) | ((with_reducible refine gate_store (t := 64) (p := 4) rfl ?_); refine wpList_store_rowTo rfl 64 (.tmp 4) (.tmp 83) rfl rfl w.heap.size (sgA ⟨4, 0, false, s⟩) rfl rfl 64 (sgA sgz) HD.out.2.1 (sgS _) (sgA_same _ _) (sgA_one _) ?_))
          refine bodyPost_ret (results_ctt rfl _ _ w.heap.size 64 (sgA ⟨4, 0, false, s⟩) (0, 0) _ rfl (setRow_heap _ _ (sgA sgz) _ 64 (0, 0) HD.out.2.1) hu1 rfl (sgS _)) rfl ?_
          exact ClsPost.bad (below_setRow HD.out.1 (Nat.le_refl _) _) (hR.trans (by rw [← hi0]; exact HC.out.low hk h93 hm q1 q2 q3 hm' (by omega))) _ _
         ·have r1 : ((hi : Int) < (lo : Int)) = False := eq_false (by omega)
          go_wp2_with (first | (go_at_call 79; (with_reducible first | refine (glob_member.calls 5 _ _ _ _ _ _ hm1).mono ?_ | refine (glob_member.calls 5 _ _ _ _ _ _ hm2).mono ?_); rintro e w2 ⟨rfl, hb⟩; have n0_ := Aside0.mk (B2.step HD.out (dr_below hb)); clear HD; have HD := n0_; clear n0_; clear hb))
          go_loopw [13] (fun v13 wi => ∃ q : Nat, v13 = .int .i64 q ∧ lo ≤ q ∧ q ≤ hi + 1 ∧ Aside0 (B2 64 64 w wi (sgA sgz) (sgA ⟨4, 0, false, rngS s lo ((q : Int) - 1)⟩))) (fun v13 _ => hi + 1 - (intOf v13).toNat)
          case atStart => exact ⟨lo, rfl, Nat.le_refl _, by omega, ⟨by rw [rng_none]; exact HD.out⟩⟩
          case round =>
           clear HD
           obtain ⟨q, rfl, hq1, hq2, HD⟩ := hrel
           by_cases hq : q ≤ hi
           ·have hc3 := b2_at HD.out q (by omega)
            have hf3 := blk_frozen HD.out.2.2 (3 + q)
            have e1 : ((q : Int) ≤ (hi : Int)) = True := eq_true (by omega)
            have e2 : q < 256 := by omega
            have e3 : ((q : Int) < 256) = True := eq_true (by omega)
            go_wp2
            have n0_ := Aside0.mk (b2_put HD.out q (by omega))
            clear HD
            go_roundw
            case rel => exact ⟨q + 1, by go_num, by omega, by omega, ⟨by rw [rng_next s lo q (by omega)] at n0_; exact n0_.out⟩⟩
            case measure => simp [intOf]; omega
           ·have e1 : ((q : Int) ≤ (hi : Int)) = False := eq_false (by omega)
            obtain rfl : q = hi + 1 := by omega
            go_wp2
            go_roundw
            case rel => exact ⟨j2, rngS s lo hi, rfl, ⟨HC.out.next hm hk h93 (.inl ⟨q1, q2, q3, hm', by omega⟩) (by omega) (by omega)⟩, ⟨by rw [show ((hi + 1 : Nat) : Int) - 1 = (hi : Int) by omega] at HD; exact HD.out⟩⟩
            case measure => simp [intOf]; omega
        ·change glob_member.f 5 a0 ((j : Int) + 1) = _ at hm2
         go_wp2_with (first | (go_at_call 79; (with_reducible first | refine (glob_member.calls 5 _ _ _ _ _ _ hm1).mono ?_ | refine (glob_member.calls 5 _ _ _ _ _ _ hm2).mono ?_); rintro e w2 ⟨rfl, hb⟩; have n0_ := Aside0.mk (B2.step HD.out (dr_below hb)); clear HD; have HD := n0_; clear n0_; clear hb) | ((with_reducible refine gate_dst (N := 83) rfl ?_); refine wpList_load_row rfl 64 (.tmp 7) rfl (w.heap.size + 1) rfl 64 (sgA ⟨4, 0, false, s⟩) (0, 0) _ HD.out.2.2 hu1 rfl (sgS _) ?_) | ((with_reducible refine gate_store (t := 64) (p := 4) rfl ?_); refine wpList_store_rowTo rfl 64 (.tmp 4) (.tmp 83) rfl rfl w.heap.size (sgA ⟨4, 0, false, s⟩) rfl rfl 64 (sgA sgz) HD.out.2.1 (sgS _) (sgA_same _ _) (sgA_one _) ?_))
         refine bodyPost_ret (results_ctt rfl _ _ w.heap.size 64 (sgA ⟨4, 0, false, s⟩) (0, 0) _ rfl (setRow_heap _ _ (sgA sgz) _ 64 (0, 0) HD.out.2.1) hu1 rfl (sgS _)) rfl ?_
         exact ClsPost.bad (below_setRow HD.out.1 (Nat.le_refl _) _) (hR.trans (by rw [← hi0]; exact HC.out.cut hk h93 hm q1 q2 q3 hm')) _ _
       ·have hm2 := hm1
        by_cases q1 : j + 1 < a0.size
        ·have q4 : (((j : Int) + 1) < (a0.size : Int)) = True := eq_true (by omega)
         have q5 : j < a0.size := by omega
         by_cases q2 : bt a0 (j : Int) = 45
         ·rw [q2] at g1
          have q3 : bt a0 ((j + 1 : Nat) : Int) = 93 := Classical.not_not.1 (fun h => hd ⟨q1, q2, h⟩)
          have q3_ : bt a0 ((j : Int) + 1) = 93 := q3
          rw [q3_] at g2
          go_wp2_with (first | (go_at_call 79; (with_reducible first | refine (glob_member.calls 5 _ _ _ _ _ _ hm1).mono ?_ | refine (glob_member.calls 5 _ _ _ _ _ _ hm2).mono ?_); rintro e w2 ⟨rfl, hb⟩; have n0_ := Aside0.mk (B2.step HD.out (dr_below hb)); clear HD; have HD := n0_; clear n0_; clear hb))
          go_loopw [13] (fun v13 wi => ∃ q : Nat, v13 = .int .i64 q ∧ lo ≤ q ∧ q ≤ lo + 1 ∧ Aside0 (B2 64 64 w wi (sgA sgz) (sgA ⟨4, 0, false, rngS s lo ((q : Int) - 1)⟩))) (fun v13 _ => lo + 1 - (intOf v13).toNat)
          case atStart => exact ⟨lo, rfl, Nat.le_refl _, by omega, ⟨by rw [rng_none]; exact HD.out⟩⟩
          case round =>
           clear HD
           obtain ⟨q, rfl, hq1, hq2, HD⟩ := hrel
           by_cases hq : q ≤ lo
           ·have hc3 := b2_at HD.out q (by omega)
            have hf3 := blk_frozen HD.out.2.2 (3 + q)
            have e1 : ((q : Int) ≤ (lo : Int)) = True := eq_true (by omega)
            have e2 : q < 256 := by omega
            have e3 : ((q : Int) < 256) = True := eq_true (by omega)
            go_wp2
            have n0_ := Aside0.mk (b2_put HD.out q (by omega))
            clear HD
            go_roundw
            case rel => exact ⟨q + 1, by go_num, by omega, by omega, ⟨by rw [rng_next s lo q (by omega)] at n0_; exact n0_.out⟩⟩
            case measure => simp [intOf]; omega
           ·have e1 : ((q : Int) ≤ (lo : Int)) = False := eq_false (by omega)
            obtain rfl : q = lo + 1 := by omega
            go_wp2
            go_roundw
            case rel => exact ⟨j, rngS s lo lo, rfl, ⟨HC.out.next hm hk h93 (.inr ⟨hd, rfl, rfl⟩) (by omega) (by omega)⟩, ⟨by rw [show ((lo + 1 : Nat) : Int) - 1 = (lo : Int) by omega] at HD; exact HD.out⟩⟩
            case measure => simp [intOf]; omega
         ·have q3 : (bt a0 (j : Int) == 45) = false := beq_eq_false_iff_ne.2 q2
          go_wp2_with (first | (go_at_call 79; (with_reducible first | refine (glob_member.calls 5 _ _ _ _ _ _ hm1).mono ?_ | refine (glob_member.calls 5 _ _ _ _ _ _ hm2).mono ?_); rintro e w2 ⟨rfl, hb⟩; have n0_ := Aside0.mk (B2.step HD.out (dr_below hb)); clear HD; have HD := n0_; clear n0_; clear hb))
          go_loopw [13] (fun v13 wi => ∃ q : Nat, v13 = .int .i64 q ∧ lo ≤ q ∧ q ≤ lo + 1 ∧ Aside0 (B2 64 64 w wi (sgA sgz) (sgA ⟨4, 0, false, rngS s lo ((q : Int) - 1)⟩))) (fun v13 _ => lo + 1 - (intOf v13).toNat)
          case atStart => exact ⟨lo, rfl, Nat.le_refl _, by omega, ⟨by rw [rng_none]; exact HD.out⟩⟩
          case round =>
           clear HD
           obtain ⟨q, rfl, hq1, hq2, HD⟩ := hrel
           by_cases hq : q ≤ lo
           ·have hc3 := b2_at HD.out q (by omega)
            have hf3 := blk_frozen HD.out.2.2 (3 + q)
            have e1 : ((q : Int) ≤ (lo : Int)) = True := eq_true (by omega)
            have e2 : q < 256 := by omega
            have e3 : ((q : Int) < 256) = True := eq_true (by omega)
            go_wp2
            have n0_ := Aside0.mk (b2_put HD.out q (by omega))
            clear HD
            go_roundw
            case rel => exact ⟨q + 1, by go_num, by omega, by omega, ⟨by rw [rng_next s lo q (by omega)] at n0_; exact n0_.out⟩⟩
            case measure => simp [intOf]; omega
           ·have e1 : ((q : Int) ≤ (lo : Int)) = False := eq_false (by omega)
            obtain rfl : q = lo + 1 := by omega
            go_wp2
            go_roundw
            case rel => exact ⟨j, rngS s lo lo, rfl, ⟨HC.out.next hm hk h93 (.inr ⟨hd, rfl, rfl⟩) (by omega) (by omega)⟩, ⟨by rw [show ((lo + 1 : Nat) : Int) - 1 = (lo : Int) by omega] at HD; exact HD.out⟩⟩
            case measure => simp [intOf]; omega
        ·have q4 : (((j : Int) + 1) < (a0.size : Int)) = False := eq_false (by omega)
         go_wp2_with (first | (go_at_call 79; (with_reducible first | refine (glob_member.calls 5 _ _ _ _ _ _ hm1).mono ?_ | refine (glob_member.calls 5 _ _ _ _ _ _ hm2).mono ?_); rintro e w2 ⟨rfl, hb⟩; have n0_ := Aside0.mk (B2.step HD.out (dr_below hb)); clear HD; have HD := n0_; clear n0_; clear hb))
         go_loopw [13] (fun v13 wi => ∃ q : Nat, v13 = .int .i64 q ∧ lo ≤ q ∧ q ≤ lo + 1 ∧ Aside0 (B2 64 64 w wi (sgA sgz) (sgA ⟨4, 0, false, rngS s lo ((q : Int) - 1)⟩))) (fun v13 _ => lo + 1 - (intOf v13).toNat)
         case atStart => exact ⟨lo, rfl, Nat.le_refl _, by omega, ⟨by rw [rng_none]; exact HD.out⟩⟩
         case round =>
          clear HD
          obtain ⟨q, rfl, hq1, hq2, HD⟩ := hrel
          by_cases hq : q ≤ lo
          ·have hc3 := b2_at HD.out q (by omega)
           have hf3 := blk_frozen HD.out.2.2 (3 + q)
           have e1 : ((q : Int) ≤ (lo : Int)) = True := eq_true (by omega)
           have e2 : q < 256 := by omega
           have e3 : ((q : Int) < 256) = True := eq_true (by omega)
           go_wp2
           have n0_ := Aside0.mk (b2_put HD.out q (by omega))
           clear HD
           go_roundw
           case rel => exact ⟨q + 1, by go_num, by omega, by omega, ⟨by rw [rng_next s lo q (by omega)] at n0_; exact n0_.out⟩⟩
           case measure => simp [intOf]; omega
          ·have e1 : ((q : Int) ≤ (lo : Int)) = False := eq_false (by omega)
           obtain rfl : q = lo + 1 := by omega
           go_wp2
           go_roundw
           case rel => exact ⟨j, rngS s lo lo, rfl, ⟨HC.out.next hm hk h93 (.inr ⟨hd, rfl, rfl⟩) (by omega) (by omega)⟩, ⟨by rw [show ((lo + 1 : Nat) : Int) - 1 = (lo : Int) by omega] at HD; exact HD.out⟩⟩
           case measure => simp [intOf]; omega
      ·have hm2 := hm1
       go_wp2_with (first | (go_at_call 79; (with_reducible first | refine (glob_member.calls 5 _ _ _ _ _ _ hm1).mono ?_ | refine (glob_member.calls 5 _ _ _ _ _ _ hm2).mono ?_); rintro e w2 ⟨rfl, hb⟩; have n0_ := Aside0.mk (B2.step HD.out (dr_below hb)); clear HD; have HD := n0_; clear n0_; clear hb) | ((with_reducible refine gate_dst (N := 48) rfl ?_); refine wpList_load_row rfl 64 (.tmp 7) rfl (w.heap.size + 1) rfl 64 (sgA ⟨4, 0, false, s⟩) (0, 0) _ HD.out.2.2 hu1 rfl (sgS _) ?_) | ((with_reducible refine gate_store (t := 64) (p := 4) rfl ?_); refine wpList_store_rowTo rfl 64 (.tmp 4) (.tmp 48) rfl rfl w.heap.size (sgA ⟨4, 0, false, s⟩) rfl rfl 64 (sgA sgz) HD.out.2.1 (sgS _) (sgA_same _ _) (sgA_one _) ?_))
       refine bodyPost_ret (results_ctt rfl _ _ w.heap.size 64 (sgA ⟨4, 0, false, s⟩) (0, 0) _ rfl (setRow_heap _ _ (sgA sgz) _ 64 (0, 0) HD.out.2.1) hu1 rfl (sgS _)) rfl ?_
       exact ClsPost.bad (below_setRow HD.out.1 (Nat.le_refl _) _) (hR.trans (by rw [← hi0]; exact HC.out.stop hk h93 hm)) _ _
    ·have d0 : ((i : Int) < (a0.size : Int)) = False := eq_false (by omega)
     go_wp2_with (first | (go_at_call 79; (with_reducible first | refine (glob_member.calls 5 _ _ _ _ _ _ hm1).mono ?_ | refine (glob_member.calls 5 _ _ _ _ _ _ hm2).mono ?_); rintro e w2 ⟨rfl, hb⟩; have n0_ := Aside0.mk (B2.step HD.out (dr_below hb)); clear HD; have HD := n0_; clear n0_; clear hb) | ((with_reducible refine gate_dst (N := 96) rfl ?_); refine wpList_load_row rfl 64 (.tmp 7) rfl (w.heap.size + 1) rfl 64 (sgA ⟨4, 0, false, s⟩) (0, 0) _ HD.out.2.2 hu1 rfl (sgS _) ?_) | ((with_reducible refine gate_store (t := 64) (p := 4) rfl ?_); refine wpList_store_rowTo rfl 64 (.tmp 4) (.tmp 96) rfl rfl w.heap.size (sgA ⟨4, 0, false, s⟩) rfl rfl 64 (sgA sgz) HD.out.2.1 (sgS _) (sgA_same _ _) (sgA_one _) ?_))
     refine bodyPost_ret (results_ctt rfl _ _ w.heap.size 64 (sgA ⟨4, 0, false, s⟩) (0, 0) _ rfl (setRow_heap _ _ (sgA sgz) _ 64 (0, 0) HD.out.2.1) hu1 rfl (sgS _)) rfl ?_
     exact ClsPost.bad (below_setRow HD.out.1 (Nat.le_refl _) _) (hR.trans (by rw [← hi0]; exact HC.out.over hk)) _ _
end Go.Proofs.YtioehkeocddniaaDoor.PA
namespace Go.Proofs.YtioehkeocddniaaDoor.PA
open Go.RowKit Go.Proofs.YtioehkeocddniaaDoorW.PrintWords Go.Proofs.YtioehkeocddniaaDoorW.PrintLast Go.Proofs.YtioehkeocddniaaDoorW.PrintMore
attribute [local go_sem] max2_int min2_int max_two min_two max_three min_three max_four min_four
set_option linter.unusedVariables false
set_option linter.unusedSimpArgs false
theorem sg4_class_call : Tryd.prog.built 76 [(0, .int .i64 4)] = some (sgA ⟨4, 0, false, noS⟩) := by kernel_rfl
set_option maxHeartbeats 8000000 in
set_option maxRecDepth 100000 in
theorem class_call (a0 : ByteArray) (i1 : Nat) (hs : a0.size < 1000000) (hi1 : i1 ≤ a0.size) (w : World) :
  Calls Tryd.prog 77 #[.string a0, .int .i64 i1] w (ClsPost a0 (cls0 (dropL a0 i1)) w) := by
 have hu1 := Tryd.underlying76
 have sgS := sgSize2
 have ha := sgAlloc2
 have HD := Aside0.mk (B2.start 76 76 w (sgA sgz) (sgA sgz))
 by_cases h33 : i1 < a0.size ∧ bt a0 (i1 : Int) = 33
 ·have e0 : ((i1 : Int) < (a0.size : Int)) = True := eq_true (by omega)
  have e1 : i1 < a0.size := h33.1
  have e2 : ∀ h : i1 < a0.size, ((a0[i1]'h).toNat : Int) = 33 := fun h => by rw [← h33.2]; exact bt_at a0 i1 h
  obtain ⟨i0, hi0⟩ : ∃ x, x = i1 + 1 := ⟨_, rfl⟩
  have hR := clsR_start a0 i1 h33
  have hi0s : i0 ≤ a0.size := by omega
  clear h33 
  go_enter Tryd.func77, Tryd.ntmps77
  go_wp2_with (first | ((with_reducible refine gate_dst (N := 14) rfl ?_); refine wpList_buildTo rfl 76 #[(0, .const (.int .i64 4))] rfl (some 14) rfl (sgA ⟨4, 0, false, noS⟩) ?hf ?_; (case hf => (simp only [List.map_toArray, List.map_cons, List.map_nil]; exact sg4_class_call))) | ((with_reducible refine gate_store (t := 76) (p := 7) rfl ?_); refine wpList_store_rowTo rfl 76 (.tmp 7) (.tmp 14) rfl rfl (w.heap.size + 1) (sgA ⟨4, 0, false, noS⟩) rfl rfl 76 (sgA sgz) HD.out.2.2 (sgS _) (sgA_same _ _) (sgA_one _) ?_; have n0_ := Aside0.mk (B2.row HD.out (sgA ⟨4, 0, false, noS⟩)); clear HD; have HD := n0_; clear n0_; have hc2 := b2_cell HD.out 2; have hf2 := blk_frozen HD.out.2.2 2; change _ = some (Value.bool false) at hc2))
  clear e2
  have n0_ := Aside0.mk (B2.put HD.out 2 (.bool true))
  rw [sg_not] at n0_
  clear HD hc2 hf2
  have HD := n0_
  clear n0_ e0 e1
  go_loopw [1, 8] (fun v1 v8 wr => ∃ (i m : Nat) (s : Nat → Bool), v1 = .int .i64 i ∧ v8 = .int .i64 m ∧ Aside0 (CInv a0 i0 i s) ∧ Aside0 (m ≤ i ∧ (0 < m ↔ i0 < i)) ∧ Aside0 (B2 76 76 w wr (sgA sgz) (sgA ⟨4, 0, true, s⟩))) (fun v1 _ _ => a0.size - (intOf v1).toNat)
  case atStart => exact ⟨i0, 0, noS, by rw [hi0]; go_num, rfl, ⟨CInv.start a0 i0 hi0s⟩, ⟨by omega⟩, ⟨HD.out⟩⟩
  case round =>
   clear HD
   obtain ⟨i, m, s, rfl, rfl, HC, HM, HD⟩ := hrel
   have hmb : m ≤ i := HM.out.1
   have hib := HC.out.2.1
   by_cases hk : i < a0.size
   ·have d0 : ((i : Int) < (a0.size : Int)) = True := eq_true (by omega)
    have d1 : ∀ h : i < a0.size, ((a0[i]'h).toNat : Int) = bt a0 (i : Int) := fun h => bt_at a0 i h
    have b1 := bt_range a0 (i : Int)
    by_cases h93 : bt a0 (i : Int) = 93
    ·rw [h93] at d1
     have hm0 := HM.out
     by_cases hfi : i0 < i
     ·have f1 : ((0 : Int) < (m : Int)) = True := eq_true (by omega)
      have f2 : (0 < m) = True := eq_true (by omega)
      clear hm0
      go_wp2_with (first | (go_at_call 89; (with_reducible first | refine (remoraref14_member.calls 5 _ _ _ _ _ _ hm1).mono ?_ | refine (remoraref14_member.calls 5 _ _ _ _ _ _ hm2).mono ?_); rintro e w2 ⟨rfl, hb⟩; have n0_ := Aside0.mk (B2.step HD.out (dr_below hb)); clear HD; have HD := n0_; clear n0_; clear hb) | ((with_reducible refine gate_dst (N := 97) rfl ?_); refine wpList_load_row rfl 76 (.tmp 7) rfl (w.heap.size + 1) rfl 76 (sgA ⟨4, 0, true, s⟩) (0, 0) _ HD.out.2.2 hu1 rfl (sgS _) ?_) | ((with_reducible refine gate_store (t := 76) (p := 4) rfl ?_); refine wpList_store_rowTo rfl 76 (.tmp 4) (.tmp 97) rfl rfl w.heap.size (sgA ⟨4, 0, true, s⟩) rfl rfl 76 (sgA sgz) HD.out.2.1 (sgS _) (sgA_same _ _) (sgA_one _) ?_))
      refine bodyPost_ret (results_ctt rfl _ _ w.heap.size 76 (sgA ⟨4, 0, true, s⟩) (0, 0) _ rfl (setRow_heap _ _ (sgA sgz) _ 76 (0, 0) HD.out.2.1) hu1 rfl (sgS _)) rfl ?_
      exact ClsPost.good (below_setRow HD.out.1 (Nat.le_refl _) _) (hR.trans (by rw [← hi0]; exact HC.out.close hk h93 hfi)) (by omega) (by go_num)
     ·have f1 : ((0 : Int) < (m : Int)) = False := eq_false (by omega)
      have f2 : (0 < m) = False := eq_false (by omega)
      clear hm0
      go_wp2_with (first | (go_at_call 89; (with_reducible first | refine (remoraref14_member.calls 5 _ _ _ _ _ _ hm1).mono ?_ | refine (remoraref14_member.calls 5 _ _ _ _ _ _ hm2).mono ?_); rintro e w2 ⟨rfl, hb⟩; have n0_ := Aside0.mk (B2.step HD.out (dr_below hb)); clear HD; have HD := n0_; clear n0_; clear hb) | ((with_reducible refine gate_dst (N := 97) rfl ?_); refine wpList_load_row rfl 76 (.tmp 7) rfl (w.heap.size + 1) rfl 76 (sgA ⟨4, 0, true, s⟩) (0, 0) _ HD.out.2.2 hu1 rfl (sgS _) ?_) | ((with_reducible refine gate_store (t := 76) (p := 4) rfl ?_); refine wpList_store_rowTo rfl 76 (.tmp 4) (.tmp 97) rfl rfl w.heap.size (sgA ⟨4, 0, true, s⟩) rfl rfl 76 (sgA sgz) HD.out.2.1 (sgS _) (sgA_same _ _) (sgA_one _) ?_))
      refine bodyPost_ret (results_ctt rfl _ _ w.heap.size 76 (sgA ⟨4, 0, true, s⟩) (0, 0) _ rfl (setRow_heap _ _ (sgA sgz) _ 76 (0, 0) HD.out.2.1) hu1 rfl (sgS _)) rfl ?_
      exact ClsPost.bad (below_setRow HD.out.1 (Nat.le_refl _) _) (hR.trans (by rw [← hi0]; exact HC.out.empty hk h93 hfi)) _ _
    ·have d2 : (bt a0 (i : Int) != 93) = true := bne_iff_ne.2 h93
     rcases rmember_at a0 i hs (by omega) with ⟨lo', j, hm, hij, hj, hb', hm1⟩ | ⟨hm, hm1⟩
     ·obtain ⟨lo, rfl⟩ : ∃ x : Nat, lo' = x := ⟨lo'.toNat, by rw [hb']; have := bt_range a0 ((j - 1 : Nat) : Int); omega⟩
      have hlo : lo < 256 := by have := bt_range a0 ((j - 1 : Nat) : Int); omega
      clear hb'
      have g1 : ∀ h : j < a0.size, ((a0[j]'h).toNat : Int) = bt a0 (j : Int) := fun h => bt_at a0 j h
      have g2 : ∀ h : j + 1 < a0.size, ((a0[j + 1]'h).toNat : Int) = bt a0 ((j : Int) + 1) := fun h => bt_at a0 ((j + 1 : Nat) : Int) h
      have b2 := bt_range a0 (j : Int)
      have b3 := bt_range a0 ((j + 1 : Nat) : Int)
      by_cases hd : j + 1 < a0.size ∧ bt a0 (j : Int) = 45 ∧ bt a0 ((j + 1 : Nat) : Int) ≠ 93
      ·obtain ⟨q1, q2, q3⟩ := hd
       have q4 : (((j : Int) + 1) < (a0.size : Int)) = True := eq_true (by omega)
       have q5 : j < a0.size := by omega
       have q6 : (bt a0 ((j : Int) + 1) != 93) = true := bne_iff_ne.2 q3
       rw [q2] at g1
       rcases rmember_at a0 (j + 1) hs (by omega) with ⟨hi', j2, hm', hij2, hj2, hb2, hm2⟩ | ⟨hm', hm2⟩
       ·obtain ⟨hi, rfl⟩ : ∃ x : Nat, hi' = x := ⟨hi'.toNat, by rw [hb2]; have := bt_range a0 ((j2 - 1 : Nat) : Int); omega⟩
        have hhi : hi < 256 := by have := bt_range a0 ((j2 - 1 : Nat) : Int); omega
        clear hb2
        change remoraref14_member.f 5 a0 ((j : Int) + 1) = _ at hm2
        by_cases hlt : hi < lo
        ·have r1 : ((hi : Int) < (lo : Int)) = True := eq_true (by omega)
         go_wp2_with (first | (go_at_call 89; (with_reducible first | refine (remoraref14_member.calls 5 _ _ _ _ _ _ hm1).mono ?_ | refine (remoraref14_member.calls 5 _ _ _ _ _ _ hm2).mono ?_); rintro e w2 ⟨rfl, hb⟩; have n0_ := Aside0.mk (B2.step HD.out (dr_below hb)); clear HD; have HD := n0_; clear n0_; clear hb) | ((with_reducible refine gate_dst (N := 82) rfl ?_); refine wpList_load_row rfl 76 (.tmp 7) rfl (w.heap.size + 1) rfl 76 (sgA ⟨4, 0, true, s⟩) (0, 0) _ HD.out.2.2 hu1 rfl (sgS _) ?_) | ((with_reducible refine gate_store (t := 76) (p := 4) rfl ?_); refine wpList_store_rowTo rfl 76 (.tmp 4) (.tmp 82) rfl rfl w.heap.size (sgA ⟨4, 0, true, s⟩) rfl rfl 76 (sgA sgz) HD.out.2.1 (sgS _) (sgA_same _ _) (sgA_one _) ?_))
         refine bodyPost_ret (results_ctt rfl _ _ w.heap.size 76 (sgA ⟨4, 0, true, s⟩) (0, 0) _ rfl (setRow_heap _ _ (sgA sgz) _ 76 (0, 0) HD.out.2.1) hu1 rfl (sgS _)) rfl ?_
         exact ClsPost.bad (below_setRow HD.out.1 (Nat.le_refl _) _) (hR.trans (by rw [← hi0]; exact HC.out.low hk h93 hm q1 q2 q3 hm' (by omega))) _ _
        ·have r1 : ((hi : Int) < (lo : Int)) = False := eq_false (by omega)
         go_wp2_with (first | (go_at_call 89; (with_reducible first | refine (remoraref14_member.calls 5 _ _ _ _ _ _ hm1).mono ?_ | refine (remoraref14_member.calls 5 _ _ _ _ _ _ hm2).mono ?_); rintro e w2 ⟨rfl, hb⟩; have n0_ := Aside0.mk (B2.step HD.out (dr_below hb)); clear HD; have HD := n0_; clear n0_; clear hb))
         go_loopw [13] (fun v13 wi => ∃ q : Nat, v13 = .int .i64 q ∧ lo ≤ q ∧ q ≤ hi + 1 ∧ Aside0 (B2 76 76 w wi (sgA sgz) (sgA ⟨4, 0, true, rngS s lo ((q : Int) - 1)⟩))) (fun v13 _ => hi + 1 - (intOf v13).toNat)
         case atStart => exact ⟨lo, rfl, Nat.le_refl _, by omega, ⟨by rw [rng_none]; exact HD.out⟩⟩
         case round =>
          clear HD
          obtain ⟨q, rfl, hq1, hq2, HD⟩ := hrel
          by_cases hq : q ≤ hi
          ·have hc3 := b2_at HD.out q (by omega)
           have hf3 := blk_frozen HD.out.2.2 (3 + q)
           have e1 : ((q : Int) ≤ (hi : Int)) = True := eq_true (by omega)
           have e2 : q < 256 := by omega
           have e3 : ((q : Int) < 256) = True := eq_true (by omega)
           go_wp2
           have n0_ := Aside0.mk (b2_put HD.out q (by omega))
           clear HD
           go_roundw
           case rel => exact ⟨q + 1, by go_num, by omega, by omega, ⟨by rw [rng_next s lo q (by omega)] at n0_; exact n0_.out⟩⟩
           case measure => simp [intOf]; omega
          ·have e1 : ((q : Int) ≤ (hi : Int)) = False := eq_false (by omega)
           obtain rfl : q = hi + 1 := by omega
           go_wp2
           go_roundw
           case rel => exact ⟨j2, m + 1, rngS s lo hi, rfl, by go_num, ⟨HC.out.next hm hk h93 (.inl ⟨q1, q2, q3, hm', by omega⟩) (by omega) (by omega)⟩, ⟨by have := HM.out; have := HC.out.1; omega⟩, ⟨by rw [show ((hi + 1 : Nat) : Int) - 1 = (hi : Int) by omega] at HD; exact HD.out⟩⟩
           case measure => simp [intOf]; omega
       ·change remoraref14_member.f 5 a0 ((j : Int) + 1) = _ at hm2
        go_wp2_with (first | (go_at_call 89; (with_reducible first | refine (remoraref14_member.calls 5 _ _ _ _ _ _ hm1).mono ?_ | refine (remoraref14_member.calls 5 _ _ _ _ _ _ hm2).mono ?_); rintro e w2 ⟨rfl, hb⟩; have n0_ := Aside0.mk (B2.step HD.out (dr_below hb)); clear HD; have HD := n0_; clear n0_; clear hb) | ((with_reducible refine gate_dst (N := 82) rfl ?_); refine wpList_load_row rfl 76 (.tmp 7) rfl (w.heap.size + 1) rfl 76 (sgA ⟨4, 0, true, s⟩) (0, 0) _ HD.out.2.2 hu1 rfl (sgS _) ?_) | ((with_reducible refine gate_store (t := 76) (p := 4) rfl ?_); refine wpList_store_rowTo rfl 76 (.tmp 4) (.tmp 82) rfl rfl w.heap.size (sgA ⟨4, 0, true, s⟩) rfl rfl 76 (sgA sgz) HD.out.2.1 (sgS _) (sgA_same _ _) (sgA_one _) ?_))
        refine bodyPost_ret (results_ctt rfl _ _ w.heap.size 76 (sgA ⟨4, 0, true, s⟩) (0, 0) _ rfl (setRow_heap _ _ (sgA sgz) _ 76 (0, 0) HD.out.2.1) hu1 rfl (sgS _)) rfl ?_
        exact ClsPost.bad (below_setRow HD.out.1 (Nat.le_refl _) _) (hR.trans (by rw [← hi0]; exact HC.out.cut hk h93 hm q1 q2 q3 hm')) _ _
      ·have hm2 := hm1
       by_cases q1 : j + 1 < a0.size
       ·have q4 : (((j : Int) + 1) < (a0.size : Int)) = True := eq_true (by omega)
        have q5 : j < a0.size := by omega
        by_cases q2 : bt a0 (j : Int) = 45
        ·rw [q2] at g1
         have q3 : bt a0 ((j + 1 : Nat) : Int) = 93 := Classical.not_not.1 (fun h => hd ⟨q1, q2, h⟩)
         have q3_ : bt a0 ((j : Int) + 1) = 93 := q3
         rw [q3_] at g2
         go_wp2_with (first | (go_at_call 89; (with_reducible first | refine (remoraref14_member.calls 5 _ _ _ _ _ _ hm1).mono ?_ | refine (remoraref14_member.calls 5 _ _ _ _ _ _ hm2).mono ?_); rintro e w2 ⟨rfl, hb⟩; have n0_ := Aside0.mk (B2.step HD.out (dr_below hb)); clear HD; have HD := n0_; clear n0_; clear hb))
         go_loopw [13] (fun v13 wi => ∃ q : Nat, v13 = .int .i64 q ∧ lo ≤ q ∧ q ≤ lo + 1 ∧ Aside0 (B2 76 76 w wi (sgA sgz) (sgA ⟨4, 0, true, rngS s lo ((q : Int) - 1)⟩))) (fun v13 _ => lo + 1 - (intOf v13).toNat)
         case atStart => exact ⟨lo, rfl, Nat.le_refl _, by omega, ⟨by rw [rng_none]; exact HD.out⟩⟩
         case round =>
          clear HD
          obtain ⟨q, rfl, hq1, hq2, HD⟩ := hrel
          by_cases hq : q ≤ lo
          ·have hc3 := b2_at HD.out q (by omega)
           have hf3 := blk_frozen HD.out.2.2 (3 + q)
           have e1 : ((q : Int) ≤ (lo : Int)) = True := eq_true (by omega)
           have e2 : q < 256 := by omega
           have e3 : ((q : Int) < 256) = True := eq_true (by omega)
           go_wp2
           have n0_ := Aside0.mk (b2_put HD.out q (by omega))
           clear HD
           go_roundw
           case rel => exact ⟨q + 1, by go_num, by omega, by omega, ⟨by rw [rng_next s lo q (by omega)] at n0_; exact n0_.out⟩⟩
           case measure => simp [intOf]; omega
          ·have e1 : ((q : Int) ≤ (lo : Int)) = False := eq_false (by omega)
           obtain rfl : q = lo + 1 := by omega
           go_wp2
           go_roundw
           case rel => exact ⟨j, m + 1, rngS s lo lo, rfl, by go_num, ⟨HC.out.next hm hk h93 (.inr ⟨hd, rfl, rfl⟩) (by omega) (by omega)⟩, ⟨by have := HM.out; have := HC.out.1; omega⟩, ⟨by rw [show ((lo + 1 : Nat) : Int) - 1 = (lo : Int) by omega] at HD; exact HD.out⟩⟩
           case measure => simp [intOf]; omega
        ·have q3 : (bt a0 (j : Int) == 45) = false := beq_eq_false_iff_ne.2 q2
         go_wp2_with (first | (go_at_call 89; (with_reducible first | refine (remoraref14_member.calls 5 _ _ _ _ _ _ hm1).mono ?_ | refine (remoraref14_member.calls 5 _ _ _ _ _ _ hm2).mono ?_); rintro e w2 ⟨rfl, hb⟩; have n0_ := Aside0.mk (B2.step HD.out (dr_below hb)); clear HD; have HD := n0_; clear n0_; clear hb))
         go_loopw [13] (fun v13 wi => ∃ q : Nat, v13 = .int .i64 q ∧ lo ≤ q ∧ q ≤ lo + 1 ∧ Aside0 (B2 76 76 w wi (sgA sgz) (sgA ⟨4, 0, true, rngS s lo ((q : Int) - 1)⟩))) (fun v13 _ => lo + 1 - (intOf v13).toNat)
         case atStart => exact ⟨lo, rfl, Nat.le_refl _, by omega, ⟨by rw [rng_none]; exact HD.out⟩⟩
         case round =>
          clear HD
          obtain ⟨q, rfl, hq1, hq2, HD⟩ := hrel
          by_cases hq : q ≤ lo
          ·have hc3 := b2_at HD.out q (by omega)
           have hf3 := blk_frozen HD.out.2.2 (3 + q)
           have e1 : ((q : Int) ≤ (lo : Int)) = True := eq_true (by omega)
           have e2 : q < 256 := by omega
           have e3 : ((q : Int) < 256) = True := eq_true (by omega)
           go_wp2
           have n0_ := Aside0.mk (b2_put HD.out q (by omega))
           clear HD
           go_roundw
           case rel => exact ⟨q + 1, by go_num, by omega, by omega, ⟨by rw [rng_next s lo q (by omega)] at n0_; exact n0_.out⟩⟩
           case measure => simp [intOf]; omega
          ·have e1 : ((q : Int) ≤ (lo : Int)) = False := eq_false (by omega)
           obtain rfl : q = lo + 1 := by omega
           go_wp2
           go_roundw
           case rel => exact ⟨j, m + 1, rngS s lo lo, rfl, by go_num, ⟨HC.out.next hm hk h93 (.inr ⟨hd, rfl, rfl⟩) (by omega) (by omega)⟩, ⟨by have := HM.out; have := HC.out.1; omega⟩, ⟨by rw [show ((lo + 1 : Nat) : Int) - 1 = (lo : Int) by omega] at HD; exact HD.out⟩⟩
           case measure => simp [intOf]; omega
       ·have q4 : (((j : Int) + 1) < (a0.size : Int)) = False := eq_false (by omega)
        go_wp2_with (first | (go_at_call 89; (with_reducible first | refine (remoraref14_member.calls 5 _ _ _ _ _ _ hm1).mono ?_ | refine (remoraref14_member.calls 5 _ _ _ _ _ _ hm2).mono ?_); rintro e w2 ⟨rfl, hb⟩; have n0_ := Aside0.mk (B2.step HD.out (dr_below hb)); clear HD; have HD := n0_; clear n0_; clear hb))
        go_loopw [13] (fun v13 wi => ∃ q : Nat, v13 = .int .i64 q ∧ lo ≤ q ∧ q ≤ lo + 1 ∧ Aside0 (B2 76 76 w wi (sgA sgz) (sgA ⟨4, 0, true, rngS s lo ((q : Int) - 1)⟩))) (fun v13 _ => lo + 1 - (intOf v13).toNat)
        case atStart => exact ⟨lo, rfl, Nat.le_refl _, by omega, ⟨by rw [rng_none]; exact HD.out⟩⟩
        case round =>
         clear HD
         obtain ⟨q, rfl, hq1, hq2, HD⟩ := hrel
         by_cases hq : q ≤ lo
         ·have hc3 := b2_at HD.out q (by omega)
          have hf3 := blk_frozen HD.out.2.2 (3 + q)
          have e1 : ((q : Int) ≤ (lo : Int)) = True := eq_true (by omega)
          have e2 : q < 256 := by omega
          have e3 : ((q : Int) < 256) = True := eq_true (by omega)
          go_wp2
          have n0_ := Aside0.mk (b2_put HD.out q (by omega))
          clear HD
          go_roundw
          case rel => exact ⟨q + 1, by go_num, by omega, by omega, ⟨by rw [rng_next s lo q (by omega)] at n0_; exact n0_.out⟩⟩
          case measure => simp [intOf]; omega
         ·have e1 : ((q : Int) ≤ (lo : Int)) = False := eq_false (by omega)
          obtain rfl : q = lo + 1 := by omega
          go_wp2
          go_roundw
          case rel => exact ⟨j, m + 1, rngS s lo lo, rfl, by go_num, ⟨HC.out.next hm hk h93 (.inr ⟨hd, rfl, rfl⟩) (by omega) (by omega)⟩, ⟨by have := HM.out; have := HC.out.1; omega⟩, ⟨by rw [show ((lo + 1 : Nat) : Int) - 1 = (lo : Int) by omega] at HD; exact HD.out⟩⟩
          case measure => simp [intOf]; omega
     ·have hm2 := hm1
      go_wp2_with (first | (go_at_call 89; (with_reducible first | refine (remoraref14_member.calls 5 _ _ _ _ _ _ hm1).mono ?_ | refine (remoraref14_member.calls 5 _ _ _ _ _ _ hm2).mono ?_); rintro e w2 ⟨rfl, hb⟩; have n0_ := Aside0.mk (B2.step HD.out (dr_below hb)); clear HD; have HD := n0_; clear n0_; clear hb) | ((with_reducible refine gate_dst (N := 47) rfl ?_); refine wpList_load_row rfl 76 (.tmp 7) rfl (w.heap.size + 1) rfl 76 (sgA ⟨4, 0, true, s⟩) (0, 0) _ HD.out.2.2 hu1 rfl (sgS _) ?_) | ((with_reducible refine gate_store (t := 76) (p := 4) rfl ?_); refine wpList_store_rowTo rfl 76 (.tmp 4) (.tmp 47) rfl rfl w.heap.size (sgA ⟨4, 0, true, s⟩) rfl rfl 76 (sgA sgz) HD.out.2.1 (sgS _) (sgA_same _ _) (sgA_one _) ?_))
      refine bodyPost_ret (results_ctt rfl _ _ w.heap.size 76 (sgA ⟨4, 0, true, s⟩) (0, 0) _ rfl (setRow_heap _ _ (sgA sgz) _ 76 (0, 0) HD.out.2.1) hu1 rfl (sgS _)) rfl ?_
      exact ClsPost.bad (below_setRow HD.out.1 (Nat.le_refl _) _) (hR.trans (by rw [← hi0]; exact HC.out.stop hk h93 hm)) _ _
   ·have d0 : ((i : Int) < (a0.size : Int)) = False := eq_false (by omega)
    go_wp2_with (first | (go_at_call 89; (with_reducible first | refine (remoraref14_member.calls 5 _ _ _ _ _ _ hm1).mono ?_ | refine (remoraref14_member.calls 5 _ _ _ _ _ _ hm2).mono ?_); rintro e w2 ⟨rfl, hb⟩; have n0_ := Aside0.mk (B2.step HD.out (dr_below hb)); clear HD; have HD := n0_; clear n0_; clear hb) | ((with_reducible refine gate_dst (N := 97) rfl ?_); refine wpList_load_row rfl 76 (.tmp 7) rfl (w.heap.size + 1) rfl 76 (sgA ⟨4, 0, true, s⟩) (0, 0) _ HD.out.2.2 hu1 rfl (sgS _) ?_) | ((with_reducible refine gate_store (t := 76) (p := 4) rfl ?_); refine wpList_store_rowTo rfl 76 (.tmp 4) (.tmp 97) rfl rfl w.heap.size (sgA ⟨4, 0, true, s⟩) rfl rfl 76 (sgA sgz) HD.out.2.1 (sgS _) (sgA_same _ _) (sgA_one _) ?_))
    refine bodyPost_ret (results_ctt rfl _ _ w.heap.size 76 (sgA ⟨4, 0, true, s⟩) (0, 0) _ rfl (setRow_heap _ _ (sgA sgz) _ 76 (0, 0) HD.out.2.1) hu1 rfl (sgS _)) rfl ?_
    exact ClsPost.bad (below_setRow HD.out.1 (Nat.le_refl _) _) (hR.trans (by rw [← hi0]; exact HC.out.over hk)) _ _
 ·have e2 : ∀ h : i1 < a0.size, (((a0[i1]'h).toNat : Int) == 33) = false := fun h => beq_eq_false_iff_ne.2 (fun he => h33 ⟨h, by rw [← he]; exact (bt_at a0 i1 h).symm⟩)
  have e3 : (i1 < a0.size ∧ ((i1 : Int) < (a0.size : Int)) = True) ∨ (((i1 : Int) < (a0.size : Int)) = False) := by
   by_cases hl : i1 < a0.size
   ·exact .inl ⟨hl, eq_true (by omega)⟩
   ·exact .inr (eq_false (by omega))
  rcases e3 with ⟨e4, e3⟩ | e3
  all_goals
   obtain ⟨i0, hi0⟩ : ∃ x, x = i1 := ⟨_, rfl⟩
   have hR := clsR_start2 a0 i1 h33
   have hi0s : i0 ≤ a0.size := by omega
   clear h33 
   go_enter Tryd.func77, Tryd.ntmps77
   go_wp2_with (first | ((with_reducible refine gate_dst (N := 14) rfl ?_); refine wpList_buildTo rfl 76 #[(0, .const (.int .i64 4))] rfl (some 14) rfl (sgA ⟨4, 0, false, noS⟩) ?hf ?_; (case hf => (simp only [List.map_toArray, List.map_cons, List.map_nil]; exact sg4_class_call))) | ((with_reducible refine gate_store (t := 76) (p := 7) rfl ?_); refine wpList_store_rowTo rfl 76 (.tmp 7) (.tmp 14) rfl rfl (w.heap.size + 1) (sgA ⟨4, 0, false, noS⟩) rfl rfl 76 (sgA sgz) HD.out.2.2 (sgS _) (sgA_same _ _) (sgA_one _) ?_; have n0_ := Aside0.mk (B2.row HD.out (sgA ⟨4, 0, false, noS⟩)); clear HD; have HD := n0_; clear n0_; have hc2 := b2_cell HD.out 2; have hf2 := blk_frozen HD.out.2.2 2; change _ = some (Value.bool false) at hc2))
   clear e2
   clear hc2 hf2
   go_loopw [1, 8] (fun v1 v8 wr => ∃ (i m : Nat) (s : Nat → Bool), v1 = .int .i64 i ∧ v8 = .int .i64 m ∧ Aside0 (CInv a0 i0 i s) ∧ Aside0 (m ≤ i ∧ (0 < m ↔ i0 < i)) ∧ Aside0 (B2 76 76 w wr (sgA sgz) (sgA ⟨4, 0, false, s⟩))) (fun v1 _ _ => a0.size - (intOf v1).toNat)
   case atStart => exact ⟨i0, 0, noS, by rw [hi0], rfl, ⟨CInv.start a0 i0 hi0s⟩, ⟨by omega⟩, ⟨HD.out⟩⟩
   case round =>
    clear HD
    obtain ⟨i, m, s, rfl, rfl, HC, HM, HD⟩ := hrel
    have hmb : m ≤ i := HM.out.1
    have hib := HC.out.2.1
    by_cases hk : i < a0.size
    ·have d0 : ((i : Int) < (a0.size : Int)) = True := eq_true (by omega)
     have d1 : ∀ h : i < a0.size, ((a0[i]'h).toNat : Int) = bt a0 (i : Int) := fun h => bt_at a0 i h
     have b1 := bt_range a0 (i : Int)
     by_cases h93 : bt a0 (i : Int) = 93
     ·rw [h93] at d1
      have hm0 := HM.out
      by_cases hfi : i0 < i
      ·have f1 : ((0 : Int) < (m : Int)) = True := eq_true (by omega)
       have f2 : (0 < m) = True := eq_true (by omega)
       clear hm0
       go_wp2_with (first | (go_at_call 89; (with_reducible first | refine (remoraref14_member.calls 5 _ _ _ _ _ _ hm1).mono ?_ | refine (remoraref14_member.calls 5 _ _ _ _ _ _ hm2).mono ?_); rintro e w2 ⟨rfl, hb⟩; have n0_ := Aside0.mk (B2.step HD.out (dr_below hb)); clear HD; have HD := n0_; clear n0_; clear hb) | ((with_reducible refine gate_dst (N := 97) rfl ?_); refine wpList_load_row rfl 76 (.tmp 7) rfl (w.heap.size + 1) rfl 76 (sgA ⟨4, 0, false, s⟩) (0, 0) _ HD.out.2.2 hu1 rfl (sgS _) ?_) | ((with_reducible refine gate_store (t := 76) (p := 4) rfl ?_); refine wpList_store_rowTo rfl 76 (.tmp 4) (.tmp 97) rfl rfl w.heap.size (sgA ⟨4, 0, false, s⟩) rfl rfl 76 (sgA sgz) HD.out.2.1 (sgS _) (sgA_same _ _) (sgA_one _) ?_))
       refine bodyPost_ret (results_ctt rfl _ _ w.heap.size 76 (sgA ⟨4, 0, false, s⟩) (0, 0) _ rfl (setRow_heap _ _ (sgA sgz) _ 76 (0, 0) HD.out.2.1) hu1 rfl (sgS _)) rfl ?_
       exact ClsPost.good (below_setRow HD.out.1 (Nat.le_refl _) _) (hR.trans (by rw [← hi0]; exact HC.out.close hk h93 hfi)) (by omega) (by go_num)
      ·have f1 : ((0 : Int) < (m : Int)) = False := eq_false (by omega)
       have f2 : (0 < m) = False := eq_false (by omega)
       clear hm0
       go_wp2_with (first | (go_at_call 89; (with_reducible first | refine (remoraref14_member.calls 5 _ _ _ _ _ _ hm1).mono ?_ | refine (remoraref14_member.calls 5 _ _ _ _ _ _ hm2).mono ?_); rintro e w2 ⟨rfl, hb⟩; have n0_ := Aside0.mk (B2.step HD.out (dr_below hb)); clear HD; have HD := n0_; clear n0_; clear hb) | ((with_reducible refine gate_dst (N := 97) rfl ?_); refine wpList_load_row rfl 76 (.tmp 7) rfl (w.heap.size + 1) rfl 76 (sgA ⟨4, 0, false, s⟩) (0, 0) _ HD.out.2.2 hu1 rfl (sgS _) ?_) | ((with_reducible refine gate_store (t := 76) (p := 4) rfl ?_); refine wpList_store_rowTo rfl 76 (.tmp 4) (.tmp 97) rfl rfl w.heap.size (sgA ⟨4, 0, false, s⟩) rfl rfl 76 (sgA sgz) HD.out.2.1 (sgS _) (sgA_same _ _) (sgA_one _) ?_))
       refine bodyPost_ret (results_ctt rfl _ _ w.heap.size 76 (sgA ⟨4, 0, false, s⟩) (0, 0) _ rfl (setRow_heap _ _ (sgA sgz) _ 76 (0, 0) HD.out.2.1) hu1 rfl (sgS _)) rfl ?_
       exact ClsPost.bad (below_setRow HD.out.1 (Nat.le_refl _) _) (hR.trans (by rw [← hi0]; exact HC.out.empty hk h93 hfi)) _ _
     ·have d2 : (bt a0 (i : Int) != 93) = true := bne_iff_ne.2 h93
      rcases rmember_at a0 i hs (by omega) with ⟨lo', j, hm, hij, hj, hb', hm1⟩ | ⟨hm, hm1⟩
      ·obtain ⟨lo, rfl⟩ : ∃ x : Nat, lo' = x := ⟨lo'.toNat, by rw [hb']; have := bt_range a0 ((j - 1 : Nat) : Int); omega⟩
       have hlo : lo < 256 := by have := bt_range a0 ((j - 1 : Nat) : Int); omega
       clear hb'
       have g1 : ∀ h : j < a0.size, ((a0[j]'h).toNat : Int) = bt a0 (j : Int) := fun h => bt_at a0 j h
       have g2 : ∀ h : j + 1 < a0.size, ((a0[j + 1]'h).toNat : Int) = bt a0 ((j : Int) + 1) := fun h => bt_at a0 ((j + 1 : Nat) : Int) h
       have b2 := bt_range a0 (j : Int)
       have b3 := bt_range a0 ((j + 1 : Nat) : Int)
       by_cases hd : j + 1 < a0.size ∧ bt a0 (j : Int) = 45 ∧ bt a0 ((j + 1 : Nat) : Int) ≠ 93
       ·obtain ⟨q1, q2, q3⟩ := hd
        have q4 : (((j : Int) + 1) < (a0.size : Int)) = True := eq_true (by omega)
        have q5 : j < a0.size := by omega
        have q6 : (bt a0 ((j : Int) + 1) != 93) = true := bne_iff_ne.2 q3
        rw [q2] at g1
        rcases rmember_at a0 (j + 1) hs (by omega) with ⟨hi', j2, hm', hij2, hj2, hb2, hm2⟩ | ⟨hm', hm2⟩
        ·obtain ⟨hi, rfl⟩ : ∃ x : Nat, hi' = x := ⟨hi'.toNat, by rw [hb2]; have := bt_range a0 ((j2 - 1 : Nat) : Int); omega⟩
         have hhi : hi < 256 := by have := bt_range a0 ((j2 - 1 : Nat) : Int); omega
         clear hb2
         change remoraref14_member.f 5 a0 ((j : Int) + 1) = _ at hm2
         by_cases hlt : hi < lo
         ·have r1 : ((hi : Int) < (lo : Int)) = True := eq_true (by omega)
          go_wp2_with (first | (go_at_call 89; (with_reducible first | refine (remoraref14_member.calls 5 _ _ _ _ _ _ hm1).mono ?_ | refine (remoraref14_member.calls 5 _ _ _ _ _ _ hm2).mono ?_); rintro e w2 ⟨rfl, hb⟩; have n0_ := Aside0.mk (B2.step HD.out (dr_below hb)); clear HD; have HD := n0_; clear n0_; clear hb) | ((with_reducible refine gate_dst (N := 82) rfl ?_); refine wpList_load_row rfl 76 (.tmp 7) rfl (w.heap.size + 1) rfl 76 (sgA ⟨4, 0, false, s⟩) (0, 0) _ HD.out.2.2 hu1 rfl (sgS _) ?_) | ((with_reducible refine gate_store (t := 76) (p := 4) rfl ?_); refine wpList_store_rowTo rfl 76 (.tmp 4) (.tmp 82) rfl rfl w.heap.size (sgA ⟨4, 0, false, s⟩) rfl rfl 76 (sgA sgz) HD.out.2.1 (sgS _) (sgA_same _ _) (sgA_one _) ?_))
          refine bodyPost_ret (results_ctt rfl _ _ w.heap.size 76 (sgA ⟨4, 0, false, s⟩) (0, 0) _ rfl (setRow_heap _ _ (sgA sgz) _ 76 (0, 0) HD.out.2.1) hu1 rfl (sgS _)) rfl ?_
          exact ClsPost.bad (below_setRow HD.out.1 (Nat.le_refl _) _) (hR.trans (by rw [← hi0]; exact HC.out.low hk h93 hm q1 q2 q3 hm' (by omega))) _ _
         ·have r1 : ((hi : Int) < (lo : Int)) = False := eq_false (by omega)
          go_wp2_with (first | (go_at_call 89; (with_reducible first | refine (remoraref14_member.calls 5 _ _ _ _ _ _ hm1).mono ?_ | refine (remoraref14_member.calls 5 _ _ _ _ _ _ hm2).mono ?_); rintro e w2 ⟨rfl, hb⟩; have n0_ := Aside0.mk (B2.step HD.out (dr_below hb)); clear HD; have HD := n0_; clear n0_; clear hb))
          go_loopw [13] (fun v13 wi => ∃ q : Nat, v13 = .int .i64 q ∧ lo ≤ q ∧ q ≤ hi + 1 ∧ Aside0 (B2 76 76 w wi (sgA sgz) (sgA ⟨4, 0, false, rngS s lo ((q : Int) - 1)⟩))) (fun v13 _ => hi + 1 - (intOf v13).toNat)
          case atStart => exact ⟨lo, rfl, Nat.le_refl _, by omega, ⟨by rw [rng_none]; exact HD.out⟩⟩
          case round =>
           clear HD
           obtain ⟨q, rfl, hq1, hq2, HD⟩ := hrel
           by_cases hq : q ≤ hi
           ·have hc3 := b2_at HD.out q (by omega)
            have hf3 := blk_frozen HD.out.2.2 (3 + q)
            have e1 : ((q : Int) ≤ (hi : Int)) = True := eq_true (by omega)
            have e2 : q < 256 := by omega
            have e3 : ((q : Int) < 256) = True := eq_true (by omega)
            go_wp2
            have n0_ := Aside0.mk (b2_put HD.out q (by omega))
            clear HD
            go_roundw
            case rel => exact ⟨q + 1, by go_num, by omega, by omega, ⟨by rw [rng_next s lo q (by omega)] at n0_; exact n0_.out⟩⟩
            case measure => simp [intOf]; omega
           ·have e1 : ((q : Int) ≤ (hi : Int)) = False := eq_false (by omega)
            obtain rfl : q = hi + 1 := by omega
            go_wp2
            go_roundw
            case rel => exact ⟨j2, m + 1, rngS s lo hi, rfl, by go_num, ⟨HC.out.next hm hk h93 (.inl ⟨q1, q2, q3, hm', by omega⟩) (by omega) (by omega)⟩, ⟨by have := HM.out; have := HC.out.1; omega⟩, ⟨by rw [show ((hi + 1 : Nat) : Int) - 1 = (hi : Int) by omega] at HD; exact HD.out⟩⟩
            case measure => simp [intOf]; omega
        ·change remoraref14_member.f 5 a0 ((j : Int) + 1) = _ at hm2
         go_wp2_with (first | (go_at_call 89; (with_reducible first | refine (remoraref14_member.calls 5 _ _ _ _ _ _ hm1).mono ?_ | refine (remoraref14_member.calls 5 _ _ _ _ _ _ hm2).mono ?_); rintro e w2 ⟨rfl, hb⟩; have n0_ := Aside0.mk (B2.step HD.out (dr_below hb)); clear HD; have HD := n0_; clear n0_; clear hb) | ((with_reducible refine gate_dst (N := 82) rfl ?_); refine wpList_load_row rfl 76 (.tmp 7) rfl (w.heap.size + 1) rfl 76 (sgA ⟨4, 0, false, s⟩) (0, 0) _ HD.out.2.2 hu1 rfl (sgS _) ?_) | ((with_reducible refine gate_store (t := 76) (p := 4) rfl ?_); refine wpList_store_rowTo rfl 76 (.tmp 4) (.tmp 82) rfl rfl w.heap.size (sgA ⟨4, 0, false, s⟩) rfl rfl 76 (sgA sgz) HD.out.2.1 (sgS _) (sgA_same _ _) (sgA_one _) ?_))
         refine bodyPost_ret (results_ctt rfl _ _ w.heap.size 76 (sgA ⟨4, 0, false, s⟩) (0, 0) _ rfl (setRow_heap _ _ (sgA sgz) _ 76 (0, 0) HD.out.2.1) hu1 rfl (sgS _)) rfl ?_
         exact ClsPost.bad (below_setRow HD.out.1 (Nat.le_refl _) _) (hR.trans (by rw [← hi0]; exact HC.out.cut hk h93 hm q1 q2 q3 hm')) _ _
       ·have hm2 := hm1
        by_cases q1 : j + 1 < a0.size
        ·have q4 : (((j : Int) + 1) < (a0.size : Int)) = True := eq_true (by omega)
         have q5 : j < a0.size := by omega
         by_cases q2 : bt a0 (j : Int) = 45
         ·rw [q2] at g1
          have q3 : bt a0 ((j + 1 : Nat) : Int) = 93 := Classical.not_not.1 (fun h => hd ⟨q1, q2, h⟩)
          have q3_ : bt a0 ((j : Int) + 1) = 93 := q3
          rw [q3_] at g2
          go_wp2_with (first | (go_at_call 89; (with_reducible first | refine (remoraref14_member.calls 5 _ _ _ _ _ _ hm1).mono ?_ | refine (remoraref14_member.calls 5 _ _ _ _ _ _ hm2).mono ?_); rintro e w2 ⟨rfl, hb⟩; have n0_ := Aside0.mk (B2.step HD.out (dr_below hb)); clear HD; have HD := n0_; clear n0_; clear hb))
          go_loopw [13] (fun v13 wi => ∃ q : Nat, v13 = .int .i64 q ∧ lo ≤ q ∧ q ≤ lo + 1 ∧ Aside0 (B2 76 76 w wi (sgA sgz) (sgA ⟨4, 0, false, rngS s lo ((q : Int) - 1)⟩))) (fun v13 _ => lo + 1 - (intOf v13).toNat)
          case atStart => exact ⟨lo, rfl, Nat.le_refl _, by omega, ⟨by rw [rng_none]; exact HD.out⟩⟩
          case round =>
           clear HD
           obtain ⟨q, rfl, hq1, hq2, HD⟩ := hrel
           by_cases hq : q ≤ lo
           ·have hc3 := b2_at HD.out q (by omega)
            have hf3 := blk_frozen HD.out.2.2 (3 + q)
            have e1 : ((q : Int) ≤ (lo : Int)) = True := eq_true (by omega)
            have e2 : q < 256 := by omega
            have e3 : ((q : Int) < 256) = True := eq_true (by omega)
            go_wp2
            have n0_ := Aside0.mk (b2_put HD.out q (by omega))
            clear HD
            go_roundw
            case rel => exact ⟨q + 1, by go_num, by omega, by omega, ⟨by rw [rng_next s lo q (by omega)] at n0_; exact n0_.out⟩⟩
            case measure => simp [intOf]; omega
           ·have e1 : ((q : Int) ≤ (lo : Int)) = False := eq_false (by omega)
            obtain rfl : q = lo + 1 := by omega
            go_wp2
            go_roundw
            case rel => exact ⟨j, m + 1, rngS s lo lo, rfl, by go_num, ⟨HC.out.next hm hk h93 (.inr ⟨hd, rfl, rfl⟩) (by omega) (by omega)⟩, ⟨by have := HM.out; have := HC.out.1; omega⟩, ⟨by rw [show ((lo + 1 : Nat) : Int) - 1 = (lo : Int) by omega] at HD; exact HD.out⟩⟩
            case measure => simp [intOf]; omega
         ·have q3 : (bt a0 (j : Int) == 45) = false := beq_eq_false_iff_ne.2 q2
          go_wp2_with (first | (go_at_call 89; (with_reducible first | refine (remoraref14_member.calls 5 _ _ _ _ _ _ hm1).mono ?_ | refine (remoraref14_member.calls 5 _ _ _ _ _ _ hm2).mono ?_); rintro e w2 ⟨rfl, hb⟩; have n0_ := Aside0.mk (B2.step HD.out (dr_below hb)); clear HD; have HD := n0_; clear n0_; clear hb))
          go_loopw [13] (fun v13 wi => ∃ q : Nat, v13 = .int .i64 q ∧ lo ≤ q ∧ q ≤ lo + 1 ∧ Aside0 (B2 76 76 w wi (sgA sgz) (sgA ⟨4, 0, false, rngS s lo ((q : Int) - 1)⟩))) (fun v13 _ => lo + 1 - (intOf v13).toNat)
          case atStart => exact ⟨lo, rfl, Nat.le_refl _, by omega, ⟨by rw [rng_none]; exact HD.out⟩⟩
          case round =>
           clear HD
           obtain ⟨q, rfl, hq1, hq2, HD⟩ := hrel
           by_cases hq : q ≤ lo
           ·have hc3 := b2_at HD.out q (by omega)
            have hf3 := blk_frozen HD.out.2.2 (3 + q)
            have e1 : ((q : Int) ≤ (lo : Int)) = True := eq_true (by omega)
            have e2 : q < 256 := by omega
            have e3 : ((q : Int) < 256) = True := eq_true (by omega)
            go_wp2
            have n0_ := Aside0.mk (b2_put HD.out q (by omega))
            clear HD
            go_roundw
            case rel => exact ⟨q + 1, by go_num, by omega, by omega, ⟨by rw [rng_next s lo q (by omega)] at n0_; exact n0_.out⟩⟩
            case measure => simp [intOf]; omega
           ·have e1 : ((q : Int) ≤ (lo : Int)) = False := eq_false (by omega)
            obtain rfl : q = lo + 1 := by omega
            go_wp2
            go_roundw
            case rel => exact ⟨j, m + 1, rngS s lo lo, rfl, by go_num, ⟨HC.out.next hm hk h93 (.inr ⟨hd, rfl, rfl⟩) (by omega) (by omega)⟩, ⟨by have := HM.out; have := HC.out.1; omega⟩, ⟨by rw [show ((lo + 1 : Nat) : Int) - 1 = (lo : Int) by omega] at HD; exact HD.out⟩⟩
            case measure => simp [intOf]; omega
        ·have q4 : (((j : Int) + 1) < (a0.size : Int)) = False := eq_false (by omega)
         go_wp2_with (first | (go_at_call 89; (with_reducible first | refine (remoraref14_member.calls 5 _ _ _ _ _ _ hm1).mono ?_ | refine (remoraref14_member.calls 5 _ _ _ _ _ _ hm2).mono ?_); rintro e w2 ⟨rfl, hb⟩; have n0_ := Aside0.mk (B2.step HD.out (dr_below hb)); clear HD; have HD := n0_; clear n0_; clear hb))
         go_loopw [13] (fun v13 wi => ∃ q : Nat, v13 = .int .i64 q ∧ lo ≤ q ∧ q ≤ lo + 1 ∧ Aside0 (B2 76 76 w wi (sgA sgz) (sgA ⟨4, 0, false, rngS s lo ((q : Int) - 1)⟩))) (fun v13 _ => lo + 1 - (intOf v13).toNat)
         case atStart => exact ⟨lo, rfl, Nat.le_refl _, by omega, ⟨by rw [rng_none]; exact HD.out⟩⟩
         case round =>
          clear HD
          obtain ⟨q, rfl, hq1, hq2, HD⟩ := hrel
          by_cases hq : q ≤ lo
          ·have hc3 := b2_at HD.out q (by omega)
           have hf3 := blk_frozen HD.out.2.2 (3 + q)
           have e1 : ((q : Int) ≤ (lo : Int)) = True := eq_true (by omega)
           have e2 : q < 256 := by omega
           have e3 : ((q : Int) < 256) = True := eq_true (by omega)
           go_wp2
           have n0_ := Aside0.mk (b2_put HD.out q (by omega))
           clear HD
           go_roundw
           case rel => exact ⟨q + 1, by go_num, by omega, by omega, ⟨by rw [rng_next s lo q (by omega)] at n0_; exact n0_.out⟩⟩
           case measure => simp [intOf]; omega
          ·have e1 : ((q : Int) ≤ (lo : Int)) = False := eq_false (by omega)
           obtain rfl : q = lo + 1 := by omega
           go_wp2
           go_roundw
           case rel => exact ⟨j, m + 1, rngS s lo lo, rfl, by go_num, ⟨HC.out.next hm hk h93 (.inr ⟨hd, rfl, rfl⟩) (by omega) (by omega)⟩, ⟨by have := HM.out; have := HC.out.1; omega⟩, ⟨by rw [show ((lo + 1 : Nat) : Int) - 1 = (lo : Int) by omega] at HD; exact HD.out⟩⟩
           case measure => simp [intOf]; omega
      ·have hm2 := hm1
       go_wp2_with (first | (go_at_call 89; (with_reducible first | refine (remoraref14_member.calls 5 _ _ _ _ _ _ hm1).mono ?_ | refine (remoraref14_member.calls 5 _ _ _ _ _ _ hm2).mono ?_); rintro e w2 ⟨rfl, hb⟩; have n0_ := Aside0.mk (B2.step HD.out (dr_below hb)); clear HD; have HD := n0_; clear n0_; clear hb) | ((with_reducible refine gate_dst (N := 47) rfl ?_); refine wpList_load_row rfl 76 (.tmp 7) rfl (w.heap.size + 1) rfl 76 (sgA ⟨4, 0, false, s⟩) (0, 0) _ HD.out.2.2 hu1 rfl (sgS _) ?_) | ((with_reducible refine gate_store (t := 76) (p := 4) rfl ?_); refine wpList_store_rowTo rfl 76 (.tmp 4) (.tmp 47) rfl rfl w.heap.size (sgA ⟨4, 0, false, s⟩) rfl rfl 76 (sgA sgz) HD.out.2.1 (sgS _) (sgA_same _ _) (sgA_one _) ?_))
       refine bodyPost_ret (results_ctt rfl _ _ w.heap.size 76 (sgA ⟨4, 0, false, s⟩) (0, 0) _ rfl (setRow_heap _ _ (sgA sgz) _ 76 (0, 0) HD.out.2.1) hu1 rfl (sgS _)) rfl ?_
       exact ClsPost.bad (below_setRow HD.out.1 (Nat.le_refl _) _) (hR.trans (by rw [← hi0]; exact HC.out.stop hk h93 hm)) _ _
    ·have d0 : ((i : Int) < (a0.size : Int)) = False := eq_false (by omega)
     go_wp2_with (first | (go_at_call 89; (with_reducible first | refine (remoraref14_member.calls 5 _ _ _ _ _ _ hm1).mono ?_ | refine (remoraref14_member.calls 5 _ _ _ _ _ _ hm2).mono ?_); rintro e w2 ⟨rfl, hb⟩; have n0_ := Aside0.mk (B2.step HD.out (dr_below hb)); clear HD; have HD := n0_; clear n0_; clear hb) | ((with_reducible refine gate_dst (N := 97) rfl ?_); refine wpList_load_row rfl 76 (.tmp 7) rfl (w.heap.size + 1) rfl 76 (sgA ⟨4, 0, false, s⟩) (0, 0) _ HD.out.2.2 hu1 rfl (sgS _) ?_) | ((with_reducible refine gate_store (t := 76) (p := 4) rfl ?_); refine wpList_store_rowTo rfl 76 (.tmp 4) (.tmp 97) rfl rfl w.heap.size (sgA ⟨4, 0, false, s⟩) rfl rfl 76 (sgA sgz) HD.out.2.1 (sgS _) (sgA_same _ _) (sgA_one _) ?_))
     refine bodyPost_ret (results_ctt rfl _ _ w.heap.size 76 (sgA ⟨4, 0, false, s⟩) (0, 0) _ rfl (setRow_heap _ _ (sgA sgz) _ 76 (0, 0) HD.out.2.1) hu1 rfl (sgS _)) rfl ?_
     exact ClsPost.bad (below_setRow HD.out.1 (Nat.le_refl _) _) (hR.trans (by rw [← hi0]; exact HC.out.over hk)) _ _
end Go.Proofs.YtioehkeocddniaaDoor.PA
namespace Go.Proofs.YtioehkeocddniaaDoor.PA
open Go.RowKit Go.Proofs.YtioehkeocddniaaDoorW.PrintWords Go.Proofs.YtioehkeocddniaaDoorW.PrintLast Go.Proofs.YtioehkeocddniaaDoorW.PrintMore
attribute [local go_sem] max2_int min2_int max_two min_two max_three min_three max_four min_four
set_option linter.unusedVariables false
set_option linter.unusedSimpArgs false
theorem fill_sg (x : Sg) (z : Array Value) (hz : z.size = 259) : Instr.fill (fun i => some (i * 259, 259)) z [(0, .agg (sgA x))] = some (sgA x) := by
 obtain ⟨r, h1, h2, h3⟩ := Great.fill_dense (s := 259) (by decide) [.agg (sgA x)] 0 z (fun v hv => by
  rw [List.mem_singleton.1 hv]
  exact sgA_len x) (by rw [hz]; simp)
 have e : r = sgA x := by
  apply Array.ext_getElem?
  intro k
  rw [h3 k]
  by_cases hk : k < 259
  ·have hd : k / 259 = 0 := Nat.div_eq_of_lt hk
   have hm : k % 259 = k := Nat.mod_eq_of_lt hk
   rw [if_pos ⟨by omega, by simpa using hk⟩, hd, hm]
   rfl
  ·rw [if_neg (by simp; omega), Array.getElem?_eq_none (by rw [hz]; omega), Array.getElem?_eq_none (by rw [sgA_len]; omega)]
 rw [e] at h1
 exact h1
theorem sg_range (z : Array Value) : ((Array.range (1 * 259)).map (z[· % z.size]!)).size = 259 := by simp
theorem wpList_oneSg {P : Program} {ops : Array Oper} {rest : List Oper} {o : Oper} {a : Act} {w : World} {Q : Exit → Act → World → Prop} (hg : o.guard = none) (t e : TypeId) (y : Operand) (ho : o.op = .buildSlice t 1 #[(0, y)])
  (d : Option Tmp) (hd : o.dst = d) (hu : P.underlying t = some (.slice e)) (hi : (P.info? e).map (fun i => (i.zero, i.size, i.bytes)) = some (some (.agg (sgA sgz)), 259, 272)) (x : Sg) (hy : a.eval y = .agg (sgA x))
  (h : wpList P ops Q rest (a.put d (.slice (some ⟨w.heap.size, 0, none⟩) 1 1)) (w.alloc (.cells (sgA x) e))) : wpList P ops Q (o :: rest) a w := by
 subst hd
 cases hie : P.info? e with
 | none => simp [hie] at hi
 | some ie =>
  simp only [hie, Option.map_some, Option.some.injEq, Prod.mk.injEq] at hi
  obtain ⟨h1, h2, h3⟩ := hi
  refine wpList_buildSlice hg t e 1 #[(0, y)] ho (sgA x) ie (.agg (sgA sgz)) hu hie h1 (by rw [h2]; decide) (by rw [h2]; decide) ?_ h
  rw [h2]
  simp only [List.map_toArray, List.map_cons, List.map_nil, hy]
  exact fill_sg x _ (sg_range _)
def SgRow (T : Nat) (w0 wr : World) (v : Value) (l : List Sg) : Prop := Below w0.heap.size w0 wr ∧ kSg.R T wr w0.heap.size (fun k => w0.heap.size ≤ k) v l
theorem SgRow.start (T : Nat) (w : World) : SgRow T w w (.slice none 0 0) [] := ⟨Below.refl _ _, Kd.R_nil _ _ _ _ _⟩
theorem SgRow.step {T : Nat} {w0 wr w2 : World} {v : Value} {l : List Sg} (h : SgRow T w0 wr v l) (hb : Below wr.heap.size wr w2) : SgRow T w0 w2 v l := ⟨below_step h.1 hb, Kd.R_below h.2 hb⟩
theorem sgApp {P : Program} {ops : Array Oper} {rest : List Oper} {o : Oper} {a : Act} {Q : Exit → Act → World → Prop} {w0 W : World} (hgd : o.guard = none) (s x : Operand) (t e : TypeId)
  (ho : o.op = .call { callee := .builtin .append, args := #[s, x], argTypes := #[t, t] }) (d : Option Tmp) (hd : o.dst = d)
  (ht : P.underlying t = some (.slice e)) (hinfo : (P.info? e).map (fun i => (i.zero, i.size, i.bytes)) = some (some (.agg (sgA sgz)), 259, 272))
  (v : Value) (l : List Sg) (p : Sg) (hs : a.eval s = v) (hx : a.eval x = .slice (some ⟨W.heap.size, 0, none⟩) 1 1) (HO : SgRow e w0 W v l) (hl : l.length < 1000000)
  (h : ∀ v1 w1, SgRow e w0 w1 v1 (l ++ [p]) → wpList P ops Q rest (a.put d v1) w1) : wpList P ops Q (o :: rest) a (W.alloc (.cells (sgA p) e)) := by
 subst hd
 exact Kd.R_append kSg (w0 := w0) w0.heap.size hgd s x t e (.agg (sgA sgz)) 272 ho ht hinfo (sgA_len _) (by decide) (by decide) v l p (sgL p) (fun k => w0.heap.size ≤ k) (fun _ => False) hs hx rfl (fun _ hk => hk.elim) (fun k hk => Nat.le_trans (below_size HO.1) hk) HO.2 HO.1 (below_size HO.1) (by omega) (fun v1 w1 h1 h2 _ _ => h v1 w1 ⟨h2, h1⟩)
def SgsPost (T : Nat) (f : Tok → Sg) (o : Option (List Tok)) (w : World) (e : Ending) (w' : World) : Prop := Below w.heap.size w w' ∧
 match o with
 | some l => ∃ v, e = .returned (.tuple #[v, .bool true]) ∧ SgRow T w w' v (l.map f)
 | none => e = .returned (.tuple #[.slice none 0 0, .bool false])
theorem SgsPost.none {T : Nat} {f : Tok → Sg} {o : Option (List Tok)} {w w' : World} (hb : Below w.heap.size w w') (ho : o = .none) : SgsPost T f o w (.returned (.tuple #[.slice Option.none 0 0, .bool false])) w' := by
 subst ho
 exact ⟨hb, rfl⟩
theorem SgsPost.some {T : Nat} {f : Tok → Sg} {o : Option (List Tok)} {w w' : World} {v : Value} {l : List Tok} (hb : SgRow T w w' v (l.map f)) (ho : o = .some l) : SgsPost T f o w (.returned (.tuple #[v, .bool true])) w' := by
 subst ho
 exact ⟨hb.1, v, rfl, hb⟩
def PInv (a0 : ByteArray) (i : Nat) (l : List Tok) : Prop := i ≤ a0.size ∧ l.length ≤ i ∧ ∃ n, (dropL a0 i).length < n ∧ (parse n (dropL a0 i)).map (l ++ ·) = parse (a0.size + 1) (gL a0)
theorem PInv.start (a0 : ByteArray) : PInv a0 0 [] := ⟨Nat.zero_le _, Nat.le_refl _, a0.size + 1, by rw [dropL_len]; omega, by simp [dropL]⟩
section
variable {a0 : ByteArray} {i : Nat} {l : List Tok}
theorem PInv.eq (h : PInv a0 i l) (hk : i < a0.size) : ∃ n, a0.size - i ≤ n ∧ (parse (n + 1) (bt a0 (i : Int) :: dropL a0 (i + 1))).map (l ++ ·) = parse (a0.size + 1) (gL a0) := by
 obtain ⟨h1, h2, n, hn, he⟩ := h
 rw [dropL_len] at hn
 cases n with
 | zero => omega
 | succ n =>
  rw [gl_drop a0 i hk] at he
  exact ⟨n, by omega, he⟩
theorem parse_eq (n : Nat) (c : Int) (r : List Int) : parse (n + 1) (c :: r) =
  if c = 42 then (parse n (sk r)).map ((if (sk r).length < r.length then Tok.star2 else Tok.star) :: ·)
  else if c = 63 then (parse n r).map (Tok.one :: ·)
  else if c = 91 then (match cls0 r with | none => none | some tr => (parse n tr.2).map (tr.1 :: ·))
  else if c = 92 then (match r with | [] => none | d :: r' => (parse n r').map (Tok.lit d :: ·))
  else (parse n r).map (Tok.lit c :: ·) := rfl
theorem map_snoc (o : Option (List Tok)) (l : List Tok) (t : Tok) : (o.map (t :: ·)).map (l ++ ·) = o.map ((l ++ [t]) ++ ·) := by
 cases o with
 | none => rfl
 | some q => simp
theorem PInv.done (h : PInv a0 i l) (hk : ¬ i < a0.size) : parse (a0.size + 1) (gL a0) = some l := by
 obtain ⟨h1, h2, n, hn, he⟩ := h
 cases n with
 | zero => omega
 | succ n =>
  rw [gl_end a0 i (by omega)] at he
  rw [← he]
  simp [parse]
theorem PInv.star (h : PInv a0 i l) (hk : i < a0.size) (hc : bt a0 (i : Int) = 42) {j : Nat} (hj : sk (dropL a0 (i + 1)) = dropL a0 j) (hij : i + 1 ≤ j) (hle : j ≤ a0.size) : PInv a0 j (l ++ [if i + 1 < j then Tok.star2 else Tok.star]) := by
 obtain ⟨n, hn, he⟩ := h.eq hk
 rw [parse_eq, if_pos hc, hj, map_snoc] at he
 have e : (if (dropL a0 j).length < (dropL a0 (i + 1)).length then Tok.star2 else Tok.star) = (if i + 1 < j then Tok.star2 else Tok.star) := by
  rw [dropL_len, dropL_len]
  by_cases hl : i + 1 < j
  ·rw [if_pos hl, if_pos (by omega)]
  ·rw [if_neg hl, if_neg (by omega)]
 rw [e] at he
 refine ⟨hle, ?_, n, by rw [dropL_len]; omega, he⟩
 have := h.2.1
 simp
 omega
theorem PInv.one (h : PInv a0 i l) (hk : i < a0.size) (hc : bt a0 (i : Int) = 63) : PInv a0 (i + 1) (l ++ [Tok.one]) := by
 obtain ⟨n, hn, he⟩ := h.eq hk
 rw [parse_eq, hc, if_neg (by decide), if_pos rfl, map_snoc] at he
 refine ⟨hk, by have := h.2.1; simp; omega, n, by rw [dropL_len]; omega, he⟩
theorem PInv.cls (h : PInv a0 i l) (hk : i < a0.size) (hc : bt a0 (i : Int) = 91) {t : Tok} {j : Nat} (h0 : cls0 (dropL a0 (i + 1)) = some (t, dropL a0 j)) (hle : j ≤ a0.size) : i < j ∧ PInv a0 j (l ++ [t]) := by
 obtain ⟨n, hn, he⟩ := h.eq hk
 rw [parse_eq, hc, if_neg (by decide), if_neg (by decide), if_pos rfl, h0] at he
 dsimp only at he
 rw [map_snoc] at he
 have h3 := cls0_len h0
 rw [dropL_len, dropL_len] at h3
 exact ⟨by omega, hle, by have := h.2.1; simp; omega, n, by rw [dropL_len]; omega, he⟩
theorem PInv.nocls (h : PInv a0 i l) (hk : i < a0.size) (hc : bt a0 (i : Int) = 91) (h0 : cls0 (dropL a0 (i + 1)) = none) : parse (a0.size + 1) (gL a0) = none := by
 obtain ⟨n, hn, he⟩ := h.eq hk
 rw [parse_eq, hc, if_neg (by decide), if_neg (by decide), if_pos rfl, h0] at he
 exact he.symm
theorem PInv.esc (h : PInv a0 i l) (hk : i < a0.size) (hc : bt a0 (i : Int) = 92) (hk2 : i + 1 < a0.size) : PInv a0 (i + 2) (l ++ [Tok.lit (bt a0 ((i : Int) + 1))]) := by
 obtain ⟨n, hn, he⟩ := h.eq hk
 rw [parse_eq, hc, if_neg (by decide), if_neg (by decide), if_neg (by decide), if_pos rfl, gl_drop a0 (i + 1) hk2] at he
 dsimp only at he
 rw [map_snoc] at he
 exact ⟨hk2, by have := h.2.1; simp; omega, n, by rw [dropL_len]; omega, he⟩
theorem PInv.noesc (h : PInv a0 i l) (hk : i < a0.size) (hc : bt a0 (i : Int) = 92) (hk2 : ¬ i + 1 < a0.size) : parse (a0.size + 1) (gL a0) = none := by
 obtain ⟨n, hn, he⟩ := h.eq hk
 rw [parse_eq, hc, if_neg (by decide), if_neg (by decide), if_neg (by decide), if_pos rfl, gl_end a0 (i + 1) (by omega)] at he
 exact he.symm
theorem PInv.lit (h : PInv a0 i l) (hk : i < a0.size) (h1 : bt a0 (i : Int) ≠ 42) (h2 : bt a0 (i : Int) ≠ 63) (h3 : bt a0 (i : Int) ≠ 91) (h4 : bt a0 (i : Int) ≠ 92) : PInv a0 (i + 1) (l ++ [Tok.lit (bt a0 (i : Int))]) := by
 obtain ⟨n, hn, he⟩ := h.eq hk
 rw [parse_eq, if_neg h1, if_neg h2, if_neg h3, if_neg h4, map_snoc] at he
 exact ⟨hk, by have := h.2.1; simp; omega, n, by rw [dropL_len]; omega, he⟩
theorem PInv.short (h : PInv a0 i l) (hs : a0.size < 1000000) (f : Tok → Sg) : (l.map f).length < 1000000 := by
 have := h.1
 have := h.2.1
 rw [List.length_map]
 omega
end
theorem sk_hit (a0 : ByteArray) (j : Nat) (h : j < a0.size) (hc : bt a0 (j : Int) = 42) : sk (dropL a0 j) = sk (dropL a0 (j + 1)) := by
 rw [gl_drop a0 j h]
 conv => lhs; unfold sk
 rw [if_pos hc]
theorem sk_stop (a0 : ByteArray) (j : Nat) (h : ¬ (j < a0.size ∧ bt a0 (j : Int) = 42)) : sk (dropL a0 j) = dropL a0 j := by
 by_cases h0 : j < a0.size
 ·rw [gl_drop a0 j h0]
  unfold sk
  rw [if_neg (fun hc => h ⟨h0, hc⟩)]
 ·rw [gl_end a0 j (by omega)]
  rfl
end Go.Proofs.YtioehkeocddniaaDoor.PA
namespace Go.Proofs.YtioehkeocddniaaDoor.PA
open Go.RowKit Go.Proofs.YtioehkeocddniaaDoorW.PrintWords Go.Proofs.YtioehkeocddniaaDoorW.PrintLast Go.Proofs.YtioehkeocddniaaDoorW.PrintMore
attribute [local go_sem] max2_int min2_int max_two min_two max_three min_three max_four min_four
set_option linter.unusedVariables false
set_option linter.unusedSimpArgs false
structure SgBox (T : Nat) (w0 wr : World) (v : Value) (l : List Sg) (g : Nat) (S : Array Value) : Prop where
 below : Below w0.heap.size w0 wr
 row_ : kSg.R T wr w0.heap.size (fun k => w0.heap.size ≤ k ∧ k ≠ g) v l
 blk : wr.heap[g]? = some (.cells S T (0, 0))
 lo : w0.heap.size ≤ g
theorem SgBox.make {T : Nat} {w0 wr : World} {v : Value} {l : List Sg} (h : SgRow T w0 wr v l) : SgBox T w0 (wr.alloc (.cells (sgA sgz) T)) v l wr.heap.size (sgA sgz) := by
 refine ⟨below_step h.1 (below_alloc (Below.refl _ _) _), ?_, blk_new _ _, below_size h.1⟩
 exact Kd.R_below (Kd.R_mono (Kd.R_bound h.2) (fun k hk => ⟨hk.1, Nat.ne_of_lt hk.2.2.1⟩)) (below_alloc (Below.refl _ _) _)
theorem SgBox.row {T : Nat} {w0 wr : World} {v : Value} {l : List Sg} {g : Nat} {S : Array Value} (h : SgBox T w0 wr v l g S) (S2 : Array Value) : SgBox T w0 (wr.setRow g S2) v l g S2 :=
 ⟨below_setRow h.below h.lo _, Kd.R_step h.row_ (fun k hk _ => setRow_other _ _ _ _ hk.2), setRow_heap _ _ _ _ _ _ h.blk, h.lo⟩
theorem SgBox.put {T : Nat} {w0 wr : World} {v : Value} {l : List Sg} {g : Nat} {S : Array Value} (h : SgBox T w0 wr v l g S) (i : Nat) (u : Value) (S2 : Array Value) (e : S.setIfInBounds i u = S2) : SgBox T w0 (wr.setCell ⟨g, i, none⟩ u) v l g S2 :=
 ⟨below_set h.below h.lo, Kd.R_far (p := ⟨g, i, none⟩) h.row_ (fun k hk => hk.2) u, blk_put h.blk i u e, h.lo⟩
theorem SgBox.step {T : Nat} {w0 wr w2 : World} {v : Value} {l : List Sg} {g : Nat} {S : Array Value} (h : SgBox T w0 wr v l g S) (hb : Below wr.heap.size wr w2) : SgBox T w0 w2 v l g S :=
 ⟨below_step h.below hb, Kd.R_below h.row_ hb, blk_below h.blk hb, h.lo⟩
theorem SgBox.forget {T : Nat} {w0 wr : World} {v : Value} {l : List Sg} {g : Nat} {S : Array Value} (h : SgBox T w0 wr v l g S) : SgRow T w0 wr v l := ⟨h.below, Kd.R_mono h.row_ (fun _ hk => hk.1)⟩
theorem sgB1 : Tryd.prog.built 64 [(0, .int .i64 1)] = some (sgA ⟨1, 0, false, noS⟩) := by kernel_rfl
theorem sgB2 : Tryd.prog.built 64 [(0, .int .i64 2)] = some (sgA ⟨2, 0, false, noS⟩) := by kernel_rfl
theorem sgB3 : Tryd.prog.built 64 [(0, .int .i64 3)] = some (sgA ⟨3, 0, false, noS⟩) := by kernel_rfl
theorem sgBc (c : Int) : Tryd.prog.built 64 [(1, .int .u8 c)] = some (sgA ⟨0, c, false, noS⟩) := by kernel_rfl
set_option maxHeartbeats 8000000 in
set_option maxRecDepth 100000 in
theorem signs_call (a0 : ByteArray) (hs : a0.size < 1000000) (w : World) :
  Calls Tryd.prog 51 #[.string a0] w (SgsPost 64 codeSg (if a0.size ≤ 100 then parse (a0.size + 1) (gL a0) else none) w) := by
 have hu1 := Tryd.underlying64
 have und := Tryd.underlying57
 have sgS := sgSize1
 have ha := sgAlloc
 by_cases h100 : a0.size ≤ 100
 ·rw [if_pos h100]
  have c1 : ((100 : Int) < (a0.size : Int)) = False := eq_false (by omega)
  have c2 : (100 < a0.size) = False := eq_false (by omega)
  clear h100
  go_enter Tryd.func51, Tryd.ntmps51
  go_wp2
  clear c1 c2
  go_loopw [4, 5] (fun v4 v5 wr => ∃ (i : Nat) (l : List Tok), v5 = .int .i64 i ∧ Aside0 (PInv a0 i l) ∧ Aside0 (SgRow 64 w wr v4 (l.map codeSg))) (fun _ v5 _ => a0.size - (intOf v5).toNat)
  case atStart => exact ⟨0, [], rfl, ⟨PInv.start a0⟩, ⟨SgRow.start _ w⟩⟩
  case round =>
   obtain ⟨i, l, rfl, HC, HD⟩ := hrel
   by_cases hk : i < a0.size
   ·have d0 : ((i : Int) < (a0.size : Int)) = True := eq_true (by omega)
    have d1 : ∀ h : i < a0.size, ((a0[i]'h).toNat : Int) = bt a0 (i : Int) := fun h => bt_at a0 i h
    have d9 : ∀ h : i + 1 < a0.size, ((a0[i + 1]'h).toNat : Int) = bt a0 ((i : Int) + 1) := fun h => bt_at a0 ((i + 1 : Nat) : Int) h
    have hln := Aside0.mk (HC.out.short hs codeSg)
    by_cases hc : (bt a0 (i : Int)) = 42
    ·have e0 : (bt a0 (i : Int)) = 42 := hc
     rw [e0] at d1
     clear d9
     go_wp2_with (first | fail)
     go_loop [5] (fun v5 => ∃ m : Nat, v5 = .int .i64 m ∧ i ≤ m ∧ m < a0.size ∧ Aside0 (sk (dropL a0 (i + 1)) = sk (dropL a0 (m + 1)))) (fun v5 => a0.size - (intOf v5).toNat)
     case atStart => exact ⟨i, rfl, Nat.le_refl _, hk, ⟨rfl⟩⟩
     case round =>
      obtain ⟨m, rfl, hm1, hm2, HS⟩ := hrel
      have g1 : ∀ h : m + 1 < a0.size, ((a0[m + 1]'h).toNat : Int) = bt a0 ((m : Int) + 1) := fun h => bt_at a0 ((m + 1 : Nat) : Int) h
      by_cases hm3 : m + 1 < a0.size ∧ bt a0 ((m : Int) + 1) = 42
      ·obtain ⟨q1, q2⟩ := hm3
       have q3 : (((m : Int) + 1) < (a0.size : Int)) = True := eq_true (by omega)
       have HS2 := Aside0.mk (HS.out.trans (sk_hit a0 (m + 1) q1 q2))
       rw [q2] at g1
       go_wp2
       go_round
       case rel => exact ⟨m + 1, by go_num, by omega, by omega, HS2⟩
       case measure => simp [intOf]; omega
      ·have HS2 := Aside0.mk (HS.out.trans (sk_stop a0 (m + 1) hm3))
       have q0 : (m + 1 < a0.size ∧ (((m : Int) + 1) < (a0.size : Int)) = True ∧ (bt a0 ((m : Int) + 1) == 42) = false) ∨ (((m : Int) + 1) < (a0.size : Int)) = False := by
        by_cases h : m + 1 < a0.size
        ·exact .inl ⟨h, eq_true (by omega), beq_eq_false_iff_ne.2 (fun h2 => hm3 ⟨h, h2⟩)⟩
        ·exact .inr (eq_false (by omega))
       have HP := Aside0.mk (HC.out.star hk hc HS2.out (by omega) hm2)
       clear hm3 HS HS2
       by_cases him : i < m
       ·have p1 : ((i : Int) < (m : Int)) = True := eq_true (by omega)
        have p2 : (i < m) = True := eq_true him
        have HP2 := HP.out
        rw [if_pos (by omega)] at HP2
        have HP3 := Aside0.mk HP2
        clear HP HP2
        rcases q0 with ⟨q1, q2, q3⟩ | q2
        all_goals
         go_wp2_with (first | ((with_reducible refine gate_dst (N := 50) rfl ?_); refine wpList_buildTo rfl 64 #[(0, .const (.int .i64 1))] rfl (some 50) rfl (sgA ⟨1, 0, false, noS⟩) ?hf ?_; (case hf => (simp only [List.map_toArray, List.map_cons, List.map_nil]; exact sgB1))) | ((with_reducible refine gate_dst (N := 51) rfl ?_); refine wpList_oneSg rfl 57 64 (.tmp 50) rfl (some 51) rfl und sgInfo1 ⟨1, 0, false, noS⟩ rfl ?_) | ((with_reducible refine gate_builtin (b := .append) (xs := #[.tmp 49, .tmp 51]) rfl ?_); at_builtin; refine sgApp (w0 := w) rfl (.tmp 49) (.tmp 51) 57 64 rfl (some 52) rfl und sgInfo1 u4 (l.map codeSg) ⟨1, 0, false, noS⟩ rfl rfl HD.out hln.out ?_; intro v1 w1 he_; have HE := Aside0.mk he_; clear he_ HD))
         go_roundw
         case rel => exact ⟨m + 1, l ++ [Tok.star2], by first | rfl | go_num, ⟨HP3.out⟩, ⟨by rw [List.map_append]; exact HE.out⟩⟩
         case measure => simp [intOf]; omega
       ·have p1 : ((i : Int) < (m : Int)) = False := eq_false (by omega)
        have p2 : (i < m) = False := eq_false him
        have HP2 := HP.out
        rw [if_neg (by omega)] at HP2
        have HP3 := Aside0.mk HP2
        clear HP HP2
        rcases q0 with ⟨q1, q2, q3⟩ | q2
        all_goals
         go_wp2_with (first | ((with_reducible refine gate_dst (N := 54) rfl ?_); refine wpList_buildTo rfl 64 #[(0, .const (.int .i64 2))] rfl (some 54) rfl (sgA ⟨2, 0, false, noS⟩) ?hf ?_; (case hf => (simp only [List.map_toArray, List.map_cons, List.map_nil]; exact sgB2))) | ((with_reducible refine gate_dst (N := 55) rfl ?_); refine wpList_oneSg rfl 57 64 (.tmp 54) rfl (some 55) rfl und sgInfo1 ⟨2, 0, false, noS⟩ rfl ?_) | ((with_reducible refine gate_builtin (b := .append) (xs := #[.tmp 53, .tmp 55]) rfl ?_); at_builtin; refine sgApp (w0 := w) rfl (.tmp 53) (.tmp 55) 57 64 rfl (some 56) rfl und sgInfo1 u4 (l.map codeSg) ⟨2, 0, false, noS⟩ rfl rfl HD.out hln.out ?_; intro v1 w1 he_; have HE := Aside0.mk he_; clear he_ HD))
         go_roundw
         case rel => exact ⟨m + 1, l ++ [Tok.star], by first | rfl | go_num, ⟨HP3.out⟩, ⟨by rw [List.map_append]; exact HE.out⟩⟩
         case measure => simp [intOf]; omega
    ·have n1 : ((bt a0 (i : Int)) == 42) = false := beq_eq_false_iff_ne.2 hc
     have hc1 := hc
     clear hc
     by_cases hc : (bt a0 (i : Int)) = 63
     ·have e0 : (bt a0 (i : Int)) = 63 := hc
      rw [e0] at d1
      clear d9 n1
      go_wp2_with (first | ((with_reducible refine gate_dst (N := 60) rfl ?_); refine wpList_buildTo rfl 64 #[(0, .const (.int .i64 3))] rfl (some 60) rfl (sgA ⟨3, 0, false, noS⟩) ?hf ?_; (case hf => (simp only [List.map_toArray, List.map_cons, List.map_nil]; exact sgB3))) | ((with_reducible refine gate_dst (N := 61) rfl ?_); refine wpList_oneSg rfl 57 64 (.tmp 60) rfl (some 61) rfl und sgInfo1 ⟨3, 0, false, noS⟩ rfl ?_) | ((with_reducible refine gate_builtin (b := .append) (xs := #[.tmp 59, .tmp 61]) rfl ?_); at_builtin; refine sgApp (w0 := w) rfl (.tmp 59) (.tmp 61) 57 64 rfl (some 62) rfl und sgInfo1 u4 (l.map codeSg) ⟨3, 0, false, noS⟩ rfl rfl HD.out hln.out ?_; intro v1 w1 he_; have HE := Aside0.mk he_; clear he_ HD))
      go_roundw
      case rel => exact ⟨i + 1, l ++ [Tok.one], by first | rfl | go_num, ⟨HC.out.one hk hc⟩, ⟨by rw [List.map_append]; exact HE.out⟩⟩
      case measure => simp [intOf]; omega
     ·have n2 : ((bt a0 (i : Int)) == 63) = false := beq_eq_false_iff_ne.2 hc
      have hc2 := hc
      clear hc
      by_cases hc : (bt a0 (i : Int)) = 91
      ·have e0 : (bt a0 (i : Int)) = 91 := hc
       rw [e0] at d1
       clear d9 n1 n2
       have hcl : ∀ w, Calls Tryd.prog 69 #[.string a0, .int .i64 ((i : Int) + 1)] w (ClsPost a0 (cls0 (dropL a0 (i + 1))) w) := fun w => classAt_call a0 (i + 1) hs hk w
       cases h0 : cls0 (dropL a0 (i + 1)) with
       | none =>
        have hcl2 : ∀ w, Calls Tryd.prog 69 #[.string a0, .int .i64 ((i : Int) + 1)] w (ClsPost a0 none w) := fun w => by rw [← h0]; exact hcl w
        clear hcl
        go_wp2_with (first | (go_at_call 69; (with_reducible refine (hcl2 _).mono ?_); rintro e w2 ⟨hb, x, j, rfl⟩; have n0_ := Aside0.mk (SgRow.step HD.out hb); clear HD hb; have HD := n0_; clear n0_) | ((with_reducible refine gate_store (t := 64) (p := 7) rfl ?_); refine wpList_store_rowTo rfl 64 (.tmp 7) (.tmp 70) rfl rfl w2.heap.size (sgA x) rfl rfl 64 (sgA sgz) (blk_new w2 _) (sgS _) (sgA_same _ _) (sgA_one _) ?_))
        go_ret2
        exact SgsPost.none (below_step HD.out.1 (below_setRow (below_alloc (Below.refl _ _) _) (Nat.le_refl _) _)) (HC.out.nocls hk hc h0)
       | some tr =>
        obtain ⟨t, r⟩ := tr
        have hcl2 : ∀ w, Calls Tryd.prog 69 #[.string a0, .int .i64 ((i : Int) + 1)] w (ClsPost a0 (some (t, r)) w) := fun w => by rw [← h0]; exact hcl w
        clear hcl
        go_wp2_with (first | (go_at_call 69; (with_reducible refine (hcl2 _).mono ?_); rintro e w2 ⟨hb, j, hj, hle, rfl⟩; subst hj; have hjj := (HC.out.cls hk hc h0 hle).1; have HP := Aside0.mk (HC.out.cls hk hc h0 hle).2; have n0_ := Aside0.mk (SgBox.make (SgRow.step HD.out hb)); clear HD hb; have HX := n0_; clear n0_) | ((with_reducible refine gate_store (t := 64) (p := 7) rfl ?_); refine wpList_store_rowTo rfl 64 (.tmp 7) (.tmp 70) rfl rfl w2.heap.size (sgA (codeSg t)) rfl rfl 64 (sgA sgz) HX.out.blk (sgS _) (sgA_same _ _) (sgA_one _) ?_; have n0_ := Aside0.mk (SgBox.row HX.out (sgA (codeSg t))); clear HX; have HX := n0_; clear n0_; have HD := Aside0.mk HX.out.forget) | ((with_reducible refine gate_dst (N := 76) rfl ?_); refine wpList_load_row rfl 64 (.tmp 7) rfl w2.heap.size rfl 64 (sgA (codeSg t)) (0, 0) _ HX.out.blk hu1 rfl (sgS _) ?_) | ((with_reducible refine gate_dst (N := 77) rfl ?_); refine wpList_oneSg rfl 57 64 (.tmp 76) rfl (some 77) rfl und sgInfo1 (codeSg t) rfl ?_) | ((with_reducible refine gate_builtin (b := .append) (xs := #[.tmp 75, .tmp 77]) rfl ?_); at_builtin; refine sgApp (w0 := w) rfl (.tmp 75) (.tmp 77) 57 64 rfl (some 78) rfl und sgInfo1 u4 (l.map codeSg) (codeSg t) rfl rfl HD.out hln.out ?_; intro v1 w1 he_; have HE := Aside0.mk he_; clear he_ HD))
        go_roundw
        case rel => exact ⟨j, l ++ [t], by first | rfl | go_num, ⟨HP.out⟩, ⟨by rw [List.map_append]; exact HE.out⟩⟩
        case measure => simp [intOf]; omega
      ·have n3 : ((bt a0 (i : Int)) == 91) = false := beq_eq_false_iff_ne.2 hc
       have hc3 := hc
       clear hc
       by_cases hc : (bt a0 (i : Int)) = 92
       ·have e0 : (bt a0 (i : Int)) = 92 := hc
        rw [e0] at d1
        clear n1 n2 n3
        by_cases hk2 : i + 1 < a0.size
        ·have q1 : (((i : Int) + 1) == (a0.size : Int)) = false := beq_eq_false_iff_ne.2 (by omega)
         go_wp2_with (first | ((with_reducible refine gate_dst (N := 93) rfl ?_); refine wpList_buildTo rfl 64 #[(1, .tmp 92)] rfl (some 93) rfl (sgA ⟨0, bt a0 ((i : Int) + 1), false, noS⟩) ?hf ?_; (case hf => (simp only [List.map_toArray, List.map_cons, List.map_nil]; exact sgBc _))) | ((with_reducible refine gate_dst (N := 94) rfl ?_); refine wpList_oneSg rfl 57 64 (.tmp 93) rfl (some 94) rfl und sgInfo1 ⟨0, bt a0 ((i : Int) + 1), false, noS⟩ rfl ?_) | ((with_reducible refine gate_builtin (b := .append) (xs := #[.tmp 89, .tmp 94]) rfl ?_); at_builtin; refine sgApp (w0 := w) rfl (.tmp 89) (.tmp 94) 57 64 rfl (some 95) rfl und sgInfo1 u4 (l.map codeSg) ⟨0, bt a0 ((i : Int) + 1), false, noS⟩ rfl rfl HD.out hln.out ?_; intro v1 w1 he_; have HE := Aside0.mk he_; clear he_ HD))
         go_roundw
         case rel => exact ⟨i + 2, l ++ [Tok.lit (bt a0 ((i : Int) + 1))], by first | rfl | go_num, ⟨HC.out.esc hk hc hk2⟩, ⟨by rw [List.map_append]; exact HE.out⟩⟩
         case measure => simp [intOf]; omega
        ·have q1 : (((i : Int) + 1) == (a0.size : Int)) = true := beq_iff_eq.2 (by omega)
         go_wp2
         go_ret2
         exact SgsPost.none HD.out.1 (HC.out.noesc hk hc hk2)
       ·have n4 : ((bt a0 (i : Int)) == 92) = false := beq_eq_false_iff_ne.2 hc
        clear d9
        go_wp2_with (first | ((with_reducible refine gate_dst (N := 26) rfl ?_); refine wpList_buildTo rfl 64 #[(1, .tmp 25)] rfl (some 26) rfl (sgA ⟨0, bt a0 (i : Int), false, noS⟩) ?hf ?_; (case hf => (simp only [List.map_toArray, List.map_cons, List.map_nil]; exact sgBc _))) | ((with_reducible refine gate_dst (N := 27) rfl ?_); refine wpList_oneSg rfl 57 64 (.tmp 26) rfl (some 27) rfl und sgInfo1 ⟨0, bt a0 (i : Int), false, noS⟩ rfl ?_) | ((with_reducible refine gate_builtin (b := .append) (xs := #[.tmp 22, .tmp 27]) rfl ?_); at_builtin; refine sgApp (w0 := w) rfl (.tmp 22) (.tmp 27) 57 64 rfl (some 28) rfl und sgInfo1 u4 (l.map codeSg) ⟨0, bt a0 (i : Int), false, noS⟩ rfl rfl HD.out hln.out ?_; intro v1 w1 he_; have HE := Aside0.mk he_; clear he_ HD))
        go_roundw
        case rel => exact ⟨i + 1, l ++ [Tok.lit (bt a0 (i : Int))], by first | rfl | go_num, ⟨HC.out.lit hk hc1 hc2 hc3 hc⟩, ⟨by rw [List.map_append]; exact HE.out⟩⟩
        case measure => simp [intOf]; omega
   ·have d0 : ((i : Int) < (a0.size : Int)) = False := eq_false (by omega)
    go_wp2
    go_ret2
    exact SgsPost.some HD.out (HC.out.done hk)
 ·rw [if_neg h100]
  have c1 : ((100 : Int) < (a0.size : Int)) = True := eq_true (by omega)
  have c2 : (100 < a0.size) = True := eq_true (by omega)
  go_enter Tryd.func51, Tryd.ntmps51
  go_wp2
  go_ret2
  exact SgsPost.none (Below.refl _ _) rfl
end Go.Proofs.YtioehkeocddniaaDoor.PA
