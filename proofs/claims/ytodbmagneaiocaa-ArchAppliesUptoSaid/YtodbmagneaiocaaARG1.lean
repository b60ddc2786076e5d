/- Own texts and the print's words: PAx0 to PAfarchpathOf. -/
import Derived.Test.YtodbmagneaiocaaProg
import Derived.Below
import Derived.Deep.Draws
import Derived.Deep.AppendLies
import Derived.Maps.AppendAt
import Derived.OwnWalk
import Derived.Laws.BytesArg
import Derived.Laws.MakeOwn
import Derived.Laws.OwnMore
import Derived.Deep.OwnRows
import Derived.Tactics
import Derived.Lib.ConvBytes
import Derived.Laws.Slices
import Derived.WalkKit
import Derived.KernelRfl
import Derived.RowKit3
import Derived.Deep.LoopGhost
import Derived.Deep.QuietTactic
import Derived.BigQuiet
import Derived.WideLaws
import Derived.Deep.DeepCutAuto
import Derived.Deep.CutBlock
import Derived.Deep.RegionHeld3
import Derived.Laws.Rows
import Derived.Lib.AppendStr
import Derived.ArgAppend
import Derived.Laws.IdiomCopy
import Derived.OrdersHeld
import Derived.Laws.BitsLemmas
import Derived.RowKit
import Derived.Test.YtodbmagneaiocaaARWWords
import Derived.Test.YtodbmagneaiocaaARWLast
import Derived.Test.YtodbmagneaiocaaARWTab
import Derived.Test.YtodbmagneaiocaaARWFour
import Derived.Test.YtodbmagneaiocaaARWQPut
import Derived.Test.YtodbmagneaiocaaARWApart
import Derived.Test.YtodbmagneaiocaaARWArr
import Derived.Test.YtodbmagneaiocaaARWZeros
import Derived.Test.YtodbmagneaiocaaARWFoot
import Derived.Test.YtodbmagneaiocaaARWKept
import Derived.Test.YtodbmagneaiocaaARWShare
import Derived.Test.YtodbmagneaiocaaARWN
import Derived.Test.YtodbmagneaiocaaARWFootNe
import Derived.Test.YtodbmagneaiocaaARWAt
import Derived.Test.YtodbmagneaiocaaARWEqStruct
import Derived.Test.YtodbmagneaiocaaARWRepsOne
import Derived.Test.YtodbmagneaiocaaARWInv
import Derived.Test.YtodbmagneaiocaaARWInvWords
import Derived.Test.YtodbmagneaiocaaARWGuard
import Derived.Test.YtodbmagneaiocaaARWNEv
import Derived.Test.YtodbmagneaiocaaARWMore
import Derived.Laws.Cover1
import Derived.Lib.OthersKept
import Derived.Lib.Bytealg
import Derived.Lib.Join
import Derived.Lib.QuietBelow
import Derived.Shelf.SlSortCmp.InsertionK
import Derived.Laws.NewBlocks
import Derived.Outline
import Derived.Sort.Statements
import Derived.Deep.CutRange
import Derived.Great.BuildSlice
import Derived.WalkSpells
namespace Go.Proofs.Ytodbmagneaiocaa.PA
open Go.RowKit Go.Proofs.YtodbmagneaiocaaW.PrintWords Go.Proofs.YtodbmagneaiocaaW.PrintLast Go.Proofs.YtodbmagneaiocaaW.PrintMore
attribute [local go_sem] max2_int min2_int max_two min_two max_three min_three max_four min_four   -- for this text's walks alone
set_option linter.unusedVariables false
set_option linter.unusedSimpArgs false
def errW : Option Int → Value
 | none => .nilIface
 | some c => .iface 0 (.int .i64 c)
theorem errW_none : errW none = .nilIface := rfl
theorem errW_some (c : Int) : errW (some c) = .iface 0 (.int .i64 c) := rfl
theorem info9 : (Try.prog.info? 9).map (fun i => (i.zero, i.size, i.bytes)) = some (some (.string ⟨#[]⟩), 1, 16) := by kernel_rfl
theorem info28 : (Try.prog.info? 28).map (fun i => (i.zero, i.size, i.bytes)) = some (some (.agg #[(.string ⟨#[]⟩), (.int .i64 0)]), 2, 24) := by kernel_rfl
theorem info43 : (Try.prog.info? 43).map (fun i => (i.zero, i.size, i.bytes)) = some (some (.agg #[(.string ⟨#[]⟩), (.int .i64 0), (.int .i64 0), (.int .i64 0), (.int .i64 0), (.int .i64 0), (.int .i64 0), (.int .i64 0), (.string ⟨#[]⟩), (.string ⟨#[]⟩), (.int .i64 0)]), 11, 112) := by kernel_rfl
theorem info50 : (Try.prog.info? 50).map (fun i => (i.zero, i.size, i.bytes)) = some (some (.agg #[(.string ⟨#[]⟩), (.int .i64 0)]), 2, 24) := by kernel_rfl
structure S41 where
 f0 : Int
 f1 : Int
 f2 : Int
 f3 : Int
 f4 : Int
def z41 : S41 := ⟨(0 : Int), (0 : Int), (0 : Int), (0 : Int), (0 : Int)⟩
def k41 : Kd S41 := Kd.iso (Kd.pair (Kd.int .i64) (Kd.pair (Kd.int .i64) (Kd.pair (Kd.int .i64) (Kd.pair (Kd.int .i64) (Kd.int .i64))))) (fun x : S41 => (x.f0, x.f1, x.f2, x.f3, x.f4))
theorem k41_open {w : World} {x : S41} {cs : List Value} (h : k41.K w x cs) : cs = [.int .i64 x.f0, .int .i64 x.f1, .int .i64 x.f2, .int .i64 x.f3, .int .i64 x.f4] := by
 obtain ⟨_, _, rfl, rfl, ⟨_, _, rfl, rfl, ⟨_, _, rfl, rfl, ⟨_, _, rfl, rfl, rfl⟩⟩⟩⟩ := h
 exact rfl
theorem k41_openM {w : World} {base : Nat} {ok : Nat → Prop} {x : S41} {cs : List Value} (h : k41.M w base ok x cs) : cs = [.int .i64 x.f0, .int .i64 x.f1, .int .i64 x.f2, .int .i64 x.f3, .int .i64 x.f4] := by
 obtain ⟨_, _, rfl, rfl, ⟨_, _, rfl, rfl, ⟨_, _, rfl, rfl, ⟨_, _, rfl, rfl, rfl⟩⟩⟩⟩ := h
 exact rfl
theorem k41_mkM (w : World) (base : Nat) (ok : Nat → Prop) (x : S41)  : k41.M w base ok x [.int .i64 x.f0, .int .i64 x.f1, .int .i64 x.f2, .int .i64 x.f3, .int .i64 x.f4] := ⟨[.int .i64 x.f0], [.int .i64 x.f1, .int .i64 x.f2, .int .i64 x.f3, .int .i64 x.f4], rfl, rfl, ⟨[.int .i64 x.f1], [.int .i64 x.f2, .int .i64 x.f3, .int .i64 x.f4], rfl, rfl, ⟨[.int .i64 x.f2], [.int .i64 x.f3, .int .i64 x.f4], rfl, rfl, ⟨[.int .i64 x.f3], [.int .i64 x.f4], rfl, rfl, rfl⟩⟩⟩⟩
structure S43 where
 f0 : ByteArray
 f1 : Int
 f2 : Int
 f3 : S41
 f4 : ByteArray
 f5 : ByteArray
 f6 : Int
def z43 : S43 := ⟨(⟨#[]⟩ : ByteArray), (0 : Int), (0 : Int), z41, (⟨#[]⟩ : ByteArray), (⟨#[]⟩ : ByteArray), (0 : Int)⟩
def k43 : Kd S43 := Kd.iso (Kd.pair Kd.string (Kd.pair (Kd.int .i64) (Kd.pair (Kd.int .i64) (Kd.pair k41 (Kd.pair Kd.string (Kd.pair Kd.string (Kd.int .i64))))))) (fun x : S43 => (x.f0, x.f1, x.f2, x.f3, x.f4, x.f5, x.f6))
theorem k43_open {w : World} {x : S43} {cs : List Value} (h : k43.K w x cs) : cs = [.string x.f0, .int .i64 x.f1, .int .i64 x.f2, .int .i64 x.f3.f0, .int .i64 x.f3.f1, .int .i64 x.f3.f2, .int .i64 x.f3.f3, .int .i64 x.f3.f4, .string x.f4, .string x.f5, .int .i64 x.f6] := by
 obtain ⟨_, _, rfl, rfl, ⟨_, _, rfl, rfl, ⟨_, _, rfl, rfl, ⟨_, _, rfl, s3, ⟨_, _, rfl, rfl, ⟨_, _, rfl, rfl, rfl⟩⟩⟩⟩⟩⟩ := h
 obtain rfl := k41_open s3
 exact rfl
theorem k43_openM {w : World} {base : Nat} {ok : Nat → Prop} {x : S43} {cs : List Value} (h : k43.M w base ok x cs) : cs = [.string x.f0, .int .i64 x.f1, .int .i64 x.f2, .int .i64 x.f3.f0, .int .i64 x.f3.f1, .int .i64 x.f3.f2, .int .i64 x.f3.f3, .int .i64 x.f3.f4, .string x.f4, .string x.f5, .int .i64 x.f6] := by
 obtain ⟨_, _, rfl, rfl, ⟨_, _, rfl, rfl, ⟨_, _, rfl, rfl, ⟨_, _, rfl, s3, ⟨_, _, rfl, rfl, ⟨_, _, rfl, rfl, rfl⟩⟩⟩⟩⟩⟩ := h
 obtain rfl := k41_openM s3
 exact rfl
theorem k43_mkM (w : World) (base : Nat) (ok : Nat → Prop) (x : S43)  : k43.M w base ok x [.string x.f0, .int .i64 x.f1, .int .i64 x.f2, .int .i64 x.f3.f0, .int .i64 x.f3.f1, .int .i64 x.f3.f2, .int .i64 x.f3.f3, .int .i64 x.f3.f4, .string x.f4, .string x.f5, .int .i64 x.f6] := ⟨[.string x.f0], [.int .i64 x.f1, .int .i64 x.f2, .int .i64 x.f3.f0, .int .i64 x.f3.f1, .int .i64 x.f3.f2, .int .i64 x.f3.f3, .int .i64 x.f3.f4, .string x.f4, .string x.f5, .int .i64 x.f6], rfl, rfl, ⟨[.int .i64 x.f1], [.int .i64 x.f2, .int .i64 x.f3.f0, .int .i64 x.f3.f1, .int .i64 x.f3.f2, .int .i64 x.f3.f3, .int .i64 x.f3.f4, .string x.f4, .string x.f5, .int .i64 x.f6], rfl, rfl, ⟨[.int .i64 x.f2], [.int .i64 x.f3.f0, .int .i64 x.f3.f1, .int .i64 x.f3.f2, .int .i64 x.f3.f3, .int .i64 x.f3.f4, .string x.f4, .string x.f5, .int .i64 x.f6], rfl, rfl, ⟨[.int .i64 x.f3.f0, .int .i64 x.f3.f1, .int .i64 x.f3.f2, .int .i64 x.f3.f3, .int .i64 x.f3.f4], [.string x.f4, .string x.f5, .int .i64 x.f6], rfl, (k41_mkM w base ok x.f3 ), ⟨[.string x.f4], [.string x.f5, .int .i64 x.f6], rfl, rfl, ⟨[.string x.f5], [.int .i64 x.f6], rfl, rfl, rfl⟩⟩⟩⟩⟩⟩
def rd_T43 (xs : List S43) (i : Int) : S43 := xs.getD i.toNat z43
theorem at_T43 {w : World} {A : Option Addr} {n : Nat} {xs : List S43} (h : Kd.C k43 w A n xs) (i : Int) (h0 : 0 ≤ i) (h1 : i < n) : ∃ ad , A = some ad ∧ w.cell? (ad.add (i.toNat * 11)) = some (.string (rd_T43 xs i).f0) ∧ w.cell? ⟨(ad.add (i.toNat * 11)).block, (ad.add (i.toNat * 11)).off + 1, none⟩ = some (.int .i64 (rd_T43 xs i).f1) ∧ w.cell? ⟨(ad.add (i.toNat * 11)).block, (ad.add (i.toNat * 11)).off + 2, none⟩ = some (.int .i64 (rd_T43 xs i).f2) ∧ w.cell? ⟨(ad.add (i.toNat * 11)).block, (ad.add (i.toNat * 11)).off + 3, none⟩ = some (.int .i64 (rd_T43 xs i).f3.f0) ∧ w.cell? ⟨(ad.add (i.toNat * 11)).block, (ad.add (i.toNat * 11)).off + 4, none⟩ = some (.int .i64 (rd_T43 xs i).f3.f1) ∧ w.cell? ⟨(ad.add (i.toNat * 11)).block, (ad.add (i.toNat * 11)).off + 5, none⟩ = some (.int .i64 (rd_T43 xs i).f3.f2) ∧ w.cell? ⟨(ad.add (i.toNat * 11)).block, (ad.add (i.toNat * 11)).off + 6, none⟩ = some (.int .i64 (rd_T43 xs i).f3.f3) ∧ w.cell? ⟨(ad.add (i.toNat * 11)).block, (ad.add (i.toNat * 11)).off + 7, none⟩ = some (.int .i64 (rd_T43 xs i).f3.f4) ∧ w.cell? ⟨(ad.add (i.toNat * 11)).block, (ad.add (i.toNat * 11)).off + 8, none⟩ = some (.string (rd_T43 xs i).f4) ∧ w.cell? ⟨(ad.add (i.toNat * 11)).block, (ad.add (i.toNat * 11)).off + 9, none⟩ = some (.string (rd_T43 xs i).f5) ∧ w.cell? ⟨(ad.add (i.toNat * 11)).block, (ad.add (i.toNat * 11)).off + 10, none⟩ = some (.int .i64 (rd_T43 xs i).f6) := by
 obtain ⟨ad, c, e, _, hK, hc0⟩ := Kd.C_get h z43 i h0 h1
 have hc : ∀ j u, c[j]? = some u → w.cell? (ad.add (i.toNat * 11 + j)) = some u := hc0
 obtain rfl := k43_open hK
 exact ⟨ad, e, hc 0 _ rfl, by rw [← add_field _ _ 1 (by omega)]; exact hc 1 _ rfl, by rw [← add_field _ _ 2 (by omega)]; exact hc 2 _ rfl, by rw [← add_field _ _ 3 (by omega)]; exact hc 3 _ rfl, by rw [← add_field _ _ 4 (by omega)]; exact hc 4 _ rfl, by rw [← add_field _ _ 5 (by omega)]; exact hc 5 _ rfl, by rw [← add_field _ _ 6 (by omega)]; exact hc 6 _ rfl, by rw [← add_field _ _ 7 (by omega)]; exact hc 7 _ rfl, by rw [← add_field _ _ 8 (by omega)]; exact hc 8 _ rfl, by rw [← add_field _ _ 9 (by omega)]; exact hc 9 _ rfl, by rw [← add_field _ _ 10 (by omega)]; exact hc 10 _ rfl⟩
structure S28 where
 f0 : ByteArray
 f1 : Int
def z28 : S28 := ⟨(⟨#[]⟩ : ByteArray), (0 : Int)⟩
def k28 : Kd S28 := Kd.iso (Kd.pair Kd.string (Kd.int .i64)) (fun x : S28 => (x.f0, x.f1))
theorem k28_open {w : World} {x : S28} {cs : List Value} (h : k28.K w x cs) : cs = [.string x.f0, .int .i64 x.f1] := by
 obtain ⟨_, _, rfl, rfl, rfl⟩ := h
 exact rfl
theorem k28_mkM (w : World) (base : Nat) (ok : Nat → Prop) (x : S28)  : k28.M w base ok x [.string x.f0, .int .i64 x.f1] := ⟨[.string x.f0], [.int .i64 x.f1], rfl, rfl, rfl⟩
def rd_T28 (xs : List S28) (i : Int) : S28 := xs.getD i.toNat z28
theorem at_T28 {w : World} {A : Option Addr} {n : Nat} {xs : List S28} (h : Kd.C k28 w A n xs) (i : Int) (h0 : 0 ≤ i) (h1 : i < n) : ∃ ad , A = some ad ∧ w.cell? (ad.add (i.toNat * 2)) = some (.string (rd_T28 xs i).f0) ∧ w.cell? ⟨(ad.add (i.toNat * 2)).block, (ad.add (i.toNat * 2)).off + 1, none⟩ = some (.int .i64 (rd_T28 xs i).f1) := by
 obtain ⟨ad, c, e, _, hK, hc0⟩ := Kd.C_get h z28 i h0 h1
 have hc : ∀ j u, c[j]? = some u → w.cell? (ad.add (i.toNat * 2 + j)) = some u := hc0
 obtain rfl := k28_open hK
 exact ⟨ad, e, hc 0 _ rfl, by rw [← add_field _ _ 1 (by omega)]; exact hc 1 _ rfl⟩
structure S50 where
 f0 : ByteArray
 f1 : Int
def z50 : S50 := ⟨(⟨#[]⟩ : ByteArray), (0 : Int)⟩
def k50 : Kd S50 := Kd.iso (Kd.pair Kd.string (Kd.int .i64)) (fun x : S50 => (x.f0, x.f1))
theorem k50_open {w : World} {x : S50} {cs : List Value} (h : k50.K w x cs) : cs = [.string x.f0, .int .i64 x.f1] := by
 obtain ⟨_, _, rfl, rfl, rfl⟩ := h
 exact rfl
theorem k50_mkM (w : World) (base : Nat) (ok : Nat → Prop) (x : S50)  : k50.M w base ok x [.string x.f0, .int .i64 x.f1] := ⟨[.string x.f0], [.int .i64 x.f1], rfl, rfl, rfl⟩
def rd_T50 (xs : List S50) (i : Int) : S50 := xs.getD i.toNat z50
theorem at_T50 {w : World} {A : Option Addr} {n : Nat} {xs : List S50} (h : Kd.C k50 w A n xs) (i : Int) (h0 : 0 ≤ i) (h1 : i < n) : ∃ ad , A = some ad ∧ w.cell? (ad.add (i.toNat * 2)) = some (.string (rd_T50 xs i).f0) ∧ w.cell? ⟨(ad.add (i.toNat * 2)).block, (ad.add (i.toNat * 2)).off + 1, none⟩ = some (.int .i64 (rd_T50 xs i).f1) := by
 obtain ⟨ad, c, e, _, hK, hc0⟩ := Kd.C_get h z50 i h0 h1
 have hc : ∀ j u, c[j]? = some u → w.cell? (ad.add (i.toNat * 2 + j)) = some u := hc0
 obtain rfl := k50_open hK
 exact ⟨ad, e, hc 0 _ rfl, by rw [← add_field _ _ 1 (by omega)]; exact hc 1 _ rfl⟩
end Go.Proofs.Ytodbmagneaiocaa.PA
namespace Go.Proofs.Ytodbmagneaiocaa.PA
open Go.RowKit Go.Proofs.YtodbmagneaiocaaW.PrintWords Go.Proofs.YtodbmagneaiocaaW.PrintLast Go.Proofs.YtodbmagneaiocaaW.PrintMore
attribute [local go_sem] max2_int min2_int max_two min_two max_three min_three max_four min_four   -- for this text's walks alone
set_option linter.unusedVariables false
set_option linter.unusedSimpArgs false
def remoralaw43_few.f (l0 : List (S43)) (l1 : List (S43)) : Option (Bool) := if (l0.length : Int) ≤ 60 then (some (decide ((l1.length : Int) ≤ 60))) else (some false)
set_option maxHeartbeats 8000000 in
set_option maxRecDepth 100000 in
theorem remoralaw43_few.calls (A0 : Option Addr) (c0 : Nat) (l0 : List (S43)) (A1 : Option Addr) (c1 : Nat) (l1 : List (S43)) (r : Bool) (w : World) (hr0 : Kd.C k43 w A0 l0.length l0) (hc0 : l0.length ≤ c0) (hr1 : Kd.C k43 w A1 l1.length l1) (hc1 : l1.length ≤ c1) (h : remoralaw43_few.f l0 l1 = some r) :
  Calls Try.prog 9 #[.slice A0 l0.length c0, .slice A1 l1.length c1] w fun e w' => e = .returned (.bool r) ∧ Drawn0 w w' := by
 have HR0 := Aside0.mk hr0
 have HC0 := Aside0.mk hc0
 clear hr0 hc0
 have HR1 := Aside0.mk hr1
 have HC1 := Aside0.mk hc1
 clear hr1 hc1
 have H : (if (l0.length : Int) ≤ 60 then (some (decide ((l1.length : Int) ≤ 60))) else (some false)) = some r := h
 clear h
 by_cases c3 : (l0.length : Int) ≤ 60
 ·rw [if_pos c3] at H
  have c3b0 : decide ((l0.length : Int) ≤ 60) = true := decide_eq_true c3
  have c3b1 : decide (l0.length ≤ 60) = true := decide_eq_true (by omega)
  clear c3
  obtain rfl := Option.some.inj H
  go_enter Try.func9, Try.ntmps9
  go_wp2
  go_ret
  exact ⟨by first | rfl | (simp; done) | (simp [*]; done), by repeat (first | exact Drawn0.refl _ | apply Drawn0.step)⟩
 ·rw [if_neg c3] at H
  have c3b0 : decide ((l0.length : Int) ≤ 60) = false := decide_eq_false c3
  have c3b1 : decide (l0.length ≤ 60) = false := decide_eq_false (by omega)
  clear c3
  obtain rfl := Option.some.inj H
  go_enter Try.func9, Try.ntmps9
  go_wp2
  go_ret
  exact ⟨by first | rfl | (simp; done) | (simp [*]; done), by repeat (first | exact Drawn0.refl _ | apply Drawn0.step)⟩
end Go.Proofs.Ytodbmagneaiocaa.PA
namespace Go.Proofs.Ytodbmagneaiocaa.PA
open Go.RowKit Go.Proofs.YtodbmagneaiocaaW.PrintWords Go.Proofs.YtodbmagneaiocaaW.PrintLast Go.Proofs.YtodbmagneaiocaaW.PrintMore
attribute [local go_sem] max2_int min2_int max_two min_two max_three min_three max_four min_four
set_option linter.unusedVariables false
set_option linter.unusedSimpArgs false
def cmp_Compare_string.f (a0 : ByteArray) (a1 : ByteArray) : Option Int := some (if Op.bytesLess a0.toList a1.toList = true then (-1) else if (a0.toList == a1.toList) = true then 0 else 1)
set_option maxHeartbeats 1000000 in
set_option maxRecDepth 100000 in
theorem cmp_nan (a : ByteArray) (w : World) : Calls Try.prog 45 #[.string a] w fun e w' => e = .returned (.bool false) ∧ w' = w := by
 have q : (a.toList != a.toList) = false := bne_self_eq_false _
 go_enter Try.func45, Try.ntmps45
 go_wp2
 go_ret
 exact ⟨rfl, rfl⟩
set_option maxHeartbeats 1000000 in
set_option maxRecDepth 100000 in
theorem cmp_Compare_string.calls (a0 : ByteArray) (a1 : ByteArray) (r : Int) (w : World) (h : cmp_Compare_string.f a0 a1 = some r) :
  Calls Try.prog 43 #[.string a0, .string a1] w fun e w' => e = .returned (.int .i64 r) ∧ Drawn0 w w' := by
 obtain rfl := Option.some.inj h
 clear h
 cases h1 : Op.bytesLess a0.toList a1.toList with
 | true =>
  go_enter Try.func43, Try.ntmps43
  go_wp2_with (go_at_call 45; refine (cmp_nan _ _).mono ?_; rintro e w' ⟨rfl, rfl⟩)
  go_ret
  exact ⟨rfl, Drawn0.refl _⟩
 | false =>
  cases h2 : (a0.toList == a1.toList) with
  | true =>
   go_enter Try.func43, Try.ntmps43
   go_wp2_with (go_at_call 45; refine (cmp_nan _ _).mono ?_; rintro e w' ⟨rfl, rfl⟩)
   go_ret
   exact ⟨rfl, Drawn0.refl _⟩
  | false =>
   go_enter Try.func43, Try.ntmps43
   go_wp2_with (go_at_call 45; refine (cmp_nan _ _).mono ?_; rintro e w' ⟨rfl, rfl⟩)
   go_ret
   exact ⟨rfl, Drawn0.refl _⟩
end Go.Proofs.Ytodbmagneaiocaa.PA
namespace Go.Proofs.Ytodbmagneaiocaa.PA
open Go.RowKit Go.Proofs.YtodbmagneaiocaaW.PrintWords Go.Proofs.YtodbmagneaiocaaW.PrintLast Go.Proofs.YtodbmagneaiocaaW.PrintMore
attribute [local go_sem] max2_int min2_int max_two min_two max_three min_three max_four min_four   -- for this text's walks alone
set_option linter.unusedVariables false
set_option linter.unusedSimpArgs false
def slices_Compare_string_string.l0 : Nat → List ByteArray → List ByteArray → List ByteArray → Int → Int → Option (Int)
 | 0, _, _, _, _, _ => none
 | k + 1, x0, x1, x9, x10, x11 => if x11 < x10 then (if 0 ≤ x11 then (if x11 < (x9.length : Int) then (if x11 ≥ (x1.length : Int) then (some 1) else (if x11 < (x1.length : Int) then ((cmp_Compare_string.f (rdOf ByteArray.empty x9 x11) (rdOf ByteArray.empty x1 x11)).bind fun t103 => (if t103 = 0 then (slices_Compare_string_string.l0 k x0 x1 x9 x10 (wrap64 (x11 + 1))) else (some t103))) else (none))) else (none)) else (none)) else (if (x0.length : Int) < (x1.length : Int) then (some (-1)) else (some 0))
def slices_Compare_string_string.f (k : Nat) (l0 : List ByteArray) (l1 : List ByteArray) : Option (Int) := slices_Compare_string_string.l0 k l0 l1 l0 (l0.length : Int) 0
set_option maxHeartbeats 8000000 in
set_option maxRecDepth 100000 in
theorem slices_Compare_string_string.calls (k : Nat) (A0 : Option Addr) (c0 : Nat) (l0 : List ByteArray) (A1 : Option Addr) (c1 : Nat) (l1 : List ByteArray) (r : Int) (w : World) (hr0 : Kd.C Kd.string w A0 l0.length l0) (hc0 : l0.length ≤ c0) (hr1 : Kd.C Kd.string w A1 l1.length l1) (hc1 : l1.length ≤ c1) (h : slices_Compare_string_string.f k l0 l1 = some r) :
  Calls Try.prog 37 #[.slice A0 l0.length c0, .slice A1 l1.length c1] w fun e w' => e = .returned (.int .i64 r) ∧ Drawn0 w w' := by
 have HR0 := Aside0.mk hr0
 have HC0 := Aside0.mk hc0
 clear hr0 hc0
 have HR1 := Aside0.mk hr1
 have HC1 := Aside0.mk hc1
 clear hr1 hc1
 have H : (slices_Compare_string_string.l0 k l0 l1 l0 (l0.length : Int) 0) = some r := h
 clear h
 have H' := Aside0.mk H
 clear H
 go_enter Try.func37, Try.ntmps37
 go_wp2
 go_loopg [11] k (fun kq v11 w' => ∃ (x11_1 : Int), v11 = .int .i64 x11_1 ∧ Aside0 (slices_Compare_string_string.l0 kq l0 l1 l0 (l0.length : Int) x11_1 = some r) ∧ Aside0 (kq ≤ k) ∧ Drawn0 w w')
 case atStart => exact ⟨(0), (by first | rfl | (simp; done) | (simp [*]; done)), H', ⟨Nat.le_refl _⟩, by repeat (first | exact Drawn0.refl _ | apply Drawn0.step)⟩
 case round =>
  clear H'
  try clear c1
  try clear p2
  obtain ⟨x11_1, rfl, HA, HK1, ⟨m1, rfl⟩⟩ := hrel
  cases gk with
  | zero => exact absurd HA.out (by simp [slices_Compare_string_string.l0])
  | succ k1 =>
   have H := HA.out
   clear HA
   simp only [slices_Compare_string_string.l0] at H
   by_cases c3 : x11_1 < (l0.length : Int)
   ·rw [if_pos c3] at H
    have c3b0 : decide (x11_1 < (l0.length : Int)) = true := decide_eq_true c3
    clear c3
    by_cases c4 : 0 ≤ x11_1
    ·rw [if_pos c4] at H
     have c4b0 : decide (0 ≤ x11_1) = true := decide_eq_true c4
     clear c4
     by_cases c5 : x11_1 < (l0.length : Int)
     ·rw [if_pos c5] at H
      have c5b0 : decide (x11_1 < (l0.length : Int)) = true := decide_eq_true c5
      clear c5
      by_cases c6 : x11_1 ≥ (l1.length : Int)
      ·rw [if_pos c6] at H
       have c6b0 : decide ((l1.length : Int) ≤ x11_1) = true := decide_eq_true c6
       clear c6
       obtain rfl := Option.some.inj H
       have p101 : 0 ≤ (x11_1 : Int) := of_decide_eq_true (by first | (with_reducible assumption) | assumption)
       have q101 : x11_1 < (l0.length : Int) := of_decide_eq_true (by first | (with_reducible assumption) | assumption)
       obtain ⟨ad101, e101, hx101_0⟩ := Kd.at_string HR0.out x11_1 p101 q101
       cases e101
       replace p101 := eq_true p101
       replace q101 := eq_true q101
       go_wp2
       go_ret
       exact ⟨by first | rfl | (simp; done) | (simp [*]; done), by repeat (first | exact Drawn0.refl _ | apply Drawn0.step)⟩
      ·rw [if_neg c6] at H
       have c6b0 : decide ((l1.length : Int) ≤ x11_1) = false := decide_eq_false c6
       clear c6
       by_cases c7 : x11_1 < (l1.length : Int)
       ·rw [if_pos c7] at H
        have c7b0 : decide (x11_1 < (l1.length : Int)) = true := decide_eq_true c7
        clear c7
        replace H := Option.bind_eq_some_iff.mp H
        obtain ⟨t103, A80, H⟩ := H
        replace H : (if t103 = 0 then (slices_Compare_string_string.l0 k1 l0 l1 l0 (l0.length : Int) (wrap64 (x11_1 + 1))) else (some t103)) = some r := H
        have A8 := Aside0.mk A80
        clear A80
        by_cases c9 : t103 = 0
        ·rw [if_pos c9] at H
         have c9b0 : (t103 == 0) = true := beq_iff_eq.mpr c9
         have c9b1 : (t103 != 0) = false := bne_eq_false_iff_eq.mpr c9
         clear c9
         have H' := Aside0.mk H
         clear H
         have p101 : 0 ≤ (x11_1 : Int) := of_decide_eq_true (by first | (with_reducible assumption) | assumption)
         have q101 : x11_1 < (l0.length : Int) := of_decide_eq_true (by first | (with_reducible assumption) | assumption)
         obtain ⟨ad101, e101, hx101_0⟩ := Kd.at_string HR0.out x11_1 p101 q101
         cases e101
         replace p101 := eq_true p101
         replace q101 := eq_true q101
         have p102 : 0 ≤ (x11_1 : Int) := of_decide_eq_true (by first | (with_reducible assumption) | assumption)
         have q102 : x11_1 < (l1.length : Int) := of_decide_eq_true (by first | (with_reducible assumption) | assumption)
         obtain ⟨ad102, e102, hx102_0⟩ := Kd.at_string HR1.out x11_1 p102 q102
         cases e102
         replace p102 := eq_true p102
         replace q102 := eq_true q102
         go_wp2_with (first | ((with_reducible refine gate_callee (f := 43) rfl ?_); refine goesL_ (some 26) rfl rfl Try.func43 (by kernel_rfl) rfl #[.string (rdOf ByteArray.empty l0 x11_1), .string (rdOf ByteArray.empty l1 x11_1)] rfl (by (try simp only [List.map_toArray, List.map_cons, List.map_nil]); first | done | rfl | (simp only [List.length_drop, List.length_take]; rfl)) ?_; (with_reducible refine (cmp_Compare_string.calls (rdOf ByteArray.empty l0 x11_1) (rdOf ByteArray.empty l1 x11_1) t103 _ A8.out).mono ?_); rintro e w' ⟨rfl, ⟨nd, rfl⟩⟩; refine ⟨_, rfl, ?_⟩))
         go_roundg k1
         case measure => have := HK1.out; omega
         case rel => exact ⟨(wrap64 (x11_1 + 1)), (by first | rfl | (simp; done) | (simp [*]; done)), H', ⟨by have := HK1.out; omega⟩, by repeat (first | exact Drawn0.refl _ | apply Drawn0.step)⟩
        ·rw [if_neg c9] at H
         have c9b0 : (t103 == 0) = false := beq_eq_false_iff_ne.mpr c9
         have c9b1 : (t103 != 0) = true := bne_iff_ne.mpr c9
         obtain rfl := Option.some.inj H
         have p101 : 0 ≤ (x11_1 : Int) := of_decide_eq_true (by first | (with_reducible assumption) | assumption)
         have q101 : x11_1 < (l0.length : Int) := of_decide_eq_true (by first | (with_reducible assumption) | assumption)
         obtain ⟨ad101, e101, hx101_0⟩ := Kd.at_string HR0.out x11_1 p101 q101
         cases e101
         replace p101 := eq_true p101
         replace q101 := eq_true q101
         have p102 : 0 ≤ (x11_1 : Int) := of_decide_eq_true (by first | (with_reducible assumption) | assumption)
         have q102 : x11_1 < (l1.length : Int) := of_decide_eq_true (by first | (with_reducible assumption) | assumption)
         obtain ⟨ad102, e102, hx102_0⟩ := Kd.at_string HR1.out x11_1 p102 q102
         cases e102
         replace p102 := eq_true p102
         replace q102 := eq_true q102
         go_wp2_with (first | ((with_reducible refine gate_callee (f := 43) rfl ?_); refine goesL_ (some 26) rfl rfl Try.func43 (by kernel_rfl) rfl #[.string (rdOf ByteArray.empty l0 x11_1), .string (rdOf ByteArray.empty l1 x11_1)] rfl (by (try simp only [List.map_toArray, List.map_cons, List.map_nil]); first | done | rfl | (simp only [List.length_drop, List.length_take]; rfl)) ?_; (with_reducible refine (cmp_Compare_string.calls (rdOf ByteArray.empty l0 x11_1) (rdOf ByteArray.empty l1 x11_1) t103 _ A8.out).mono ?_); rintro e w' ⟨rfl, ⟨nd, rfl⟩⟩; refine ⟨_, rfl, ?_⟩))
         go_ret
         exact ⟨by first | rfl | (simp; done) | (simp [*]; done), by repeat (first | exact Drawn0.refl _ | apply Drawn0.step)⟩
       ·rw [if_neg c7] at H
        exact absurd H (by simp)
     ·rw [if_neg c5] at H
      exact absurd H (by simp)
    ·rw [if_neg c4] at H
     exact absurd H (by simp)
   ·rw [if_neg c3] at H
    have c3b0 : decide (x11_1 < (l0.length : Int)) = false := decide_eq_false c3
    clear c3
    by_cases c10 : (l0.length : Int) < (l1.length : Int)
    ·rw [if_pos c10] at H
     have c10b0 : decide ((l0.length : Int) < (l1.length : Int)) = true := decide_eq_true c10
     have c10b1 : decide (l0.length < l1.length) = true := decide_eq_true (Int.ofNat_lt.mp c10)
     clear c10
     obtain rfl := Option.some.inj H
     go_wp2
     go_ret
     exact ⟨by first | rfl | (simp; done) | (simp [*]; done), by repeat (first | exact Drawn0.refl _ | apply Drawn0.step)⟩
    ·rw [if_neg c10] at H
     have c10b0 : decide ((l0.length : Int) < (l1.length : Int)) = false := decide_eq_false c10
     have c10b1 : decide (l0.length < l1.length) = false := decide_eq_false (fun h => c10 (Int.ofNat_lt.mpr h))
     clear c10
     obtain rfl := Option.some.inj H
     go_wp2
     go_ret
     exact ⟨by first | rfl | (simp; done) | (simp [*]; done), by repeat (first | exact Drawn0.refl _ | apply Drawn0.step)⟩
end Go.Proofs.Ytodbmagneaiocaa.PA
namespace Go.Proofs.Ytodbmagneaiocaa.PA
open Go.RowKit Go.Proofs.YtodbmagneaiocaaW.PrintWords Go.Proofs.YtodbmagneaiocaaW.PrintLast Go.Proofs.YtodbmagneaiocaaW.PrintMore
attribute [local go_sem] max2_int min2_int max_two min_two max_three min_three max_four min_four
set_option linter.unusedVariables false
set_option linter.unusedSimpArgs false
theorem wr64 (x : Int) (h1 : -9223372036854775808 ≤ x) (h2 : x < 9223372036854775808) : wrap64 x = x := by
 unfold wrap64
 omega
def splitTo (s : ByteArray) : Nat → List ByteArray × Nat
 | 0 => ([], 0)
 | k + 1 => if bt s (k : Int) = 47 then ((splitTo s k).1 ++ [s.extract (splitTo s k).2 k], k + 1) else splitTo s k
def splitL (s : ByteArray) : List ByteArray := if s.size = 0 then [] else (splitTo s s.size).1 ++ [s.extract (splitTo s s.size).2 s.size]
theorem splitTo_hit (s : ByteArray) (k : Nat) (h : bt s (k : Int) = 47) : splitTo s (k + 1) = ((splitTo s k).1 ++ [s.extract (splitTo s k).2 k], k + 1) := by
 rw [splitTo, if_pos h]
theorem splitTo_miss (s : ByteArray) (k : Nat) (h : ¬ bt s (k : Int) = 47) : splitTo s (k + 1) = splitTo s k := by
 rw [splitTo, if_neg h]
theorem splitTo_le (s : ByteArray) : ∀ k, (splitTo s k).2 ≤ k
 | 0 => Nat.le_refl _
 | k + 1 => by
  have := splitTo_le s k
  unfold splitTo
  split
  ·exact Nat.le_refl _
  ·omega
theorem splitTo_len (s : ByteArray) : ∀ k, (splitTo s k).1.length ≤ k
 | 0 => Nat.le_refl _
 | k + 1 => by
  have := splitTo_len s k
  unfold splitTo
  split
  ·simp
   omega
  ·omega
theorem splitTo_skip (s : ByteArray) (p : Nat) : ∀ m, (∀ j, j < m → ¬ bt s ((p + j : Nat) : Int) = 47) → splitTo s (p + m) = splitTo s p
 | 0, _ => rfl
 | m + 1, h => by
  rw [← Nat.add_assoc, splitTo_miss s (p + m) (h m (by omega))]
  exact splitTo_skip s p m (fun j hj => h j (by omega))
theorem bt_get (s : ByteArray) (k : Nat) (h : k < s.size) : bt s (k : Int) = ((s.get! k).toNat : Int) := by
 have e : s.get! k = s[k]'h := by
  simp [ByteArray.get!, getElem!_pos, h]
  rfl
 rw [e, bt, dif_pos (by simpa using h)]
 rfl
theorem dec47 (s : ByteArray) (p : Nat) (h : p < s.size) : 1 ≤ (Utf8.decode s p).2 ∧ p + (Utf8.decode s p).2 ≤ s.size ∧ (Utf8.decode s p).1 < 4294967296 ∧ (bt s (p : Int) = 47 → (Utf8.decode s p) = (47, 1)) ∧ (¬ bt s (p : Int) = 47 → ¬ (Utf8.decode s p).1 = 47 ∧ splitTo s (p + (Utf8.decode s p).2) = splitTo s p) := by
 have hb := bt_get s p h
 have key : 1 ≤ (Utf8.decode s p).2 ∧ p + (Utf8.decode s p).2 ≤ s.size ∧ (Utf8.decode s p).1 < 4294967296 ∧ ((s.get! p).toNat = 47 → (Utf8.decode s p) = (47, 1)) ∧ (¬ (s.get! p).toNat = 47 → ¬ (Utf8.decode s p).1 = 47 ∧ ∀ j, 1 ≤ j → j < (Utf8.decode s p).2 → p + j < s.size ∧ ¬ (s.get! (p + j)).toNat = 47) := by
  have l0 : (s.get! (p + 0)).toNat < 256 := UInt8.toNat_lt _
  have l1 : (s.get! (p + 1)).toNat < 256 := UInt8.toNat_lt _
  have l2 : (s.get! (p + 2)).toNat < 256 := UInt8.toNat_lt _
  have l3 : (s.get! (p + 3)).toNat < 256 := UInt8.toNat_lt _
  have z : s.get! p = s.get! (p + 0) := rfl
  have r : Utf8.runeError = 65533 := rfl
  rw [z]
  have J : ∀ (n j : Nat), 1 ≤ j → j < n → n ≤ 4 → j = 1 ∨ j = 2 ∨ j = 3 := by omega
  unfold Utf8.decode
  simp only [Bool.and_eq_true, decide_eq_true_eq, beq_iff_eq]
  repeat' split
  all_goals first
   | (refine ⟨by dsimp only; omega, by dsimp only; omega, by dsimp only; omega, fun hh => by first | omega | (rw [hh]; done) | (exact absurd hh (by omega)), fun hh => ⟨by dsimp only; omega, fun j hj hj2 => ?_⟩⟩; dsimp only at hj2; omega)
   | (refine ⟨by dsimp only; omega, by dsimp only; omega, by dsimp only; omega, fun hh => by first | omega | (rw [hh]; done) | (exact absurd hh (by omega)), fun hh => ⟨by dsimp only; omega, fun j hj hj2 => ?_⟩⟩; dsimp only at hj2; rcases J _ j hj hj2 (by omega) with rfl | rfl | rfl <;> omega)
 obtain ⟨k1, k2, k3, k4, k5⟩ := key
 refine ⟨k1, k2, k3, fun hh => k4 (by omega), fun hh => ?_⟩
 obtain ⟨m1, m2⟩ := k5 (by omega)
 refine ⟨m1, splitTo_skip s p _ (fun j hj => ?_)⟩
 cases j with
 | zero => exact hh
 | succ j =>
  obtain ⟨q1, q2⟩ := m2 (j + 1) (by omega) hj
  rw [bt_get s _ q1]
  omega
end Go.Proofs.Ytodbmagneaiocaa.PA
namespace Go.Proofs.Ytodbmagneaiocaa.PA
open Go.RowKit Go.Proofs.YtodbmagneaiocaaW.PrintWords Go.Proofs.YtodbmagneaiocaaW.PrintLast Go.Proofs.YtodbmagneaiocaaW.PrintMore
attribute [local go_sem] max2_int min2_int max_two min_two max_three min_three max_four min_four
set_option linter.unusedVariables false
set_option linter.unusedSimpArgs false
def path_Split.f (a0 : ByteArray) : Option (List ByteArray) := if a0.size < 4398046511104 then some (splitL a0) else none
def SPrun (s : ByteArray) (w0 wr : World) (v : Value) (l : List ByteArray) (pos : Nat) : Prop :=
 Below w0.heap.size w0 wr ∧ wr.heap[w0.heap.size]? = some (.stringIter s pos) ∧ Kd.R Kd.string 9 wr w0.heap.size (fun k => w0.heap.size < k) v l
theorem iter_pos {w : World} {k : Nat} {s : ByteArray} {p : Nat} (h : w.heap[k]? = some (.stringIter s p)) : w.iterPos k = p := by simp [World.iterPos, h]
theorem SPrun.start (s : ByteArray) (w : World) : SPrun s w (w.iter s 0) (.slice none 0 0) [] 0 :=
 ⟨below_alloc (Below.refl _ _) _, World.iter_heap w s 0, Kd.R_nil _ _ _ _ _⟩
theorem SPrun.move {s : ByteArray} {w0 wr : World} {v : Value} {l : List ByteArray} {pos : Nat} (h : SPrun s w0 wr v l pos) (pos' : Nat) : SPrun s w0 (wr.iterAt w0.heap.size s pos') v l pos' :=
 ⟨Lib.below_iterAt h.1 (Nat.le_refl _) s pos', Lib.iterAt_heap wr _ s pos pos' h.2.1, Kd.R_move h.2.2 (fun k hk => Lib.iterAt_other wr _ k s pos' (by omega))⟩
theorem SPrun.more {s : ByteArray} {w0 wr w1 : World} {v v1 : Value} {l l1 : List ByteArray} {pos : Nat} (h : SPrun s w0 wr v l pos) (ho : Kd.R Kd.string 9 w1 w0.heap.size (fun k => w0.heap.size < k) v1 l1) (hb : Below w0.heap.size w0 w1) (hg : wr.grownBy w1 v.ownBlock) : SPrun s w0 w1 v1 l1 pos := by
 refine ⟨hb, ?_, ho⟩
 have hlt := blk_lt h.2.1
 have hne : some w0.heap.size ≠ v.ownBlock := by
  intro he
  exact Nat.lt_irrefl _ (h.2.2.1 _ he.symm)
 rw [← h.2.1]
 exact hg.block _ hlt hne
set_option maxHeartbeats 2000000 in
set_option maxRecDepth 100000 in
theorem path_Split.calls (a0 : ByteArray) (r : List ByteArray) (w : World) (h : path_Split.f a0 = some r) :
  Calls Try.prog 38 #[.string a0] w fun e w' => ∃ v0_ : Value, e = .returned (v0_) ∧ Kd.R Kd.string 9 w' w.heap.size (fun _ => True) v0_ r ∧ Below w.heap.size w w' := by
 unfold path_Split.f at h
 by_cases hs : a0.size < 4398046511104
 ·rw [if_pos hs] at h
  obtain rfl := Option.some.inj h
  clear h
  by_cases c2 : a0.toList = ([] : List UInt8)
  ·have c2b : (a0.toList == ([] : List UInt8)) = true := beq_iff_eq.mpr c2
   have hz : a0.size = 0 := by
    have h1 := congrArg List.length c2
    rw [ByteArray.toList_eq, data_length] at h1
    exact h1
   have e : splitL a0 = [] := by rw [splitL, if_pos hz]
   rw [e]
   go_enter Try.func38, Try.ntmps38
   go_wp2
   go_ret
   exact ⟨_, rfl, Kd.R_nil _ _ _ _ _, Below.refl _ _⟩
  ·have c2b : (a0.toList == ([] : List UInt8)) = false := beq_eq_false_iff_ne.mpr c2
   go_enter Try.func38, Try.ntmps38
   go_wp2
   go_loopw [3, 4] (fun v3 v4 wr => ∃ pos : Nat, pos ≤ a0.size ∧ v4 = .int .i64 (splitTo a0 pos).2 ∧ Aside0 (SPrun a0 w wr v3 (splitTo a0 pos).1 pos)) (fun _ _ wr => a0.size - wr.iterPos w.heap.size)
   case atStart => exact ⟨0, by omega, rfl, ⟨SPrun.start a0 w⟩⟩
   case round =>
    obtain ⟨pos, hp, rfl, HS⟩ := hrel
    have hfle := splitTo_le a0 pos
    have hlen := splitTo_len a0 pos
    have f0 : (0 ≤ ((splitTo a0 pos).2 : Int)) = True := eq_true (by omega)
    have f1 : (((splitTo a0 pos).2 : Int) ≤ (pos : Int)) = True := eq_true (by omega)
    have f2 : ((pos : Int) ≤ (a0.size : Int)) = True := eq_true (by omega)
    have f3 : (((splitTo a0 pos).2 : Int) ≤ (a0.size : Int)) = True := eq_true (by omega)
    have hpos0 := iter_pos HS.out.2.1
    by_cases hp2 : pos < a0.size
    ·have hnx := fun ty => Lib.run_next_any_at (P := Try.prog) wr w.heap.size a0 pos ty HS.out.2.1 hp2
     obtain ⟨d1, d2, d3, d4, d5⟩ := dec47 a0 pos hp2
     by_cases hb : bt a0 (pos : Int) = 47
     ·have e := d4 hb
      rw [e] at hnx
      have HM := Aside0.mk (HS.out.move (pos + 1))
      have hh := splitTo_hit a0 pos hb
      clear HS d1 d2 d3 d4 d5 e
      go_wp2_with (first | ((with_reducible refine gate_builtin (b := .append) (xs := #[.tmp 17, .tmp 22]) rfl ?_); at_builtin; refine Kd.R_append Kd.string (w0 := w) w.heap.size rfl (.tmp 17) (.tmp 22) 51 9 (.string ⟨#[]⟩) 16 rfl Try.underlying51 info9 rfl (by decide) (by omega) u3 (splitTo a0 pos).1 (a0.extract (splitTo a0 pos).2 pos) [.string (a0.extract (splitTo a0 pos).2 pos)] (fun k => w.heap.size < k) (fun _ => False) rfl rfl rfl (fun _ hk => hk.elim) (fun k hk => Nat.lt_of_lt_of_le (blk_lt HM.out.2.1) hk) HM.out.2.2 HM.out.1 (below_size HM.out.1) (by omega) ?_; intro v1 w1 ho hb1 hg hat; have HN := Aside0.mk (HM.out.more ho hb1 hg); clear ho hb1 hg hat))
      go_roundw
      case rel => exact ⟨pos + 1, by omega, by rw [hh]; rfl, ⟨by rw [hh]; exact HN.out⟩⟩
      case measure => rw [iter_pos HN.out.2.1, hpos0]; omega
     ·obtain ⟨e1, e2⟩ := d5 hb
      have HM := Aside0.mk (HS.out.move (pos + (Utf8.decode a0 pos).2))
      clear HS d4 d5
      generalize (Utf8.decode a0 pos).1 = ru at *
      generalize (Utf8.decode a0 pos).2 = wd at *
      have hru : (((ru : Nat) : Int) == 47) = false := beq_eq_false_iff_ne.mpr (by omega)
      go_wp2
      go_roundw
      case rel => exact ⟨pos + wd, by omega, by rw [e2], ⟨by rw [e2]; exact HM.out⟩⟩
      case measure => rw [iter_pos HM.out.2.1, hpos0]; omega
    ·have hnx := fun ty => Lib.run_next_end_at (P := Try.prog) wr w.heap.size a0 pos ty HS.out.2.1 hp2
     obtain rfl : pos = a0.size := by omega
     go_wp2_with (first | ((with_reducible refine gate_builtin (b := .append) (xs := #[.tmp 26, .tmp 30]) rfl ?_); at_builtin; refine Kd.R_append Kd.string (w0 := w) w.heap.size rfl (.tmp 26) (.tmp 30) 51 9 (.string ⟨#[]⟩) 16 rfl Try.underlying51 info9 rfl (by decide) (by omega) u3 (splitTo a0 a0.size).1 (a0.extract (splitTo a0 a0.size).2 a0.size) [.string (a0.extract (splitTo a0 a0.size).2 a0.size)] (fun k => w.heap.size < k) (fun _ => False) rfl rfl rfl (fun _ hk => hk.elim) (fun k hk => Nat.lt_of_lt_of_le (blk_lt HS.out.2.1) hk) HS.out.2.2 HS.out.1 (below_size HS.out.1) (by omega) ?_; intro v1 w1 ho hb1 hg hat; have HN := Aside0.mk (HS.out.more ho hb1 hg); clear ho hb1 hg hat))
     go_ret
     have e : splitL a0 = (splitTo a0 a0.size).1 ++ [a0.extract (splitTo a0 a0.size).2 a0.size] := by
      rw [splitL, if_neg]
      intro h0
      refine c2 (List.eq_nil_of_length_eq_zero ?_)
      rw [ByteArray.toList_eq, data_length]
      exact h0
     rw [e]
     exact ⟨_, rfl, Kd.R_mono HN.out.2.2 (fun _ _ => trivial), HN.out.1⟩
 ·rw [if_neg hs] at h
  exact absurd h (by simp)
end Go.Proofs.Ytodbmagneaiocaa.PA
namespace Go.Proofs.Ytodbmagneaiocaa.PA
open Go.RowKit Go.Proofs.YtodbmagneaiocaaW.PrintWords Go.Proofs.YtodbmagneaiocaaW.PrintLast Go.Proofs.YtodbmagneaiocaaW.PrintMore
attribute [local go_sem] max2_int min2_int max_two min_two max_three min_three max_four min_four   -- for this text's walks alone
set_option linter.unusedVariables false
set_option linter.unusedSimpArgs false
def path_Less.f (k : Nat) (a0 : ByteArray) (a1 : ByteArray) : Option (Bool) := (path_Split.f a0).bind fun t101 => ((path_Split.f a1).bind fun t104 => ((slices_Compare_string_string.f k t101 t104).bind fun t107 => (some (decide (t107 < 0)))))
set_option maxHeartbeats 8000000 in
set_option maxRecDepth 100000 in
theorem path_Less.calls (k : Nat) (a0 : ByteArray) (a1 : ByteArray) (r : Bool) (w : World) (h : path_Less.f k a0 a1 = some r) :
  Calls Try.prog 33 #[.string a0, .string a1] w fun e w' => e = .returned (.bool r) ∧ Below w.heap.size w w' := by
 have HB := Aside0.mk (Below.refl w.heap.size w)
 have H : ((path_Split.f a0).bind fun t101 => ((path_Split.f a1).bind fun t104 => ((slices_Compare_string_string.f k t101 t104).bind fun t107 => (some (decide (t107 < 0)))))) = some r := h
 clear h
 replace H := Option.bind_eq_some_iff.mp H
 obtain ⟨t101, A30, H⟩ := H
 replace H : ((path_Split.f a1).bind fun t104 => ((slices_Compare_string_string.f k t101 t104).bind fun t107 => (some (decide (t107 < 0))))) = some r := H
 have A3 := Aside0.mk A30
 clear A30
 replace H := Option.bind_eq_some_iff.mp H
 obtain ⟨t104, A40, H⟩ := H
 replace H : ((slices_Compare_string_string.f k t101 t104).bind fun t107 => (some (decide (t107 < 0)))) = some r := H
 have A4 := Aside0.mk A40
 clear A40
 replace H := Option.bind_eq_some_iff.mp H
 obtain ⟨t107, A50, H⟩ := H
 replace H : (some (decide (t107 < 0))) = some r := H
 have A5 := Aside0.mk A50
 clear A50
 obtain rfl := Option.some.inj H
 go_enter Try.func33, Try.ntmps33
 go_wp2_with (first | ((with_reducible refine gate_callee (f := 38) rfl ?_); refine goesL_ (some 6) rfl rfl Try.func38 (by kernel_rfl) rfl #[.string a0] rfl (by (try simp only [List.map_toArray, List.map_cons, List.map_nil]); first | done | rfl | (simp only [List.length_drop, List.length_take]; rfl)) ?_; (with_reducible refine (path_Split.calls a0 t101 _ A3.out).mono ?_); rintro e w6 ⟨v102, rfl, ho0, hb⟩; refine ⟨_, rfl, ?_⟩; have n0_ := Aside0.mk (Kd.R_lower ho0 (below_size (by repeat (first | (with_reducible first | exact HB.out | apply below_alloc | apply pw_below_drewN | apply below_drew1) | exact HB.out)))); have n1_ := Aside0.mk (below_step (by repeat (first | (with_reducible first | exact HB.out | apply below_alloc | apply pw_below_drewN | apply below_drew1) | exact HB.out)) hb); clear HB; have HO103 := n0_; have HB := n1_; clear n0_ n1_; (try clear hb); (try clear hb2); (try clear hk); (try clear hi); (try clear ho0)) | ((with_reducible refine gate_callee (f := 38) rfl ?_); refine goesL_ (some 8) rfl rfl Try.func38 (by kernel_rfl) rfl #[.string a1] rfl (by (try simp only [List.map_toArray, List.map_cons, List.map_nil]); first | done | rfl | (simp only [List.length_drop, List.length_take]; rfl)) ?_; (with_reducible refine (path_Split.calls a1 t104 _ A4.out).mono ?_); rintro e w7 ⟨v105, rfl, ho0, hb⟩; refine ⟨_, rfl, ?_⟩; have n0_ := Aside0.mk (Kd.R_elder' (by (with_reducible repeat (first | apply Kd.R_alloc | apply Kd.R_drewN | apply Kd.R_drew)); exact HO103.out) (Kd.R_base ho0) hb); have n1_ := Aside0.mk (Kd.R_lower (Kd.R_new' ho0 (Kd.R_lt (by (with_reducible repeat (first | apply Kd.R_alloc | apply Kd.R_drewN | apply Kd.R_drew)); exact HO103.out))) (below_size (by repeat (first | (with_reducible first | exact HB.out | apply below_alloc | apply pw_below_drewN | apply below_drew1) | exact HB.out)))); have n2_ := Aside0.mk (below_step (by repeat (first | (with_reducible first | exact HB.out | apply below_alloc | apply pw_below_drewN | apply below_drew1) | exact HB.out)) hb); clear HO103; clear HB; have HO103 := n0_; have HO106 := n1_; have HB := n2_; clear n0_ n1_ n2_; (try clear hb); (try clear hb2); (try clear hk); (try clear hi); (try clear ho0); obtain ⟨Ao8, co8, eo8⟩ := Kd.R_slice HO103.out; subst eo8; obtain ⟨Ao9, co9, eo9⟩ := Kd.R_slice HO106.out; subst eo9) | ((with_reducible refine gate_callee (f := 37) rfl ?_); refine goesL_ (some 9) rfl rfl Try.func37 (by kernel_rfl) rfl #[.slice Ao8 t101.length co8, .slice Ao9 t104.length co9] rfl (by (try simp only [List.map_toArray, List.map_cons, List.map_nil]); first | done | rfl | (simp only [List.length_drop, List.length_take]; rfl)) ?_; (with_reducible refine (slices_Compare_string_string.calls k _ _ t101 _ _ t104 t107 _ ?side1 ?side2 ?side3 ?side4 A5.out).mono ?_); (case side1 => repeat (first | exact (Kd.R_reads' HO103.out).2.2 | (with_reducible refine Kd.C_alloc ?_ _) | (with_reducible refine Kd.C_drewN ?_ _) | (with_reducible refine Kd.C_drew ?_))); (case side2 => exact (Kd.R_reads' HO103.out).2.1); (case side3 => repeat (first | exact (Kd.R_reads' HO106.out).2.2 | (with_reducible refine Kd.C_alloc ?_ _) | (with_reducible refine Kd.C_drewN ?_ _) | (with_reducible refine Kd.C_drew ?_))); (case side4 => exact (Kd.R_reads' HO106.out).2.1); rintro e w' ⟨rfl, ⟨nd, rfl⟩⟩; refine ⟨_, rfl, ?_⟩))
 go_ret
 exact ⟨by first | rfl | (simp [errW_none, errW_some] <;> rfl) | (simp [*, errW_none, errW_some] <;> rfl), by repeat (first | (with_reducible first | exact HB.out | apply below_alloc | apply pw_below_drewN | apply below_drew1) | exact HB.out)⟩
end Go.Proofs.Ytodbmagneaiocaa.PA
namespace Go.Proofs.Ytodbmagneaiocaa.PA
open Go.RowKit Go.Proofs.YtodbmagneaiocaaW.PrintWords Go.Proofs.YtodbmagneaiocaaW.PrintLast Go.Proofs.YtodbmagneaiocaaW.PrintMore
attribute [local go_sem] max2_int min2_int max_two min_two max_three min_three max_four min_four   -- for this text's walks alone
set_option linter.unusedVariables false
set_option linter.unusedSimpArgs false
def remoraref13_Split.l0 : Nat → ByteArray → List ByteArray → Int → Int → Option (List ByteArray)
 | 0, _, _, _, _ => none
 | k + 1, x0, x3, x4, x5 => if x5 ≤ (x0.size : Int) then (if x5 = (x0.size : Int) then (if 0 ≤ x4 then (if x4 ≤ x5 then (if x3.length < 8796093022208 then (remoraref13_Split.l0 k x0 (x3 ++ [x0.extract (x4 : Int).toNat (x5 : Int).toNat]) (wrap64 (x5 + 1)) (wrap64 (x5 + 1))) else (none)) else (none)) else (none)) else (if 0 ≤ x5 then (if x5 < (x0.size : Int) then (if (bt x0 x5) = 47 then (if 0 ≤ x4 then (if x4 ≤ x5 then (if x3.length < 8796093022208 then (remoraref13_Split.l0 k x0 (x3 ++ [x0.extract (x4 : Int).toNat (x5 : Int).toNat]) (wrap64 (x5 + 1)) (wrap64 (x5 + 1))) else (none)) else (none)) else (none)) else (remoraref13_Split.l0 k x0 x3 x4 (wrap64 (x5 + 1)))) else (none)) else (none))) else (some x3)
def remoraref13_Split.f (k : Nat) (a0 : ByteArray) : Option (List ByteArray) := if a0.toList = ([] : List UInt8) then (some ([] : List ByteArray)) else (remoraref13_Split.l0 k a0 ([] : List ByteArray) 0 0)
set_option maxHeartbeats 8000000 in
set_option maxRecDepth 100000 in
theorem remoraref13_Split.calls (k : Nat) (a0 : ByteArray) (r : List ByteArray) (w : World) (h : remoraref13_Split.f k a0 = some r) :
  Calls Try.prog 42 #[.string a0] w fun e w' => ∃ v0_ : Value, e = .returned (v0_) ∧ Kd.R Kd.string 9 w' w.heap.size (fun _ => True) v0_ r ∧ Below w.heap.size w w' := by
 have HB := Aside0.mk (Below.refl w.heap.size w)
 have H : (if a0.toList = ([] : List UInt8) then (some ([] : List ByteArray)) else (remoraref13_Split.l0 k a0 ([] : List ByteArray) 0 0)) = some r := h
 clear h
 by_cases c2 : a0.toList = ([] : List UInt8)
 ·rw [if_pos c2] at H
  have c2b0 : (a0.toList == ([] : List UInt8)) = true := beq_iff_eq.mpr c2
  have c2b1 : (a0.toList != ([] : List UInt8)) = false := bne_eq_false_iff_eq.mpr c2
  clear c2
  obtain rfl := Option.some.inj H
  go_enter Try.func42, Try.ntmps42
  go_wp2
  go_ret
  exact ⟨_, by first | rfl | (simp [errW_none, errW_some] <;> rfl) | (simp [*, errW_none, errW_some] <;> rfl), by first | exact Kd.R_nil _ _ _ _ _ | exact Kd.N_nil _ _ _ _ _ | exact Kd.V_nil _ _ _ _ _ | exact Kd.Q_nil _ _ _ _ _ | exact Kd.S_nil _ _ _ _ _, by repeat (first | (with_reducible first | exact HB.out | apply below_alloc | apply pw_below_drewN | apply below_drew1) | exact HB.out)⟩
 ·rw [if_neg c2] at H
  have c2b0 : (a0.toList == ([] : List UInt8)) = false := beq_eq_false_iff_ne.mpr c2
  have c2b1 : (a0.toList != ([] : List UInt8)) = true := bne_iff_ne.mpr c2
  have H' := Aside0.mk H
  clear H
  go_enter Try.func42, Try.ntmps42
  go_wp2
  go_loopg [3, 4, 5] k (fun kq v3 v4 v5 w' => ∃ (x3_1 : List ByteArray) (x4_1 : Int) (x5_1 : Int), v4 = .int .i64 x4_1 ∧ v5 = .int .i64 x5_1 ∧ Aside0 (remoraref13_Split.l0 kq a0 x3_1 x4_1 x5_1 = some r) ∧ Aside0 (kq ≤ k) ∧ Aside0 (Kd.R Kd.string 9 w' w.heap.size (fun _ => True) v3 x3_1) ∧ Aside0 (Below w.heap.size w w'))
  case atStart => exact ⟨(([] : List ByteArray)), (0), (0), (by first | rfl | (simp; done) | (simp [*]; done)), (by first | rfl | (simp; done) | (simp [*]; done)), H', ⟨Nat.le_refl _⟩, ⟨by first | exact Kd.R_nil _ _ _ _ _ | exact Kd.N_nil _ _ _ _ _ | exact Kd.V_nil _ _ _ _ _ | exact Kd.Q_nil _ _ _ _ _ | exact Kd.S_nil _ _ _ _ _⟩, ⟨by repeat (first | (with_reducible first | exact HB.out | apply below_alloc | apply pw_below_drewN | apply below_drew1) | exact HB.out)⟩⟩
  case round =>
   clear H'
   try clear c2
   try clear c2b0
   try clear c2b1
   try clear p2
   obtain ⟨x3_1, x4_1, x5_1, rfl, rfl, HA, HK1, HO_3, HB⟩ := hrel
   cases gk with
   | zero => exact absurd HA.out (by simp [remoraref13_Split.l0])
   | succ k1 =>
    have H := HA.out
    clear HA
    simp only [remoraref13_Split.l0] at H
    by_cases c3 : x5_1 ≤ (a0.size : Int)
    ·rw [if_pos c3] at H
     have c3b0 : decide (x5_1 ≤ (a0.size : Int)) = true := decide_eq_true c3
     clear c3
     by_cases c4 : x5_1 = (a0.size : Int)
     ·rw [if_pos c4] at H
      have c4b0 : (x5_1 == (a0.size : Int)) = true := beq_iff_eq.mpr c4
      have c4b1 : (x5_1 != (a0.size : Int)) = false := bne_eq_false_iff_eq.mpr c4
      clear c4
      by_cases c5 : 0 ≤ x4_1
      ·rw [if_pos c5] at H
       have c5b0 := eq_true c5
       have c5b1 : decide (0 ≤ x4_1) = true := decide_eq_true c5
       clear c5
       by_cases c6 : x4_1 ≤ x5_1
       ·rw [if_pos c6] at H
        have c6b0 := eq_true c6
        have c6b1 : decide (x4_1 ≤ x5_1) = true := decide_eq_true c6
        clear c6
        have c7b0 := eq_true (of_decide_eq_true (by first | (with_reducible assumption) | assumption) : x5_1 ≤ (a0.size : Int))
        by_cases c8 : x3_1.length < 8796093022208
        ·rw [if_pos c8] at H
         have LMc8 := Aside0.mk c8
         clear c8
         obtain ⟨y101, hy101⟩ : ∃ y_ : List ByteArray, y_ = (x3_1 ++ [a0.extract (x4_1 : Int).toNat (x5_1 : Int).toNat]) := ⟨_, rfl⟩
         replace H : (remoraref13_Split.l0 k1 a0 y101 (wrap64 (x5_1 + 1)) (wrap64 (x5_1 + 1))) = some r := by first | (rw [hy101]; with_reducible exact H) | (have H2_ := (Option.bind_some _ _).symm.trans H; rw [hy101]; with_reducible exact H2_) | (have H2_ := (Option.bind_some _ _).symm.trans H; with_reducible exact H2_) | with_reducible exact H | (rw [hy101]; exact H) | exact H
         have Ny101 := Aside0.mk hy101
         clear hy101
         have H' := Aside0.mk H
         clear H
         go_wp2_with (first | ((with_reducible refine gate_builtin (b := .append) (xs := #[.tmp 24, .tmp 29]) rfl ?_); at_builtin; refine Kd.R_append Kd.string (w0 := w) w.heap.size rfl (.tmp 24) (.tmp 29) 51 9 (.string ⟨#[]⟩) 16 rfl Try.underlying51 info9 rfl (by decide) (by omega) u3 x3_1 (a0.extract (x4_1 : Int).toNat (x5_1 : Int).toNat) [.string (a0.extract (x4_1 : Int).toNat (x5_1 : Int).toNat)] (fun _ => True) (fun _ => False) rfl rfl ?aP (fun _ hk => hk.elim) ?aF ?aO ?aB ?aS ?aL ?_; (case aP => exact rfl); (case aB => exact (by repeat (first | (with_reducible first | exact HB.out | apply below_alloc | apply pw_below_drewN | apply below_drew1) | exact HB.out))); (case aF => exact (fun _ _ => trivial)); (case aO => exact (by (with_reducible repeat (first | apply Kd.R_alloc | apply Kd.R_drewN | apply Kd.R_drew)); exact HO_3.out)); (case aS => exact (below_size (by repeat (first | (with_reducible first | exact HB.out | apply below_alloc | apply pw_below_drewN | apply below_drew1) | exact HB.out)))); (case aL => have := LMc8.out; omega); intro v102 w9 ho hb hg hat; rw [← Ny101.out] at ho; have n0_ := Aside0.mk (hb); have n1_ := Aside0.mk (ho); clear HB; clear HO_3; have HB := n0_; have HO103 := n1_; clear n0_ n1_; clear ho hb hg hat))
         go_roundg k1
         case measure => have := HK1.out; omega
         case rel => exact ⟨(y101), (wrap64 (x5_1 + 1)), (wrap64 (x5_1 + 1)), (by first | rfl | (simp; done) | (simp [*]; done)), (by first | rfl | (simp; done) | (simp [*]; done)), H', ⟨by have := HK1.out; omega⟩, ⟨by (with_reducible repeat (first | apply Kd.R_alloc | apply Kd.R_drewN | apply Kd.R_drew)); exact HO103.out⟩, ⟨by repeat (first | (with_reducible first | exact HB.out | apply below_alloc | apply pw_below_drewN | apply below_drew1) | exact HB.out)⟩⟩
        ·rw [if_neg c8] at H
         exact absurd H (by simp)
       ·rw [if_neg c6] at H
        exact absurd H (by simp)
      ·rw [if_neg c5] at H
       exact absurd H (by simp)
     ·rw [if_neg c4] at H
      have c4b0 : (x5_1 == (a0.size : Int)) = false := beq_eq_false_iff_ne.mpr c4
      have c4b1 : (x5_1 != (a0.size : Int)) = true := bne_iff_ne.mpr c4
      by_cases c10 : 0 ≤ x5_1
      ·rw [if_pos c10] at H
       have c10b0 : decide (0 ≤ x5_1) = true := decide_eq_true c10
       clear c10
       by_cases c11 : x5_1 < (a0.size : Int)
       ·rw [if_pos c11] at H
        have c11b0 : decide (x5_1 < (a0.size : Int)) = true := decide_eq_true c11
        clear c11
        by_cases c13 : (bt a0 x5_1) = 47
        ·rw [if_pos c13] at H
         have c13b0 : ((bt a0 x5_1) == 47) = true := beq_iff_eq.mpr c13
         have c13b1 : ((bt a0 x5_1) != 47) = false := bne_eq_false_iff_eq.mpr c13
         clear c13
         by_cases c14 : 0 ≤ x4_1
         ·rw [if_pos c14] at H
          have c14b0 := eq_true c14
          have c14b1 : decide (0 ≤ x4_1) = true := decide_eq_true c14
          clear c14
          by_cases c15 : x4_1 ≤ x5_1
          ·rw [if_pos c15] at H
           have c15b0 := eq_true c15
           have c15b1 : decide (x4_1 ≤ x5_1) = true := decide_eq_true c15
           clear c15
           have c16b0 := eq_true (of_decide_eq_true (by first | (with_reducible assumption) | assumption) : x5_1 ≤ (a0.size : Int))
           by_cases c17 : x3_1.length < 8796093022208
           ·rw [if_pos c17] at H
            have LMc17 := Aside0.mk c17
            clear c17
            obtain ⟨y104, hy104⟩ : ∃ y_ : List ByteArray, y_ = (x3_1 ++ [a0.extract (x4_1 : Int).toNat (x5_1 : Int).toNat]) := ⟨_, rfl⟩
            replace H : (remoraref13_Split.l0 k1 a0 y104 (wrap64 (x5_1 + 1)) (wrap64 (x5_1 + 1))) = some r := by first | (rw [hy104]; with_reducible exact H) | (have H2_ := (Option.bind_some _ _).symm.trans H; rw [hy104]; with_reducible exact H2_) | (have H2_ := (Option.bind_some _ _).symm.trans H; with_reducible exact H2_) | with_reducible exact H | (rw [hy104]; exact H) | exact H
            have Ny104 := Aside0.mk hy104
            clear hy104
            have H' := Aside0.mk H
            clear H
            have p12 : 0 ≤ (x5_1 : Int) := of_decide_eq_true (by first | (with_reducible assumption) | assumption)
            have q12 : x5_1 < (a0.size : Int) := of_decide_eq_true (by first | (with_reducible assumption) | assumption)
            have hx12 := bt_at a0 x5_1
            replace p12 := eq_true p12
            replace q12 := eq_true q12
            go_wp2_with (first | ((with_reducible refine gate_builtin (b := .append) (xs := #[.tmp 24, .tmp 29]) rfl ?_); at_builtin; refine Kd.R_append Kd.string (w0 := w) w.heap.size rfl (.tmp 24) (.tmp 29) 51 9 (.string ⟨#[]⟩) 16 rfl Try.underlying51 info9 rfl (by decide) (by omega) u3 x3_1 (a0.extract (x4_1 : Int).toNat (x5_1 : Int).toNat) [.string (a0.extract (x4_1 : Int).toNat (x5_1 : Int).toNat)] (fun _ => True) (fun _ => False) rfl rfl ?aP (fun _ hk => hk.elim) ?aF ?aO ?aB ?aS ?aL ?_; (case aP => exact rfl); (case aB => exact (by repeat (first | (with_reducible first | exact HB.out | apply below_alloc | apply pw_below_drewN | apply below_drew1) | exact HB.out))); (case aF => exact (fun _ _ => trivial)); (case aO => exact (by (with_reducible repeat (first | apply Kd.R_alloc | apply Kd.R_drewN | apply Kd.R_drew)); exact HO_3.out)); (case aS => exact (below_size (by repeat (first | (with_reducible first | exact HB.out | apply below_alloc | apply pw_below_drewN | apply below_drew1) | exact HB.out)))); (case aL => have := LMc17.out; omega); intro v105 w18 ho hb hg hat; rw [← Ny104.out] at ho; have n0_ := Aside0.mk (hb); have n1_ := Aside0.mk (ho); clear HB; clear HO_3; have HB := n0_; have HO106 := n1_; clear n0_ n1_; clear ho hb hg hat))
            go_roundg k1
            case measure => have := HK1.out; omega
            case rel => exact ⟨(y104), (wrap64 (x5_1 + 1)), (wrap64 (x5_1 + 1)), (by first | rfl | (simp; done) | (simp [*]; done)), (by first | rfl | (simp; done) | (simp [*]; done)), H', ⟨by have := HK1.out; omega⟩, ⟨by (with_reducible repeat (first | apply Kd.R_alloc | apply Kd.R_drewN | apply Kd.R_drew)); exact HO106.out⟩, ⟨by repeat (first | (with_reducible first | exact HB.out | apply below_alloc | apply pw_below_drewN | apply below_drew1) | exact HB.out)⟩⟩
           ·rw [if_neg c17] at H
            exact absurd H (by simp)
          ·rw [if_neg c15] at H
           exact absurd H (by simp)
         ·rw [if_neg c14] at H
          exact absurd H (by simp)
        ·rw [if_neg c13] at H
         have c13b0 : ((bt a0 x5_1) == 47) = false := beq_eq_false_iff_ne.mpr c13
         have c13b1 : ((bt a0 x5_1) != 47) = true := bne_iff_ne.mpr c13
         have H' := Aside0.mk H
         clear H
         have p12 : 0 ≤ (x5_1 : Int) := of_decide_eq_true (by first | (with_reducible assumption) | assumption)
         have q12 : x5_1 < (a0.size : Int) := of_decide_eq_true (by first | (with_reducible assumption) | assumption)
         have hx12 := bt_at a0 x5_1
         replace p12 := eq_true p12
         replace q12 := eq_true q12
         go_wp2
         go_roundg k1
         case measure => have := HK1.out; omega
         case rel => exact ⟨(x3_1), (x4_1), (wrap64 (x5_1 + 1)), (by first | rfl | (simp; done) | (simp [*]; done)), (by first | rfl | (simp; done) | (simp [*]; done)), H', ⟨by have := HK1.out; omega⟩, ⟨by (with_reducible repeat (first | apply Kd.R_alloc | apply Kd.R_drewN | apply Kd.R_drew)); exact HO_3.out⟩, ⟨by repeat (first | (with_reducible first | exact HB.out | apply below_alloc | apply pw_below_drewN | apply below_drew1) | exact HB.out)⟩⟩
       ·rw [if_neg c11] at H
        exact absurd H (by simp)
      ·rw [if_neg c10] at H
       exact absurd H (by simp)
    ·rw [if_neg c3] at H
     have c3b0 : decide (x5_1 ≤ (a0.size : Int)) = false := decide_eq_false c3
     clear c3
     obtain rfl := Option.some.inj H
     go_wp2
     go_ret
     exact ⟨_, by first | rfl | (simp [errW_none, errW_some] <;> rfl) | (simp [*, errW_none, errW_some] <;> rfl), by (with_reducible repeat (first | apply Kd.R_alloc | apply Kd.R_drewN | apply Kd.R_drew)); exact HO_3.out, by repeat (first | (with_reducible first | exact HB.out | apply below_alloc | apply pw_below_drewN | apply below_drew1) | exact HB.out)⟩
end Go.Proofs.Ytodbmagneaiocaa.PA
namespace Go.Proofs.Ytodbmagneaiocaa.PA
open Go.RowKit Go.Proofs.YtodbmagneaiocaaW.PrintWords Go.Proofs.YtodbmagneaiocaaW.PrintLast Go.Proofs.YtodbmagneaiocaaW.PrintMore
attribute [local go_sem] max2_int min2_int max_two min_two max_three min_three max_four min_four   -- for this text's walks alone
set_option linter.unusedVariables false
set_option linter.unusedSimpArgs false
mutual
def remoraref13_Less.l0 : Nat → List ByteArray → List ByteArray → Int → Option (Bool)
 | 0, _, _, _ => none
 | k + 1, x5, x6, x7 => if x7 < (x5.length : Int) then (remoraref13_Less.j1 k x5 x6 x7 (decide (x7 < (x6.length : Int)))) else (remoraref13_Less.j1 k x5 x6 x7 false)
def remoraref13_Less.j1 : Nat → List ByteArray → List ByteArray → Int → Bool → Option (Bool)
 | 0, _, _, _, _ => none
 | k + 1, x5, x6, x7, x21 => if x21 = true then (if 0 ≤ x7 then (if x7 < (x5.length : Int) then (if x7 < (x6.length : Int) then (if (rdOf ByteArray.empty x5 x7).toList = (rdOf ByteArray.empty x6 x7).toList then (remoraref13_Less.l0 k x5 x6 (wrap64 (x7 + 1))) else (some (Op.bytesLess ((rdOf ByteArray.empty x5 x7).toList) ((rdOf ByteArray.empty x6 x7).toList)))) else (none)) else (none)) else (none)) else (some (decide ((x5.length : Int) < (x6.length : Int))))
end
def remoraref13_Less.f (k : Nat) (a0 : ByteArray) (a1 : ByteArray) : Option (Bool) := (remoraref13_Split.f k a0).bind fun t101 => ((remoraref13_Split.f k a1).bind fun t104 => (remoraref13_Less.l0 k t101 t104 0))
set_option maxHeartbeats 8000000 in
set_option maxRecDepth 100000 in
theorem remoraref13_Less.calls (k : Nat) (a0 : ByteArray) (a1 : ByteArray) (r : Bool) (w : World) (h : remoraref13_Less.f k a0 a1 = some r) :
  Calls Try.prog 36 #[.string a0, .string a1] w fun e w' => e = .returned (.bool r) ∧ Below w.heap.size w w' := by
 have HB := Aside0.mk (Below.refl w.heap.size w)
 have H : ((remoraref13_Split.f k a0).bind fun t101 => ((remoraref13_Split.f k a1).bind fun t104 => (remoraref13_Less.l0 k t101 t104 0))) = some r := h
 clear h
 replace H := Option.bind_eq_some_iff.mp H
 obtain ⟨t101, A30, H⟩ := H
 replace H : ((remoraref13_Split.f k a1).bind fun t104 => (remoraref13_Less.l0 k t101 t104 0)) = some r := H
 have A3 := Aside0.mk A30
 clear A30
 replace H := Option.bind_eq_some_iff.mp H
 obtain ⟨t104, A40, H⟩ := H
 replace H : (remoraref13_Less.l0 k t101 t104 0) = some r := H
 have A4 := Aside0.mk A40
 clear A40
 have H' := Aside0.mk H
 clear H
 go_enter Try.func36, Try.ntmps36
 go_wp2_with (first | (go_at_call 42; (with_reducible refine (remoraref13_Split.calls k a0 t101 _ A3.out).mono ?_); rintro e w5 ⟨v102, rfl, ho0, hb⟩; have n0_ := Aside0.mk (Kd.R_lower ho0 (below_size (by repeat (first | (with_reducible first | exact HB.out | apply below_alloc | apply pw_below_drewN | apply below_drew1) | exact HB.out)))); have n1_ := Aside0.mk (below_step (by repeat (first | (with_reducible first | exact HB.out | apply below_alloc | apply pw_below_drewN | apply below_drew1) | exact HB.out)) hb); clear HB; have HO103 := n0_; have HB := n1_; clear n0_ n1_; (try clear hb); (try clear hb2); (try clear hk); (try clear hi); (try clear ho0)) | (go_at_call 42; (with_reducible refine (remoraref13_Split.calls k a1 t104 _ A4.out).mono ?_); rintro e w6 ⟨v105, rfl, ho0, hb⟩; have n0_ := Aside0.mk (Kd.R_elder' (by (with_reducible repeat (first | apply Kd.R_alloc | apply Kd.R_drewN | apply Kd.R_drew)); exact HO103.out) (Kd.R_base ho0) hb); have n1_ := Aside0.mk (Kd.R_lower (Kd.R_new' ho0 (Kd.R_lt (by (with_reducible repeat (first | apply Kd.R_alloc | apply Kd.R_drewN | apply Kd.R_drew)); exact HO103.out))) (below_size (by repeat (first | (with_reducible first | exact HB.out | apply below_alloc | apply pw_below_drewN | apply below_drew1) | exact HB.out)))); have n2_ := Aside0.mk (below_step (by repeat (first | (with_reducible first | exact HB.out | apply below_alloc | apply pw_below_drewN | apply below_drew1) | exact HB.out)) hb); clear HO103; clear HB; have HO103 := n0_; have HO106 := n1_; have HB := n2_; clear n0_ n1_ n2_; (try clear hb); (try clear hb2); (try clear hk); (try clear hi); (try clear ho0)))
 repeat (go_quiet (first | (go_at_call 42; (with_reducible refine (remoraref13_Split.calls k a0 t101 _ A3.out).mono ?_); rintro e w5 ⟨v102, rfl, ho0, hb⟩; have n0_ := Aside0.mk (Kd.R_lower ho0 (below_size (by repeat (first | (with_reducible first | exact HB.out | apply below_alloc | apply pw_below_drewN | apply below_drew1) | exact HB.out)))); have n1_ := Aside0.mk (below_step (by repeat (first | (with_reducible first | exact HB.out | apply below_alloc | apply pw_below_drewN | apply below_drew1) | exact HB.out)) hb); clear HB; have HO103 := n0_; have HB := n1_; clear n0_ n1_; (try clear hb); (try clear hb2); (try clear hk); (try clear hi); (try clear ho0)) | (go_at_call 42; (with_reducible refine (remoraref13_Split.calls k a1 t104 _ A4.out).mono ?_); rintro e w6 ⟨v105, rfl, ho0, hb⟩; have n0_ := Aside0.mk (Kd.R_elder' (by (with_reducible repeat (first | apply Kd.R_alloc | apply Kd.R_drewN | apply Kd.R_drew)); exact HO103.out) (Kd.R_base ho0) hb); have n1_ := Aside0.mk (Kd.R_lower (Kd.R_new' ho0 (Kd.R_lt (by (with_reducible repeat (first | apply Kd.R_alloc | apply Kd.R_drewN | apply Kd.R_drew)); exact HO103.out))) (below_size (by repeat (first | (with_reducible first | exact HB.out | apply below_alloc | apply pw_below_drewN | apply below_drew1) | exact HB.out)))); have n2_ := Aside0.mk (below_step (by repeat (first | (with_reducible first | exact HB.out | apply below_alloc | apply pw_below_drewN | apply below_drew1) | exact HB.out)) hb); clear HO103; clear HB; have HO103 := n0_; have HO106 := n1_; have HB := n2_; clear n0_ n1_ n2_; (try clear hb); (try clear hb2); (try clear hk); (try clear hi); (try clear ho0))); try go_wp2_with (first | (go_at_call 42; (with_reducible refine (remoraref13_Split.calls k a0 t101 _ A3.out).mono ?_); rintro e w5 ⟨v102, rfl, ho0, hb⟩; have n0_ := Aside0.mk (Kd.R_lower ho0 (below_size (by repeat (first | (with_reducible first | exact HB.out | apply below_alloc | apply pw_below_drewN | apply below_drew1) | exact HB.out)))); have n1_ := Aside0.mk (below_step (by repeat (first | (with_reducible first | exact HB.out | apply below_alloc | apply pw_below_drewN | apply below_drew1) | exact HB.out)) hb); clear HB; have HO103 := n0_; have HB := n1_; clear n0_ n1_; (try clear hb); (try clear hb2); (try clear hk); (try clear hi); (try clear ho0)) | (go_at_call 42; (with_reducible refine (remoraref13_Split.calls k a1 t104 _ A4.out).mono ?_); rintro e w6 ⟨v105, rfl, ho0, hb⟩; have n0_ := Aside0.mk (Kd.R_elder' (by (with_reducible repeat (first | apply Kd.R_alloc | apply Kd.R_drewN | apply Kd.R_drew)); exact HO103.out) (Kd.R_base ho0) hb); have n1_ := Aside0.mk (Kd.R_lower (Kd.R_new' ho0 (Kd.R_lt (by (with_reducible repeat (first | apply Kd.R_alloc | apply Kd.R_drewN | apply Kd.R_drew)); exact HO103.out))) (below_size (by repeat (first | (with_reducible first | exact HB.out | apply below_alloc | apply pw_below_drewN | apply below_drew1) | exact HB.out)))); have n2_ := Aside0.mk (below_step (by repeat (first | (with_reducible first | exact HB.out | apply below_alloc | apply pw_below_drewN | apply below_drew1) | exact HB.out)) hb); clear HO103; clear HB; have HO103 := n0_; have HO106 := n1_; have HB := n2_; clear n0_ n1_ n2_; (try clear hb); (try clear hb2); (try clear hk); (try clear hi); (try clear ho0))))
 go_loopg [7] k (fun kq v7 w' => ∃ (x7_1 : Int), v7 = .int .i64 x7_1 ∧ Aside0 (remoraref13_Less.l0 kq t101 t104 x7_1 = some r) ∧ Aside0 (kq ≤ k) ∧ Aside0 (Kd.R Kd.string 9 w' w.heap.size (fun k_ => some k_ ≠ (v105 : Value).ownBlock) v102 t101) ∧ Aside0 (Kd.R Kd.string 9 w' w.heap.size (fun k_ => some k_ ≠ (v102 : Value).ownBlock) v105 t104) ∧ Aside0 (Below w.heap.size w w'))
 case atStart => exact ⟨(0), (by first | rfl | (simp; done) | (simp [*]; done)), H', ⟨Nat.le_refl _⟩, ⟨by (with_reducible repeat (first | apply Kd.R_alloc | apply Kd.R_drewN | apply Kd.R_drew)); exact Kd.R_mono HO103.out (fun _ hk => hk.2)⟩, ⟨by (with_reducible repeat (first | apply Kd.R_alloc | apply Kd.R_drewN | apply Kd.R_drew)); exact Kd.R_mono HO106.out (fun _ hk => hk.2)⟩, ⟨by repeat (first | (with_reducible first | exact HB.out | apply below_alloc | apply pw_below_drewN | apply below_drew1) | exact HB.out)⟩⟩
 case round =>
  clear H'
  try clear p2
  try clear c3
  obtain ⟨x7_1, rfl, HA, HK1, HO_5, HO_6, HB⟩ := hrel
  cases gk with
  | zero => exact absurd HA.out (by simp [remoraref13_Less.l0])
  | succ k1 =>
   have H := HA.out
   clear HA
   simp only [remoraref13_Less.l0] at H
   have HC7 := Aside0.mk H
   clear H
   go_upto_region 3 with (fail)
   repeat (go_quiet (fail); go_upto_region 3 with (fail))
   go_cut [21] (fun v21 wc => ∃ (kq : Nat) (x21_6 : Bool), v21 = .bool x21_6 ∧ Aside0 (remoraref13_Less.j1 kq t101 t104 x7_1 x21_6 = some r) ∧ Aside0 (kq ≤ k1) ∧ Aside0 (Kd.R Kd.string 9 wc w.heap.size (fun k_ => some k_ ≠ (v105 : Value).ownBlock) v102 t101) ∧ Aside0 (Kd.R Kd.string 9 wc w.heap.size (fun k_ => some k_ ≠ (v102 : Value).ownBlock) v105 t104) ∧ Aside0 (Below w.heap.size w wc))
   case first =>
    have H := HC7.out
    clear HC7
    by_cases c8 : x7_1 < (t101.length : Int)
    ·rw [if_pos c8] at H
     have c8b0 : decide (x7_1 < (t101.length : Int)) = true := decide_eq_true c8
     clear c8
     (first | rw [c8b0] | (simp only [i64_w, i32_w]; rw [c8b0]) | skip)
     have H' := Aside0.mk H
     clear H
     obtain ⟨Ao9, co9, eo9⟩ := Kd.R_slice HO_5.out
     subst eo9
     obtain ⟨Ao10, co10, eo10⟩ := Kd.R_slice HO_6.out
     subst eo10
     go_wp2
     repeat (go_quiet (fail); try go_wp2)
     go_meet
     case rel => exact ⟨_, (decide (x7_1 < (t104.length : Int))), (by first | rfl | (simp; done) | (simp [*]; done)), H', ⟨by have := HK1.out; first | omega | exact Nat.le_refl _⟩, ⟨by (with_reducible repeat (first | apply Kd.R_alloc | apply Kd.R_drewN | apply Kd.R_drew)); exact HO_5.out⟩, ⟨by (with_reducible repeat (first | apply Kd.R_alloc | apply Kd.R_drewN | apply Kd.R_drew)); exact HO_6.out⟩, ⟨by repeat (first | (with_reducible first | exact HB.out | apply below_alloc | apply pw_below_drewN | apply below_drew1) | exact HB.out)⟩⟩
    ·rw [if_neg c8] at H
     have c8b0 : decide (x7_1 < (t101.length : Int)) = false := decide_eq_false c8
     clear c8
     (first | rw [c8b0] | (simp only [i64_w, i32_w]; rw [c8b0]) | skip)
     have H' := Aside0.mk H
     clear H
     obtain ⟨Ao11, co11, eo11⟩ := Kd.R_slice HO_5.out
     subst eo11
     go_wp2
     repeat (go_quiet (fail); try go_wp2)
     go_meet
     case rel => exact ⟨_, (false), (by first | rfl | (simp; done) | (simp [*]; done)), H', ⟨by have := HK1.out; first | omega | exact Nat.le_refl _⟩, ⟨by (with_reducible repeat (first | apply Kd.R_alloc | apply Kd.R_drewN | apply Kd.R_drew)); exact HO_5.out⟩, ⟨by (with_reducible repeat (first | apply Kd.R_alloc | apply Kd.R_drewN | apply Kd.R_drew)); exact HO_6.out⟩, ⟨by repeat (first | (with_reducible first | exact HB.out | apply below_alloc | apply pw_below_drewN | apply below_drew1) | exact HB.out)⟩⟩
   case rest =>
    clear HC7
    try clear p2
    try clear c3
    try clear c8
    try clear c8b0
    try clear p2
    obtain ⟨kq, x21_6, rfl, HA, HJ6, HO_5, HO_6, HB⟩ := hcut
    cases kq with
    | zero => exact absurd HA.out (by simp [remoraref13_Less.j1])
    | succ kj6 =>
     have H := HA.out
     clear HA
     simp only [remoraref13_Less.j1] at H
     by_cases c12 : x21_6 = true
     ·subst c12
      have H1 : (if 0 ≤ x7_1 then (if x7_1 < (t101.length : Int) then (if x7_1 < (t104.length : Int) then (if (rdOf ByteArray.empty t101 x7_1).toList = (rdOf ByteArray.empty t104 x7_1).toList then (remoraref13_Less.l0 kj6 t101 t104 (wrap64 (x7_1 + 1))) else (some (Op.bytesLess ((rdOf ByteArray.empty t101 x7_1).toList) ((rdOf ByteArray.empty t104 x7_1).toList)))) else (none)) else (none)) else (none)) = some r := by rw [if_pos rfl] at H; exact H
      clear H
      have H := H1
      clear H1
      by_cases c13 : 0 ≤ x7_1
      ·rw [if_pos c13] at H
       have c13b0 : decide (0 ≤ x7_1) = true := decide_eq_true c13
       clear c13
       by_cases c14 : x7_1 < (t101.length : Int)
       ·rw [if_pos c14] at H
        have c14b0 : decide (x7_1 < (t101.length : Int)) = true := decide_eq_true c14
        clear c14
        by_cases c15 : x7_1 < (t104.length : Int)
        ·rw [if_pos c15] at H
         have c15b0 : decide (x7_1 < (t104.length : Int)) = true := decide_eq_true c15
         clear c15
         by_cases c16 : (rdOf ByteArray.empty t101 x7_1).toList = (rdOf ByteArray.empty t104 x7_1).toList
         ·rw [if_pos c16] at H
          have c16b0 : ((rdOf ByteArray.empty t101 x7_1).toList == (rdOf ByteArray.empty t104 x7_1).toList) = true := beq_iff_eq.mpr c16
          have c16b1 : ((rdOf ByteArray.empty t101 x7_1).toList != (rdOf ByteArray.empty t104 x7_1).toList) = false := bne_eq_false_iff_eq.mpr c16
          clear c16
          have H' := Aside0.mk H
          clear H
          obtain ⟨Ao17, co17, eo17⟩ := Kd.R_slice HO_5.out
          subst eo17
          have p107 : 0 ≤ (x7_1 : Int) := of_decide_eq_true (by first | (with_reducible assumption) | assumption)
          have q107 : x7_1 < (t101.length : Int) := of_decide_eq_true (by first | (with_reducible assumption) | assumption)
          obtain ⟨ad107, e107, hx107_0⟩ := Kd.at_string (Kd.R_reads' HO_5.out).2.2 x7_1 p107 q107
          cases e107
          replace p107 := eq_true p107
          replace q107 := eq_true q107
          obtain ⟨Ao18, co18, eo18⟩ := Kd.R_slice HO_6.out
          subst eo18
          have p108 : 0 ≤ (x7_1 : Int) := of_decide_eq_true (by first | (with_reducible assumption) | assumption)
          have q108 : x7_1 < (t104.length : Int) := of_decide_eq_true (by first | (with_reducible assumption) | assumption)
          obtain ⟨ad108, e108, hx108_0⟩ := Kd.at_string (Kd.R_reads' HO_6.out).2.2 x7_1 p108 q108
          cases e108
          replace p108 := eq_true p108
          replace q108 := eq_true q108
          go_wp2
          repeat (go_quiet (fail); try go_wp2)
          go_roundg kj6
          case measure => have := HK1.out; have := HJ6.out; omega
          case rel => exact ⟨(wrap64 (x7_1 + 1)), (by first | rfl | (simp; done) | (simp [*]; done)), H', ⟨by have := HK1.out; have := HJ6.out; omega⟩, ⟨by (with_reducible repeat (first | apply Kd.R_alloc | apply Kd.R_drewN | apply Kd.R_drew)); exact HO_5.out⟩, ⟨by (with_reducible repeat (first | apply Kd.R_alloc | apply Kd.R_drewN | apply Kd.R_drew)); exact HO_6.out⟩, ⟨by repeat (first | (with_reducible first | exact HB.out | apply below_alloc | apply pw_below_drewN | apply below_drew1) | exact HB.out)⟩⟩
         ·rw [if_neg c16] at H
          have c16b0 : ((rdOf ByteArray.empty t101 x7_1).toList == (rdOf ByteArray.empty t104 x7_1).toList) = false := beq_eq_false_iff_ne.mpr c16
          have c16b1 : ((rdOf ByteArray.empty t101 x7_1).toList != (rdOf ByteArray.empty t104 x7_1).toList) = true := bne_iff_ne.mpr c16
          obtain rfl := Option.some.inj H
          obtain ⟨Ao19, co19, eo19⟩ := Kd.R_slice HO_5.out
          subst eo19
          have p107 : 0 ≤ (x7_1 : Int) := of_decide_eq_true (by first | (with_reducible assumption) | assumption)
          have q107 : x7_1 < (t101.length : Int) := of_decide_eq_true (by first | (with_reducible assumption) | assumption)
          obtain ⟨ad107, e107, hx107_0⟩ := Kd.at_string (Kd.R_reads' HO_5.out).2.2 x7_1 p107 q107
          cases e107
          replace p107 := eq_true p107
          replace q107 := eq_true q107
          obtain ⟨Ao20, co20, eo20⟩ := Kd.R_slice HO_6.out
          subst eo20
          have p108 : 0 ≤ (x7_1 : Int) := of_decide_eq_true (by first | (with_reducible assumption) | assumption)
          have q108 : x7_1 < (t104.length : Int) := of_decide_eq_true (by first | (with_reducible assumption) | assumption)
          obtain ⟨ad108, e108, hx108_0⟩ := Kd.at_string (Kd.R_reads' HO_6.out).2.2 x7_1 p108 q108
          cases e108
          replace p108 := eq_true p108
          replace q108 := eq_true q108
          have p109 : 0 ≤ (x7_1 : Int) := of_decide_eq_true (by first | (with_reducible assumption) | assumption)
          have q109 : x7_1 < (t101.length : Int) := of_decide_eq_true (by first | (with_reducible assumption) | assumption)
          obtain ⟨ad109, e109, hx109_0⟩ := Kd.at_string (Kd.R_reads' HO_5.out).2.2 x7_1 p109 q109
          obtain rfl : ad107 = ad109 := (by injection e109)
          replace p109 := eq_true p109
          replace q109 := eq_true q109
          have p110 : 0 ≤ (x7_1 : Int) := of_decide_eq_true (by first | (with_reducible assumption) | assumption)
          have q110 : x7_1 < (t104.length : Int) := of_decide_eq_true (by first | (with_reducible assumption) | assumption)
          obtain ⟨ad110, e110, hx110_0⟩ := Kd.at_string (Kd.R_reads' HO_6.out).2.2 x7_1 p110 q110
          obtain rfl : ad108 = ad110 := (by injection e110)
          replace p110 := eq_true p110
          replace q110 := eq_true q110
          go_wp2
          repeat (go_quiet (fail); try go_wp2)
          go_ret
          exact ⟨by first | rfl | (simp [errW_none, errW_some] <;> rfl) | (simp [*, errW_none, errW_some] <;> rfl), by repeat (first | (with_reducible first | exact HB.out | apply below_alloc | apply pw_below_drewN | apply below_drew1) | exact HB.out)⟩
        ·rw [if_neg c15] at H
         exact absurd H (by simp)
       ·rw [if_neg c14] at H
        exact absurd H (by simp)
      ·rw [if_neg c13] at H
       exact absurd H (by simp)
     ·replace c12 := Bool.eq_false_iff.mpr c12
      subst c12
      have H1 : (some (decide ((t101.length : Int) < (t104.length : Int)))) = some r := by rw [if_neg (show ¬ (false = true) by decide)] at H; exact H
      clear H
      have H := H1
      clear H1
      obtain rfl := Option.some.inj H
      obtain ⟨Ao21, co21, eo21⟩ := Kd.R_slice HO_5.out
      subst eo21
      obtain ⟨Ao22, co22, eo22⟩ := Kd.R_slice HO_6.out
      subst eo22
      go_wp2
      repeat (go_quiet (fail); try go_wp2)
      go_ret
      exact ⟨by first | rfl | (simp [errW_none, errW_some] <;> rfl) | (simp [*, errW_none, errW_some] <;> rfl), by repeat (first | (with_reducible first | exact HB.out | apply below_alloc | apply pw_below_drewN | apply below_drew1) | exact HB.out)⟩
end Go.Proofs.Ytodbmagneaiocaa.PA
namespace Go.Proofs.Ytodbmagneaiocaa.PA
open Go.RowKit Go.Proofs.YtodbmagneaiocaaW.PrintWords Go.Proofs.YtodbmagneaiocaaW.PrintLast Go.Proofs.YtodbmagneaiocaaW.PrintMore
attribute [local go_sem] max2_int min2_int max_two min_two max_three min_three max_four min_four
set_option linter.unusedVariables false
set_option linter.unusedSimpArgs false
theorem splitL_len (s : ByteArray) : (splitL s).length ≤ s.size + 1 := by
 have := splitTo_len s s.size
 unfold splitL
 split
 ·exact Nat.zero_le _
 ·simp
  omega
end Go.Proofs.Ytodbmagneaiocaa.PA
namespace Go.Proofs.Ytodbmagneaiocaa.PA
open Go.RowKit Go.Proofs.YtodbmagneaiocaaW.PrintWords Go.Proofs.YtodbmagneaiocaaW.PrintLast Go.Proofs.YtodbmagneaiocaaW.PrintMore
attribute [local go_sem] max2_int min2_int max_two min_two max_three min_three max_four min_four
set_option linter.unusedVariables false
set_option linter.unusedSimpArgs false
def joinB (l0 : List ByteArray) (a1 : ByteArray) : ByteArray := ⟨(Lib.join (l0.map (·.data.toList)) a1.data.toList).toArray⟩
end Go.Proofs.Ytodbmagneaiocaa.PA
namespace Go.Proofs.Ytodbmagneaiocaa.PA
open Go.RowKit Go.Proofs.YtodbmagneaiocaaW.PrintWords Go.Proofs.YtodbmagneaiocaaW.PrintLast Go.Proofs.YtodbmagneaiocaaW.PrintMore
attribute [local go_sem] max2_int min2_int max_two min_two max_three min_three max_four min_four
set_option linter.unusedVariables false
set_option linter.unusedSimpArgs false
def spl : List UInt8 → List (List UInt8)
 | [] => [[]]
 | x :: t => if x = 47 then [] :: spl t else match spl t with
  | [] => [[x]]
  | h :: r => (x :: h) :: r
theorem spl_ne : ∀ s, spl s ≠ []
 | [] => by simp [spl]
 | x :: t => by
  rw [spl]
  split
  ·simp
  ·split <;> simp
theorem spl_cons (x : UInt8) (t : List UInt8) (h : x ≠ 47) : ∃ a r, spl t = a :: r ∧ spl (x :: t) = (x :: a) :: r := by
 cases hs : spl t with
 | nil => exact absurd hs (spl_ne t)
 | cons a r =>
  refine ⟨a, r, rfl, ?_⟩
  rw [spl, if_neg h, hs]
theorem spl_snoc47 : ∀ s, spl (s ++ [47]) = spl s ++ [[]]
 | [] => rfl
 | x :: t => by
  by_cases h : x = 47
  ·rw [List.cons_append, spl, if_pos h, spl, if_pos h, spl_snoc47 t, List.cons_append]
  ·obtain ⟨a, r, e1, e2⟩ := spl_cons x t h
   obtain ⟨a', r', e3, e4⟩ := spl_cons x (t ++ [47]) h
   rw [spl_snoc47 t, e1, List.cons_append] at e3
   rw [List.cons_append, e4, e2]
   have e5 := List.cons.inj e3
   rw [← e5.1, ← e5.2, List.cons_append]
theorem spl_snoc (c : UInt8) (hc : c ≠ 47) : ∀ (s : List UInt8) (L : List (List UInt8)) (x : List UInt8), spl s = L ++ [x] → spl (s ++ [c]) = L ++ [x ++ [c]]
 | [], L, x, h => by
  cases L with
  | nil =>
   have hx := (List.cons.inj (show ([[]] : List (List UInt8)) = [x] from h)).1
   rw [← hx]
   simp [spl, hc]
  | cons a r =>
   have h1 := (List.cons.inj (show ([[]] : List (List UInt8)) = a :: (r ++ [x]) from h)).2
   simp at h1
 | y :: t, L, x, h => by
  by_cases hy : y = 47
  ·rw [spl, if_pos hy] at h
   cases L with
   | nil =>
    have h1 := (List.cons.inj (show [] :: spl t = [x] from h)).2
    exact absurd h1 (spl_ne t)
   | cons a r =>
    have h1 := List.cons.inj (show [] :: spl t = a :: (r ++ [x]) from h)
    rw [List.cons_append, spl, if_pos hy, spl_snoc c hc t r x h1.2, h1.1]
    rfl
  ·obtain ⟨a, r, e1, e2⟩ := spl_cons y t hy
   rw [e2] at h
   cases L with
   | nil =>
    have h1 := List.cons.inj (show (y :: a) :: r = [x] from h)
    have h2 := spl_snoc c hc t [] a (by rw [e1, h1.2]; rfl)
    obtain ⟨a', r', e3, e4⟩ := spl_cons y (t ++ [c]) hy
    rw [h2] at e3
    have h3 := List.cons.inj (show [a ++ [c]] = a' :: r' from e3)
    rw [List.cons_append, e4, ← h3.1, ← h3.2, ← h1.1]
    rfl
   | cons b q =>
    have h1 := List.cons.inj (show (y :: a) :: r = b :: (q ++ [x]) from h)
    have h2 := spl_snoc c hc t (a :: q) x (by rw [e1, h1.2]; rfl)
    obtain ⟨a', r', e3, e4⟩ := spl_cons y (t ++ [c]) hy
    rw [h2] at e3
    have h3 := List.cons.inj (show a :: (q ++ [x ++ [c]]) = a' :: r' from e3)
    rw [List.cons_append, e4, ← h3.1, ← h3.2, ← h1.1]
    rfl
theorem join_two (x y : List UInt8) (r : List (List UInt8)) : Lib.join (x :: y :: r) [47] = x ++ 47 :: Lib.join (y :: r) [47] := by
 rw [Lib.join_cons, Lib.join_cons]
 simp [Lib.joinTail]
theorem join_spl : ∀ s, Lib.join (spl s) [47] = s
 | [] => rfl
 | x :: t => by
  have ih := join_spl t
  by_cases h : x = 47
  ·rw [spl, if_pos h]
   cases hs : spl t with
   | nil => exact absurd hs (spl_ne t)
   | cons a r => rw [join_two, ← hs, ih, h]; rfl
  ·obtain ⟨a, r, e1, e2⟩ := spl_cons x t h
   rw [e2]
   rw [e1] at ih
   cases r with
   | nil => rw [Lib.join_one] at ih ⊢; rw [ih]
   | cons b q => rw [join_two] at ih ⊢; rw [List.cons_append, ih]
def toL (a : ByteArray) : List UInt8 := a.data.toList
theorem toL_inj {a b : ByteArray} (h : toL a = toL b) : a = b := by
 have := Array.toList_inj.1 (show a.data.toList = b.data.toList from h)
 exact ByteArray.ext this
theorem toL_size (a : ByteArray) : (toL a).length = a.size := by
 rw [toL, Array.length_toList]; rfl
theorem toL_extract (a : ByteArray) (i j : Nat) : toL (a.extract i j) = ((toL a).take j).drop i := by
 unfold toL
 rw [ByteArray.data_extract, Array.toList_extract, List.extract_eq_take_drop, List.drop_take]
theorem take_snoc (a : ByteArray) (k : Nat) (h : k < a.size) : (toL a).take (k + 1) = (toL a).take k ++ [UInt8.ofNat (bt a (k : Int)).toNat] := by
 have hl : k < (toL a).length := by rw [toL_size]; exact h
 rw [List.take_succ_eq_append_getElem hl]
 congr 2
 rw [bt, dif_pos (by simpa using h)]
 simp [toL]
 rfl
theorem u47 (b : Int) (h0 : 0 ≤ b) (h1 : b ≤ 255) : UInt8.ofNat b.toNat = 47 ↔ b = 47 := by
 constructor
 ·intro h
  have := congrArg UInt8.toNat h
  rw [UInt8.toNat_ofNat'] at this
  have e : (47 : UInt8).toNat = 47 := rfl
  rw [e] at this
  omega
 ·intro h; rw [h]; rfl
theorem splitTo_spl (a : ByteArray) : ∀ k, k ≤ a.size → spl ((toL a).take k) = (splitTo a k).1.map toL ++ [((toL a).take k).drop (splitTo a k).2]
 | 0, _ => rfl
 | k + 1, h => by
  have ih := splitTo_spl a k (by omega)
  have hr := bt_range a (k : Int)
  have hle := splitTo_le a k
  have hlen : ((toL a).take k).length = k := by rw [List.length_take, toL_size]; omega
  rw [take_snoc a k (by omega)]
  by_cases hb : bt a (k : Int) = 47
  ·rw [(u47 _ hr.1 (by have := hr.2; omega)).2 hb, spl_snoc47, ih, splitTo_hit a k hb, List.map_append, List.map_cons, List.map_nil, toL_extract]
   congr 1
   simp
   omega
  ·rw [spl_snoc _ (fun e => hb ((u47 _ hr.1 (by have := hr.2; omega)).1 e)) _ _ _ ih, splitTo_miss a k hb, List.drop_append_of_le_length (by rw [hlen]; exact hle)]
theorem split_spl (a : ByteArray) (h : a.size ≠ 0) : (splitL a).map toL = spl (toL a) := by
 have := splitTo_spl a a.size (Nat.le_refl _)
 have e : (toL a).take a.size = toL a := List.take_of_length_le (by rw [toL_size]; exact Nat.le_refl _)
 rw [e] at this
 rw [splitL, if_neg h, this, List.map_append, List.map_cons, List.map_nil, toL_extract, e]
theorem size_zero {a : ByteArray} (h : a.size = 0) : a = ⟨#[]⟩ := by
 apply toL_inj
 have : (toL a).length = 0 := by rw [toL_size]; exact h
 rw [List.length_eq_zero_iff.1 this]
 rfl
theorem toL_joinB (l : List ByteArray) : toL (joinB l ⟨#[47]⟩) = Lib.join (l.map toL) [47] := by
 unfold joinB toL
 rfl
theorem joinB_split (a : ByteArray) : joinB (splitL a) ⟨#[47]⟩ = a := by
 by_cases h : a.size = 0
 ·rw [splitL, if_pos h, size_zero h]; rfl
 ·apply toL_inj
  rw [toL_joinB, split_spl a h, join_spl]
end Go.Proofs.Ytodbmagneaiocaa.PA
namespace Go.Proofs.Ytodbmagneaiocaa.PA
open Go.RowKit Go.Proofs.YtodbmagneaiocaaW.PrintWords Go.Proofs.YtodbmagneaiocaaW.PrintLast Go.Proofs.YtodbmagneaiocaaW.PrintMore
attribute [local go_sem] max2_int min2_int max_two min_two max_three min_three max_four min_four
set_option linter.unusedVariables false
set_option linter.unusedSimpArgs false
theorem rsplit_l (s : ByteArray) (hs : s.size < 4398046511104) : ∀ k j : Nat, j ≤ s.size → s.size + 1 - j < k → remoraref13_Split.l0 k s (splitTo s j).1 ((splitTo s j).2 : Int) (j : Int) = some ((splitTo s s.size).1 ++ [s.extract (splitTo s s.size).2 s.size])
 | 0, j, _, h => by omega
 | k + 1, j, hj, h => by
  have hle := splitTo_le s j
  have hlen := splitTo_len s j
  have e2 : wrap64 ((j : Int) + 1) = ((j + 1 : Nat) : Int) := by rw [wr64 _ (by omega) (by omega)]; rfl
  unfold remoraref13_Split.l0
  rw [if_pos (show (j : Int) ≤ (s.size : Int) by omega), e2]
  by_cases hlt : j < s.size
  ·rw [if_neg (show ¬ (j : Int) = (s.size : Int) by omega), if_pos (show 0 ≤ (j : Int) by omega), if_pos (show (j : Int) < (s.size : Int) by omega)]
   by_cases hb : bt s (j : Int) = 47
   ·have hh := splitTo_hit s j hb
    rw [if_pos hb, if_pos (by omega), if_pos (by omega), if_pos (by omega)]
    have ih := rsplit_l s hs k (j + 1) (by omega) (by omega)
    rw [hh] at ih
    exact ih
   ·have hh := splitTo_miss s j hb
    rw [if_neg hb]
    have ih := rsplit_l s hs k (j + 1) (by omega) (by omega)
    rw [hh] at ih
    exact ih
  ·obtain rfl : j = s.size := by omega
   rw [if_pos rfl, if_pos (by omega), if_pos (by omega), if_pos (by omega)]
   cases k with
   | zero => omega
   | succ k =>
    unfold remoraref13_Split.l0
    rw [if_neg (by omega)]
    rfl
theorem rsplit_f (s : ByteArray) (hs : s.size < 4398046511104) (k : Nat) (hk : s.size + 1 < k) : remoraref13_Split.f k s = some (splitL s) := by
 unfold remoraref13_Split.f splitL
 by_cases h : s.toList = ([] : List UInt8)
 ·have h1 := congrArg List.length h
  rw [ByteArray.toList_eq, data_length] at h1
  rw [if_pos h, if_pos (show s.size = 0 from h1)]
 ·rw [if_neg h, if_neg]
  ·exact rsplit_l s hs k 0 (by omega) (by omega)
  ·intro h0
   refine h (List.eq_nil_of_length_eq_zero ?_)
   rw [ByteArray.toList_eq, data_length]
   exact h0
end Go.Proofs.Ytodbmagneaiocaa.PA
namespace Go.Proofs.Ytodbmagneaiocaa.PA
open Go.RowKit Go.Proofs.YtodbmagneaiocaaW.PrintWords Go.Proofs.YtodbmagneaiocaaW.PrintLast Go.Proofs.YtodbmagneaiocaaW.PrintMore
attribute [local go_sem] max2_int min2_int max_two min_two max_three min_three max_four min_four
set_option linter.unusedVariables false
set_option linter.unusedSimpArgs false
theorem tl_eq (a b : ByteArray) : a.toList = b.toList ↔ a = b := by
 constructor
 ·intro h
  rw [ByteArray.toList_eq, ByteArray.toList_eq] at h
  exact toL_inj h
 ·intro h; rw [h]
theorem tl_beq (a b : ByteArray) : (a.toList == b.toList) = decide (a = b) := by
 by_cases h : a = b
 ·rw [decide_eq_true h, h]; exact beq_self_eq_true _
 ·rw [decide_eq_false h]; exact beq_eq_false_iff_ne.2 (fun e => h ((tl_eq a b).1 e))
theorem rdOf_get (l : List ByteArray) (i : Nat) (h : i < l.length) : rdOf ByteArray.empty l (i : Int) = l[i] := by
 simp [rdOf, h]
def cmpL : List ByteArray → List ByteArray → Int
 | [], [] => 0
 | [], _ :: _ => -1
 | _ :: _, [] => 1
 | a :: s, b :: t => if Op.bytesLess a.toList b.toList = true then -1 else if a = b then cmpL s t else 1
theorem cmp_f (a b : ByteArray) : cmp_Compare_string.f a b = some (if Op.bytesLess a.toList b.toList = true then -1 else if a = b then 0 else 1) := by
 rw [cmp_Compare_string.f, tl_beq]
 by_cases h : a = b
 ·simp [h]
 ·simp [h]
theorem compare_l (x y : List ByteArray) (hx : x.length < 4611686018427387904) : ∀ (m i k : Nat), x.length - i = m → i ≤ x.length → i ≤ y.length → m + 1 ≤ k → slices_Compare_string_string.l0 k x y x (x.length : Int) (i : Int) = some (cmpL (x.drop i) (y.drop i)) := by
 intro m
 induction m with
 | zero =>
  intro i k hm hi hy hk
  obtain ⟨k, rfl⟩ : ∃ j, k = j + 1 := ⟨k - 1, by omega⟩
  obtain rfl : i = x.length := by omega
  rw [slices_Compare_string_string.l0, if_neg (by omega), List.drop_length]
  by_cases h : x.length < y.length
  ·rw [if_pos (by omega), List.drop_eq_getElem_cons h]; rfl
  ·rw [if_neg (by omega), List.drop_eq_nil_of_le (by omega)]; rfl
 | succ m ih =>
  intro i k hm hi hy hk
  obtain ⟨k, rfl⟩ : ∃ j, k = j + 1 := ⟨k - 1, by omega⟩
  have hlt : i < x.length := by omega
  rw [slices_Compare_string_string.l0, if_pos (by omega), if_pos (by omega), if_pos (by omega), List.drop_eq_getElem_cons hlt]
  by_cases hy2 : i < y.length
  ·rw [if_neg (by omega), if_pos (by omega), rdOf_get x i hlt, rdOf_get y i hy2, List.drop_eq_getElem_cons hy2, cmp_f, Option.bind_some, cmpL]
   by_cases h1 : Op.bytesLess (x[i]).toList (y[i]).toList = true
   ·rw [if_pos h1, if_pos h1, if_neg (by decide)]
   ·rw [if_neg h1, if_neg h1]
    by_cases h2 : x[i] = y[i]
    ·rw [if_pos h2, if_pos h2, if_pos rfl, wr64 _ (by omega) (by omega)]
     exact ih (i + 1) k (by omega) (by omega) (by omega) (by omega)
    ·rw [if_neg h2, if_neg h2, if_neg (by decide)]
  ·rw [if_pos (by omega), List.drop_eq_nil_of_le (show y.length ≤ i by omega)]
   rfl
theorem compare_f (x y : List ByteArray) (k : Nat) (hx : x.length < 4611686018427387904) (hk : x.length + 1 ≤ k) : slices_Compare_string_string.f k x y = some (cmpL x y) := by
 have := compare_l x y hx x.length 0 k (by omega) (by omega) (by omega) (by omega)
 rw [List.drop_zero, List.drop_zero] at this
 exact this
def sml (a : ByteArray) : Prop := a.size ≤ 1048576
theorem psplit_f (a : ByteArray) (h : sml a) : path_Split.f a = some (splitL a) := by
 unfold sml at h
 rw [path_Split.f, if_pos (by omega)]
theorem rsp_f (a : ByteArray) (h : sml a) (k : Nat) (hk : 1048580 ≤ k) : remoraref13_Split.f k a = some (splitL a) := by
 unfold sml at h
 exact rsplit_f a (by omega) k (by omega)
theorem spl_len (a : ByteArray) (h : sml a) : (splitL a).length ≤ 1048577 := by
 unfold sml at h
 have := splitL_len a
 omega
theorem less_f (a b : ByteArray) (ha : sml a) (hb : sml b) (k : Nat) (hk : 1048580 ≤ k) : path_Less.f k a b = some (decide (cmpL (splitL a) (splitL b) < 0)) := by
 have := spl_len a ha
 rw [path_Less.f, psplit_f a ha, Option.bind_some, psplit_f b hb, Option.bind_some, compare_f _ _ k (by omega) (by omega), Option.bind_some]
theorem less_tail (a b : ByteArray) (s t : List ByteArray) (h : a ≠ b) : decide (cmpL (a :: s) (b :: t) < 0) = Op.bytesLess a.toList b.toList := by
 rw [cmpL]
 by_cases h1 : Op.bytesLess a.toList b.toList = true
 ·rw [if_pos h1, h1]; rfl
 ·rw [if_neg h1, if_neg h, Bool.eq_false_iff.2 h1]; rfl
theorem less_same (a : ByteArray) (s t : List ByteArray) (h : Op.bytesLess a.toList a.toList = false) : cmpL (a :: s) (a :: t) = cmpL s t := by
 rw [cmpL, if_neg (by rw [h]; decide), if_pos rfl]
theorem bl_irr : ∀ l : List UInt8, Op.bytesLess l l = false
 | [] => rfl
 | a :: t => by
  rw [Op.bytesLess, bl_irr t]
  simp
theorem rless_l (x y : List ByteArray) (hx : x.length < 4611686018427387904) : ∀ (m i k : Nat), x.length - i = m → i ≤ x.length → i ≤ y.length → 2 * m + 2 ≤ k → remoraref13_Less.l0 k x y (i : Int) = some (decide (cmpL (x.drop i) (y.drop i) < 0)) := by
 intro m
 induction m with
 | zero =>
  intro i k hm hi hy hk
  obtain ⟨k, rfl⟩ : ∃ j, k = j + 2 := ⟨k - 2, by omega⟩
  obtain rfl : i = x.length := by omega
  rw [remoraref13_Less.l0, if_neg (by omega), remoraref13_Less.j1, if_neg (by decide), List.drop_length]
  by_cases h : x.length < y.length
  ·rw [List.drop_eq_getElem_cons h, decide_eq_true (by omega)]; rfl
  ·rw [List.drop_eq_nil_of_le (by omega), decide_eq_false (by omega)]; rfl
 | succ m ih =>
  intro i k hm hi hy hk
  obtain ⟨k, rfl⟩ : ∃ j, k = j + 2 := ⟨k - 2, by omega⟩
  have hlt : i < x.length := by omega
  rw [remoraref13_Less.l0, if_pos (by omega), remoraref13_Less.j1, List.drop_eq_getElem_cons hlt]
  by_cases hy2 : i < y.length
  ·rw [if_pos (decide_eq_true (by omega)), if_pos (by omega), if_pos (by omega), if_pos (by omega), rdOf_get x i hlt, rdOf_get y i hy2, List.drop_eq_getElem_cons hy2]
   by_cases h : x[i] = y[i]
   ·rw [if_pos ((tl_eq _ _).2 h), wr64 _ (by omega) (by omega), h, less_same _ _ _ (bl_irr _)]
    exact ih (i + 1) k (by omega) (by omega) (by omega) (by omega)
   ·rw [if_neg (fun e => h ((tl_eq _ _).1 e)), less_tail _ _ _ _ h]
  ·rw [if_neg (by rw [decide_eq_false (by omega)]; decide), List.drop_eq_nil_of_le (show y.length ≤ i by omega), decide_eq_false (by omega)]
   rfl
theorem rless_f (a b : ByteArray) (ha : sml a) (hb : sml b) (k : Nat) (hk : 3000000 ≤ k) : remoraref13_Less.f k a b = some (decide (cmpL (splitL a) (splitL b) < 0)) := by
 have h1 := spl_len a ha
 rw [remoraref13_Less.f, rsp_f a ha k (by omega), Option.bind_some, rsp_f b hb k (by omega), Option.bind_some]
 exact rless_l _ _ (by omega) _ 0 k rfl (by omega) (by omega) (by omega)
end Go.Proofs.Ytodbmagneaiocaa.PA
namespace Go.Proofs.Ytodbmagneaiocaa.PA
open Go.RowKit Go.Proofs.YtodbmagneaiocaaW.PrintWords Go.Proofs.YtodbmagneaiocaaW.PrintLast Go.Proofs.YtodbmagneaiocaaW.PrintMore
attribute [local go_sem] max2_int min2_int max_two min_two max_three min_three max_four min_four
set_option linter.unusedVariables false
set_option linter.unusedSimpArgs false
open Go Go.Shelf Go.Lib Go.Sort
structure LS (P : Program) : Prop where
 mixed : P.follows .mixedOrders = true
 f49 : P.funcs[49]? = some Try.f49
 f48 : P.funcs[48]? = some Try.f48
 f47 : P.funcs[47]? = some Try.f47
 f46 : P.funcs[46]? = some Try.f46
 f44 : P.funcs[44]? = some Try.f44
 t3 : P.underlying 3 = some (TypeDesc.int IntKind.i64)
 a3 : ∀ w, (isAgg 3).run P w = .ok false w
 z3 : ∀ w, (Go.sizeOf 3).run P w = .ok 1 w
 v3 : ∀ w, (zeroValue 3).run P w = .ok (Value.int IntKind.i64 0) w
 t4 : P.underlying 4 = some (TypeDesc.bool)
 a4 : ∀ w, (isAgg 4).run P w = .ok false w
 z4 : ∀ w, (Go.sizeOf 4).run P w = .ok 1 w
 v4 : ∀ w, (zeroValue 4).run P w = .ok (Value.bool false) w
 t68 : P.underlying 68 = some (TypeDesc.int IntKind.u64)
 a68 : ∀ w, (isAgg 68).run P w = .ok false w
 z68 : ∀ w, (Go.sizeOf 68).run P w = .ok 1 w
 v68 : ∀ w, (zeroValue 68).run P w = .ok (Value.int IntKind.u64 0) w
 t22 : P.underlying 22 = some (TypeDesc.slice 43)
 a22 : ∀ w, (isAgg 22).run P w = .ok false w
 z22 : ∀ w, (Go.sizeOf 22).run P w = .ok 1 w
 v22 : ∀ w, (zeroValue 22).run P w = .ok (Value.slice none 0 0) w
theorem LS.here : LS Try.prog where
 mixed := by kernel_rfl
 f49 := Try.func49
 f48 := Try.func48
 f47 := Try.func47
 f46 := Try.func46
 f44 := Try.func44
 t3 := Try.underlying3
 a3 := Try.isAgg3
 z3 := Try.sizeOf3
 v3 := Try.zeroValue3
 t4 := Try.underlying4
 a4 := Try.isAgg4
 z4 := Try.sizeOf4
 v4 := Try.zeroValue4
 t68 := Try.underlying68
 a68 := Try.isAgg68
 z68 := Try.sizeOf68
 v68 := Try.zeroValue68
 t22 := Try.underlying22
 a22 := Try.isAgg22
 z22 := Try.sizeOf22
 v22 := Try.zeroValue22
theorem LS.e49 {P : Program} (L : LS P) : ∀ args w, (callFunc 49 args).run P w = .ok (.enter 49 args) w := enters_of L.f49 (by kernel_rfl) rfl
theorem LS.e48 {P : Program} (L : LS P) : ∀ args w, (callFunc 48 args).run P w = .ok (.enter 48 args) w := enters_of L.f48 (by kernel_rfl) rfl
theorem LS.e47 {P : Program} (L : LS P) : ∀ args w, (callFunc 47 args).run P w = .ok (.enter 47 args) w := enters_of L.f47 (by kernel_rfl) rfl
theorem LS.e46 {P : Program} (L : LS P) : ∀ args w, (callFunc 46 args).run P w = .ok (.enter 46 args) w := enters_of L.f46 (by kernel_rfl) rfl
section
variable {α : Type} [Inhabited α] (enc : α → List Value) (k : Nat)
def sWB (w : World) (blk off q : Nat) (dk : Array α) (os : Array Obj) : World := grow (redrawn (putRowK enc k w blk off dk) q) os
theorem sWB_regrown (w : World) (blk off q q' : Nat) (dk : Array α) (os os' : Array Obj) : grow (redrawn (sWB enc k w blk off q dk os) q') os' = sWB enc k w blk off q' dk (os ++ os') := by
 unfold sWB
 show grow (grow (redrawn (putRowK enc k w blk off dk) q') os) os' = _
 rw [grow_grow]
theorem sWB_start (w : World) (blk off : Nat) (d : Array α) (h : HoldsK enc k w blk off d) : sWB enc k w blk off w.drawn d #[] = w := by
 unfold sWB
 rw [grow_empty, putRowK_self enc k w blk off d h]
 rfl
theorem sWB_drew (w : World) (blk off q : Nat) (dk : Array α) (os : Array Obj) : (sWB enc k w blk off q dk os).drew = sWB enc k w blk off (q + 1) dk os := rfl
theorem sWB_holds (w : World) (blk off q : Nat) (d dk : Array α) (os : Array Obj) (hH : HoldsK enc k w blk off d) (hblk : blk < w.heap.size) (hs : dk.size = d.size) : HoldsK enc k (sWB enc k w blk off q dk os) blk off dk := by
 unfold sWB
 exact holdsK_grow enc k _ os blk off dk (by show blk < (putRowK enc k w blk off dk).heap.size; rw [size_putRowK]; exact hblk) (show HoldsK enc k (putRowK enc k w blk off dk) blk off dk from holdsK_putRowK enc k _ blk off d dk hH hs)
theorem sWB_size (w : World) (blk off q : Nat) (dk : Array α) (os : Array Obj) : w.heap.size ≤ (sWB enc k w blk off q dk os).heap.size := by
 unfold sWB
 rw [size_grow]
 show w.heap.size ≤ (putRowK enc k w blk off dk).heap.size + _
 rw [size_putRowK]
 exact Nat.le_add_right _ _
theorem setCells_redrawn (b : Nat) : ∀ (vs : List Value) (o q : Nat) (w : World), (redrawn w q).setCells b o vs = redrawn (w.setCells b o vs) q
 | [], _, _, _ => rfl
 | v :: r, o, q, w => by
  rw [World.setCells, World.setCells, ← setCells_redrawn b r (o + 1) q]
  rfl
theorem sWB_swp (hk : ∀ x, (enc x).length = k) (w : World) (blk off q : Nat) (dk : Array α) (os : Array Obj) (hblk : blk < w.heap.size) (i j : Nat) (hi : i < dk.size) (hj : j < dk.size) :
  (((sWB enc k w blk off q dk os).setCells blk (off + i * k) (enc dk[j]!)).setCells blk (off + j * k) (enc dk[i]!)) = sWB enc k w blk off q (swp dk i j) os := by
 have hs : ∀ X : World, X.heap.size = w.heap.size → blk < (redrawn X q).heap.size := fun X h => by show blk < X.heap.size; rw [h]; exact hblk
 unfold sWB
 rw [setCells_grow os blk _ _ _ (hs _ (size_putRowK enc k w blk off dk)), setCells_redrawn, setCells_grow os blk _ _ _ (hs _ (by rw [size_setCells]; exact size_putRowK enc k w blk off dk)), setCells_redrawn, putRowK_swp enc k hk w blk off dk i j hi hj]
theorem sWB_on (w : World) (blk off q q' : Nat) (dk dk' : Array α) (os os' : Array Obj) (hblk : blk < w.heap.size) (h : dk'.size = dk.size) : sWB enc k (sWB enc k w blk off q dk os) blk off q' dk' os' = sWB enc k w blk off q' dk' (os ++ os') := by
 have := grow_step_growK enc k w os os' 0 0 blk off dk dk' hblk h
 unfold sWB
 exact congrArg (fun X => redrawn X q') this
end
def CmpB (P : Program) {α : Type} [Inhabited α] (g : Nat) (cb : Array Value) (enc : α → List Value) (k : Nat) (cf : α → α → Int) (blk off size : Nat) (w : World) : Prop :=
 ∀ (q : Nat) (os : Array Obj) (dk : Array α), dk.size = size → ∀ x y : α,
  Calls P g (#[.agg (enc x).toArray, .agg (enc y).toArray] ++ cb) (sWB enc k w blk off q dk os) fun e w' => e = .returned (.int .i64 (cf x y)) ∧ Below (sWB enc k w blk off q dk os).heap.size (sWB enc k w blk off q dk os) w'
theorem CmpB.on {P : Program} {α : Type} [Inhabited α] {g : Nat} {cb : Array Value} {enc : α → List Value} {k : Nat} {cf : α → α → Int} {blk off size : Nat} {w : World} (h : CmpB P g cb enc k cf blk off size w) (hblk : blk < w.heap.size) (q : Nat) (dk : Array α) (os : Array Obj) (hs : dk.size = size) : CmpB P g cb enc k cf blk off size (sWB enc k w blk off q dk os) := fun q' os' dk' hs' x y => by
 rw [sWB_on enc k w blk off q q' dk dk' os os' hblk (hs'.trans hs.symm)]
 exact h q' _ dk' hs' x y
def swapsA {α : Type} [Inhabited α] (d : Array α) (a b : Nat) : Nat → Array α
 | 0 => d
 | n + 1 => swp (swapsA d a b n) (a + n) (b + n)
theorem size_swapsA {α : Type} [Inhabited α] (d : Array α) (a b : Nat) : ∀ n, (swapsA d a b n).size = d.size
 | 0 => rfl
 | n + 1 => by rw [swapsA, size_swp, size_swapsA d a b n]
set_option maxHeartbeats 4000000 in
set_option maxRecDepth 1000000 in
theorem swapRange_call {P : Program} (L : LS P) {α : Type} [Inhabited α] (enc : α → List Value) (k : Nat) (aE : ∀ w, (isAgg 43).run P w = .ok true w) (zE : ∀ w, (Go.sizeOf 43).run P w = .ok k w) (hk : ∀ x, (enc x).length = k) (h1 : ∀ x, ∀ v ∈ enc x, v.oneCell' = true)
  (fv : Value) (blk off cap a b n : Nat) (d : Array α) (w : World) (hH : HoldsK enc k w blk off d) (hblk : blk < w.heap.size) (ha : a + n ≤ d.size) (hb : b + n ≤ d.size) (hsz : d.size < 1000000000000) :
  Calls P 49 #[.slice (some ⟨blk, off, none⟩) d.size cap, .int .i64 a, .int .i64 b, .int .i64 n, fv] w fun e w' =>
   e = .returned (.tuple #[]) ∧ ∃ q os, w' = sWB enc k w blk off q (swapsA d a b n) os := by
 have mixed := L.mixed
 have t3 := L.t3; have a3 := L.a3; have z3 := L.z3; have v3 := L.v3; have t4 := L.t4; have a4 := L.a4; have z4 := L.z4; have v4 := L.v4; have t68 := L.t68; have a68 := L.a68; have z68 := L.z68; have v68 := L.v68; have t22 := L.t22; have a22 := L.a22; have z22 := L.z22; have v22 := L.v22
 have F := L.f49
 have HST : Hid (w = sWB enc k w blk off w.drawn d #[]) := (sWB_start enc k w blk off d hH).symm
 have HH : Hid (HoldsK enc k w blk off d) := hH
 have HK : Hid (∀ x, (enc x).length = k) := hk
 have H1 : Hid (∀ x, ∀ v ∈ enc x, v.oneCell' = true) := h1
 clear hH hk h1
 go_enter F, Try.ntmps49
 go_wp2
 go_loopg [10] n (fun g1 vi wr => ∃ (i q : Nat) (os : Array Obj), vi = .int .i64 i ∧ i ≤ n ∧ n - i ≤ g1 ∧ wr = sWB enc k w blk off q (swapsA d a b i) os)
 case atStart => exact ⟨0, _, #[], by go_num, by omega, by omega, HST.out⟩
 case round =>
  obtain ⟨i, q, os, rfl, hi, hg1, rfl⟩ := hrel
  obtain ⟨dk, hdk⟩ : ∃ dk, swapsA d a b i = dk := ⟨_, rfl⟩
  have hsk : dk.size = d.size := by rw [← hdk, size_swapsA]
  by_cases hlt : i < n
  ·have hltz : (i : Int) < (n : Int) := by omega
   obtain ⟨xa, hxa⟩ : ∃ x, dk[a + i]! = x := ⟨_, rfl⟩
   obtain ⟨xb, hxb⟩ : ∃ x, dk[b + i]! = x := ⟨_, rfl⟩
   have ja0 : (0 : Int) ≤ (a : Int) + (i : Int) := by omega
   have jb0 : (0 : Int) ≤ (b : Int) + (i : Int) := by omega
   have ja : (a : Int) + (i : Int) < (d.size : Int) := by omega
   have jb : (b : Int) + (i : Int) < (d.size : Int) := by omega
   have ea : ((a : Int) + (i : Int)).toNat = a + i := by omega
   have eb : ((b : Int) + (i : Int)).toNat = b + i := by omega
   have hHd : HoldsK enc k (sWB enc k w blk off q dk os).drew blk off dk := sWB_holds enc k w blk off q d dk os HH.out hblk hsk
   have bnd : ∀ x, x < dk.size → x * k + k ≤ dk.size * k := fun x hx => by
    have := Nat.mul_le_mul_right k (show x + 1 ≤ dk.size from hx); rwa [Nat.add_mul, Nat.one_mul] at this
   rw [hdk]
   have HDK : Hid (swapsA d a b (i + 1) = swp dk (a + i) (b + i)) := by show _ = _; rw [swapsA, hdk]
   clear hdk
   have HSW : Hid (((sWB enc k w blk off q dk os).drew.setCells blk (off + (a + i) * k) (enc xb)).setCells blk (off + (b + i) * k) (enc xa) = sWB enc k w blk off (q + 1) (swp dk (a + i) (b + i)) os) := by
    show _ = _
    rw [sWB_drew, ← hxb, ← hxa]
    exact sWB_swp enc k HK.out w blk off (q + 1) dk os hblk (a + i) (b + i) (by omega) (by omega)
   generalize sWB enc k w blk off q dk os = wq at hHd HSW ⊢
   have la : Sem.run P (loadCellsFrom ⟨blk, off + (a + i) * k, none⟩ 0 k #[]) wq.drew = .ok (enc xa).toArray wq.drew := by rw [← hxa]; exact run_loadCellsFrom_list P _ _ _ k (HK.out _) (HoldsK.cells hHd HK.out (by omega))
   have lb : Sem.run P (loadCellsFrom ⟨blk, off + (b + i) * k, none⟩ 0 k #[]) wq.drew = .ok (enc xb).toArray wq.drew := by rw [← hxb]; exact run_loadCellsFrom_list P _ _ _ k (HK.out _) (HoldsK.cells hHd HK.out (by omega))
   have s1 : Sem.run P (storeCells ⟨blk, off + (a + i) * k, none⟩ (enc xb) 0) wq.drew = .ok () (wq.drew.setCells blk (off + (a + i) * k) (enc xb)) := stores_of_holds P hHd ((a + i) * k) _ (by rw [HK.out, size_flatK]; exact bnd (a + i) (by omega)) (H1.out _)
   have s2 : Sem.run P (storeCells ⟨blk, off + (b + i) * k, none⟩ (enc xa) 0) (wq.drew.setCells blk (off + (a + i) * k) (enc xb)) = .ok () ((wq.drew.setCells blk (off + (a + i) * k) (enc xb)).setCells blk (off + (b + i) * k) (enc xa)) :=
    stores_of_holds P (holds_setCells_c hHd ((a + i) * k) _ (by rw [HK.out, size_flatK]; exact bnd (a + i) (by omega))) ((b + i) * k) _ (by rw [HK.out, size_setMany, size_flatK]; exact bnd (b + i) (by omega)) (H1.out _)
   have hsA : (enc xa).length = k := HK.out _
   have hsB : (enc xb).length = k := HK.out _
   clear hHd bnd hxa hxb
   obtain ⟨cA, hcA⟩ : ∃ c, enc xa = c := ⟨_, rfl⟩
   obtain ⟨cB, hcB⟩ : ∃ c, enc xb = c := ⟨_, rfl⟩
   rw [hcA] at la s2 hsA HSW
   rw [hcB] at lb s1 s2 hsB HSW
   clear hcA hcB
   go_wp2_with fail
   go_big_region_o
   all_goals go_wp2
   go_roundg (n - (i + 1))
   case measure => omega
   case rel => exact ⟨i + 1, q + 1, os, by go_num, by omega, Nat.le_refl _, by rw [HDK.out]; exact HSW.out⟩
  ·have hltz : ¬ (i : Int) < (n : Int) := by omega
   obtain rfl : i = n := by omega
   go_wp2
   go_end0
   exact ⟨rfl, q, os, rfl⟩
end Go.Proofs.Ytodbmagneaiocaa.PA
namespace Go.Proofs.Ytodbmagneaiocaa.PA
open Go.RowKit Go.Proofs.YtodbmagneaiocaaW.PrintWords Go.Proofs.YtodbmagneaiocaaW.PrintLast Go.Proofs.YtodbmagneaiocaaW.PrintMore
attribute [local go_sem] max2_int min2_int max_two min_two max_three min_three max_four min_four
set_option linter.unusedVariables false
set_option linter.unusedSimpArgs false
open Go Go.Shelf Go.Lib Go.Sort
abbrev E43 := {x : S43 // sml x.f0}
instance : Inhabited E43 := ⟨⟨z43, Nat.zero_le _⟩⟩
def cells43 (x : S43) : List Value := [.string x.f0, .int .i64 x.f1, .int .i64 x.f2, .int .i64 x.f3.f0, .int .i64 x.f3.f1, .int .i64 x.f3.f2, .int .i64 x.f3.f3, .int .i64 x.f3.f4, .string x.f4, .string x.f5, .int .i64 x.f6]
def enc43 (x : E43) : List Value := cells43 x.1
theorem enc43_len (x : E43) : (enc43 x).length = 11 := rfl
theorem enc43_one (x : E43) : ∀ v ∈ enc43 x, v.oneCell' = true := by
 intro v hv
 simp only [enc43, cells43, List.mem_cons, List.not_mem_nil, or_false] at hv
 rcases hv with rfl | rfl | rfl | rfl | rfl | rfl | rfl | rfl | rfl | rfl | rfl <;> rfl
theorem lift43 : ∀ l : List S43, (∀ x ∈ l, sml x.f0) → ∃ m : List E43, m.map (·.1) = l
 | [], _ => ⟨[], rfl⟩
 | x :: l, h => by
  obtain ⟨m, hm⟩ := lift43 l (fun y hy => h y (by simp [hy]))
  exact ⟨⟨x, h x (by simp)⟩ :: m, by simp [hm]⟩
theorem row_holds {W : World} {base : Nat} {v : Value} (m : List E43) (h : Kd.R k43 43 W base (fun _ => True) v (m.map (·.1))) :
  (v = .slice none 0 0 ∧ m = []) ∨ ∃ g cap cur, v = .slice (some ⟨g, 0, none⟩) m.length cap ∧ base ≤ g ∧ W.heap[g]? = some (.cells cur 43 (0, 0)) ∧ m.length ≤ cap ∧ cap ≤ maxLen ∧ cur.size = cap * 11 ∧ HoldsK enc43 11 W g 0 m.toArray := by
 obtain ⟨_, inner, ho, hr⟩ := h
 have hml : (m.map (·.1)).length = m.length := List.length_map _
 rw [hml] at ho
 obtain ⟨hil, ho⟩ := ho
 rcases ho with ⟨rfl, h0⟩ | ⟨g, cap, cur, rfl, hb, hh, h1, h2, h3, h4⟩
 ·exact Or.inl ⟨rfl, List.length_eq_zero_iff.1 h0⟩
 ·refine Or.inr ⟨g, cap, cur, rfl, hb, hh, h1, h2, h3, fun t ht => ?_⟩
  rw [size_flatK] at ht
  have ht' : t < m.length * 11 := by simpa using ht
  refine ⟨?_, by rw [Nat.zero_add]; exact blk_frozen hh t⟩
  rw [Nat.zero_add, blk_cell hh t, get_flatK enc43 11 m.toArray t ht]
  have hj : t / 11 < m.length := by omega
  have hp : (m.map (·.1))[t / 11]? = some (m[t / 11]).1 := by rw [List.getElem?_map, List.getElem?_eq_getElem hj]; rfl
  have hc := k43_openM (hr.2 (t / 11) _ hp)
  have hc : (inner.drop (t / 11 * 11)).take 11 = cells43 (m[t / 11]).1 := hc
  have he : inner[t]? = (cells43 (m[t / 11]).1)[t % 11]? := by
   rw [← hc, List.getElem?_take, if_pos (by omega), List.getElem?_drop]
   congr 1
   omega
  have hcur : cur[t]? = inner[t]? := by
   rw [← h4, List.getElem?_take, if_pos (by show t < m.length * k43.sz; exact ht'), Array.getElem?_toList]
  have hd : m.toArray[t / 11]! = m[t / 11] := by
   simp [hj]
  rw [hcur, he, hd]
  show (cells43 (m[t / 11]).1)[t % 11]? = some ((cells43 (m[t / 11]).1)[t % 11]!)
  have hl : (cells43 (m[t / 11]).1).length = 11 := rfl
  rw [List.getElem?_eq_getElem (by omega), getElem!_pos _ _ (by omega)]
theorem holds_row {W : World} {base g cap : Nat} {cur : Array Value} (d : Array E43) (hb : base ≤ g) (hh : W.heap[g]? = some (.cells cur 43 (0, 0))) (h1 : d.size ≤ cap) (h2 : cap ≤ maxLen) (h3 : cur.size = cap * 11) (hH : HoldsK enc43 11 W g 0 d) :
  Kd.R k43 43 W base (fun _ => True) (.slice (some ⟨g, 0, none⟩) d.size cap) (d.toList.map (·.1)) := by
 have hml : (d.toList.map (·.1)).length = d.size := by rw [List.length_map, Array.length_toList]
 refine ⟨fun _ _ => trivial, cur.toList.take (d.size * 11), ?_, ?_⟩
 ·rw [hml]
  refine ⟨?_, Or.inr ⟨g, cap, cur, rfl, hb, hh, h1, h2, h3, rfl⟩⟩
  rw [List.length_take, Array.length_toList, h3]
  show min (d.size * 11) (cap * 11) = d.size * 11
  omega
 ·refine ⟨?_, fun j p hp => ?_⟩
  ·rw [hml, List.length_take, Array.length_toList, h3]
   show min (d.size * 11) (cap * 11) = d.size * 11
   omega
  ·have hj : j < d.size := by
    have := (List.getElem?_eq_some_iff.1 hp).1
    omega
   have hpe : p = (d[j]).1 := by
    rw [List.getElem?_map, List.getElem?_eq_getElem (by rw [Array.length_toList]; exact hj)] at hp
    simpa using hp.symm
   have hcell : ((cur.toList.take (d.size * 11)).drop (j * 11)).take 11 = cells43 p := by
    apply List.ext_getElem?
    intro i
    by_cases hi : i < 11
    ·rw [List.getElem?_take, if_pos hi, List.getElem?_drop, List.getElem?_take, if_pos (by omega), Array.getElem?_toList]
     have hF := (hH (j * 11 + i) (by rw [size_flatK]; omega)).1
     rw [Nat.zero_add, blk_cell hh (j * 11 + i), get_flatK enc43 11 d _ (by omega)] at hF
     rw [hF, show (j * 11 + i) / 11 = j by omega, show (j * 11 + i) % 11 = i by omega, hpe, getElem!_pos d j hj]
     show some ((cells43 (d[j]).1)[i]!) = (cells43 (d[j]).1)[i]?
     have hl : (cells43 (d[j]).1).length = 11 := rfl
     rw [List.getElem?_eq_getElem (by omega), getElem!_pos _ _ (by omega)]
    ·rw [List.getElem?_eq_none (by rw [List.length_take]; omega), List.getElem?_eq_none (by show 11 ≤ i; omega)]
   show k43.M W base _ p (((cur.toList.take (d.size * 11)).drop (j * 11)).take 11)
   rw [hcell]
   exact k43_mkM _ _ _ p
theorem sWB_row (w : World) (g q : Nat) (d : Array E43) (os : Array Obj) (cur : Array Value) (hh : w.heap[g]? = some (.cells cur 43 (0, 0))) : ∃ cur', (sWB enc43 11 w g 0 q d os).heap[g]? = some (.cells cur' 43 (0, 0)) ∧ cur'.size = cur.size := by
 have hlt : g < w.heap.size := (Array.getElem?_eq_some_iff.1 hh).1
 refine ⟨putCells id 0 (flatK enc43 11 d) cur, ?_, by unfold putCells; simp⟩
 unfold sWB grow redrawn putRowK putRow mapBlock
 show ((w.heap.modify g _) ++ os)[g]? = _
 rw [Array.getElem?_append_left (by rw [Array.size_modify]; exact hlt), Array.getElem?_modify, if_pos rfl, hh]
 rfl
theorem sWB_below (w : World) (g q b : Nat) (d : Array E43) (os : Array Obj) (hb : b ≤ g) (hg : g < w.heap.size) : Below b w (sWB enc43 11 w g 0 q d os) := by
 refine ⟨rfl, rfl, rfl, sWB_size enc43 11 w g 0 q d os, fun k hk => ?_⟩
 unfold sWB grow redrawn putRowK putRow mapBlock
 show ((w.heap.modify g _) ++ os)[k]? = _
 rw [Array.getElem?_append_left (by rw [Array.size_modify]; omega), Array.getElem?_modify, if_neg (by omega)]
end Go.Proofs.Ytodbmagneaiocaa.PA
namespace Go.Proofs.Ytodbmagneaiocaa.PA
open Go.RowKit Go.Proofs.YtodbmagneaiocaaW.PrintWords Go.Proofs.YtodbmagneaiocaaW.PrintLast Go.Proofs.YtodbmagneaiocaaW.PrintMore
attribute [local go_sem] max2_int min2_int max_two min_two max_three min_three max_four min_four
set_option linter.unusedVariables false
set_option linter.unusedSimpArgs false
def ltS (x y : S43) : Bool := decide (cmpL (splitL x.f0) (splitL y.f0) < 0)
def cf43 (x y : E43) : Int := if ltS x.1 y.1 = true then -1 else if ltS y.1 x.1 = true then 1 else 0
theorem ltOf_cf43 (x y : E43) : ltOf cf43 x y = ltS x.1 y.1 := by
 unfold ltOf cf43
 by_cases h : ltS x.1 y.1 = true
 ·rw [if_pos h, h]
  rfl
 ·rw [if_neg h, show ltS x.1 y.1 = false by simpa using h]
  split <;> rfl
set_option maxHeartbeats 2000000 in
set_option maxRecDepth 100000 in
theorem lessE_call (x y : S43) (hx : sml x.f0) (hy : sml y.f0) (w : World) :
  Calls Try.prog 35 #[.agg #[.string x.f0, .int .i64 x.f1, .int .i64 x.f2, .int .i64 x.f3.f0, .int .i64 x.f3.f1, .int .i64 x.f3.f2, .int .i64 x.f3.f3, .int .i64 x.f3.f4, .string x.f4, .string x.f5, .int .i64 x.f6], .agg #[.string y.f0, .int .i64 y.f1, .int .i64 y.f2, .int .i64 y.f3.f0, .int .i64 y.f3.f1, .int .i64 y.f3.f2, .int .i64 y.f3.f3, .int .i64 y.f3.f4, .string y.f4, .string y.f5, .int .i64 y.f6]] w fun e w' => e = .returned (.bool (ltS x y)) ∧ Below w.heap.size w w' := by
 have hu := Try.underlying43
 obtain ⟨k, hk⟩ : ∃ k, k = 1048600 := ⟨_, rfl⟩
 have hl := fun W => path_Less.calls k x.f0 y.f0 _ W (less_f x.f0 y.f0 hx hy k (by omega))
 have HB := Aside0.mk (below_alloc (below_alloc (Below.refl w.heap.size w) (.cells #[.string x.f0, .int .i64 x.f1, .int .i64 x.f2, .int .i64 x.f3.f0, .int .i64 x.f3.f1, .int .i64 x.f3.f2, .int .i64 x.f3.f3, .int .i64 x.f3.f4, .string x.f4, .string x.f5, .int .i64 x.f6] 43 (0, 0))) (.cells #[.string y.f0, .int .i64 y.f1, .int .i64 y.f2, .int .i64 y.f3.f0, .int .i64 y.f3.f1, .int .i64 y.f3.f2, .int .i64 y.f3.f3, .int .i64 y.f3.f4, .string y.f4, .string y.f5, .int .i64 y.f6] 43 (0, 0)))
 go_enter Try.func35, Try.ntmps35
 go_wp2_with (go_at_call 33; (with_reducible refine (hl _).mono ?_); rintro e w1 ⟨rfl, hb⟩; have n0_ := Aside0.mk (below_step HB.out hb); clear HB hb; have HB := n0_; clear n0_)
 go_ret
 exact ⟨rfl, HB.out⟩
set_option maxHeartbeats 4000000 in
set_option maxRecDepth 100000 in
theorem cmpE_call (x y : E43) (g : Nat) (w : World) (hg : w.cell? ⟨g, 0, none⟩ = some (.func (.func 35) #[] #[])) :
  Calls Try.prog 41 #[.agg (enc43 x).toArray, .agg (enc43 y).toArray, .pointer (some ⟨g, 0, none⟩)] w fun e w' => e = .returned (.int .i64 (cf43 x y)) ∧ Below w.heap.size w w' := by
 obtain ⟨x, hx⟩ := x
 obtain ⟨y, hy⟩ := y
 have hlt := World.block_lt_of_cell? w _ hg
 have HG := Aside0.mk hg
 have HL := Aside0.mk hlt
 have hu := Try.underlying43
 show Calls Try.prog 41 #[.agg #[.string x.f0, .int .i64 x.f1, .int .i64 x.f2, .int .i64 x.f3.f0, .int .i64 x.f3.f1, .int .i64 x.f3.f2, .int .i64 x.f3.f3, .int .i64 x.f3.f4, .string x.f4, .string x.f5, .int .i64 x.f6], .agg #[.string y.f0, .int .i64 y.f1, .int .i64 y.f2, .int .i64 y.f3.f0, .int .i64 y.f3.f1, .int .i64 y.f3.f2, .int .i64 y.f3.f3, .int .i64 y.f3.f4, .string y.f4, .string y.f5, .int .i64 y.f6], .pointer (some ⟨g, 0, none⟩)] w _
 have HB := Aside0.mk (below_alloc (below_alloc (Below.refl w.heap.size w) (.cells #[.string x.f0, .int .i64 x.f1, .int .i64 x.f2, .int .i64 x.f3.f0, .int .i64 x.f3.f1, .int .i64 x.f3.f2, .int .i64 x.f3.f3, .int .i64 x.f3.f4, .string x.f4, .string x.f5, .int .i64 x.f6] 43 (0, 0))) (.cells #[.string y.f0, .int .i64 y.f1, .int .i64 y.f2, .int .i64 y.f3.f0, .int .i64 y.f3.f1, .int .i64 y.f3.f2, .int .i64 y.f3.f3, .int .i64 y.f3.f4, .string y.f4, .string y.f5, .int .i64 y.f6] 43 (0, 0)))
 have hc0 : ((w.alloc (.cells #[.string x.f0, .int .i64 x.f1, .int .i64 x.f2, .int .i64 x.f3.f0, .int .i64 x.f3.f1, .int .i64 x.f3.f2, .int .i64 x.f3.f3, .int .i64 x.f3.f4, .string x.f4, .string x.f5, .int .i64 x.f6] 43 (0, 0))).alloc (.cells #[.string y.f0, .int .i64 y.f1, .int .i64 y.f2, .int .i64 y.f3.f0, .int .i64 y.f3.f1, .int .i64 y.f3.f2, .int .i64 y.f3.f3, .int .i64 y.f3.f4, .string y.f4, .string y.f5, .int .i64 y.f6] 43 (0, 0))).cell? ⟨g, 0, none⟩ = some (.func (.func 35) #[] #[]) := (HB.out.cell hlt).trans hg
 have B1 := Aside0.mk (blk_alloc (blk_new w (.cells #[.string x.f0, .int .i64 x.f1, .int .i64 x.f2, .int .i64 x.f3.f0, .int .i64 x.f3.f1, .int .i64 x.f3.f2, .int .i64 x.f3.f3, .int .i64 x.f3.f4, .string x.f4, .string x.f5, .int .i64 x.f6] 43 (0, 0))) (.cells #[.string y.f0, .int .i64 y.f1, .int .i64 y.f2, .int .i64 y.f3.f0, .int .i64 y.f3.f1, .int .i64 y.f3.f2, .int .i64 y.f3.f3, .int .i64 y.f3.f4, .string y.f4, .string y.f5, .int .i64 y.f6] 43 (0, 0)))
 have B2 : Aside0 (((w.alloc (.cells #[.string x.f0, .int .i64 x.f1, .int .i64 x.f2, .int .i64 x.f3.f0, .int .i64 x.f3.f1, .int .i64 x.f3.f2, .int .i64 x.f3.f3, .int .i64 x.f3.f4, .string x.f4, .string x.f5, .int .i64 x.f6] 43 (0, 0))).alloc (.cells #[.string y.f0, .int .i64 y.f1, .int .i64 y.f2, .int .i64 y.f3.f0, .int .i64 y.f3.f1, .int .i64 y.f3.f2, .int .i64 y.f3.f3, .int .i64 y.f3.f4, .string y.f4, .string y.f5, .int .i64 y.f6] 43 (0, 0))).heap[w.heap.size + 1]? = some (.cells #[.string y.f0, .int .i64 y.f1, .int .i64 y.f2, .int .i64 y.f3.f0, .int .i64 y.f3.f1, .int .i64 y.f3.f2, .int .i64 y.f3.f3, .int .i64 y.f3.f4, .string y.f4, .string y.f5, .int .i64 y.f6] 43 (0, 0))) := ⟨by
  have := blk_new (w.alloc (.cells #[.string x.f0, .int .i64 x.f1, .int .i64 x.f2, .int .i64 x.f3.f0, .int .i64 x.f3.f1, .int .i64 x.f3.f2, .int .i64 x.f3.f3, .int .i64 x.f3.f4, .string x.f4, .string x.f5, .int .i64 x.f6] 43 (0, 0))) (.cells #[.string y.f0, .int .i64 y.f1, .int .i64 y.f2, .int .i64 y.f3.f0, .int .i64 y.f3.f1, .int .i64 y.f3.f2, .int .i64 y.f3.f3, .int .i64 y.f3.f4, .string y.f4, .string y.f5, .int .i64 y.f6] 43 (0, 0))
  rwa [World.size_alloc] at this⟩
 have h1 := fun W => lessE_call x y hx hy W
 have h2 := fun W => lessE_call y x hy hx W
 obtain ⟨b1, hb1⟩ : ∃ b, ltS x y = b := ⟨_, rfl⟩
 obtain ⟨b2, hb2⟩ : ∃ b, ltS y x = b := ⟨_, rfl⟩
 have HR : Aside0 (cf43 ⟨x, hx⟩ ⟨y, hy⟩ = if b1 = true then -1 else if b2 = true then 1 else 0) := ⟨by unfold cf43; rw [hb1, hb2]⟩
 simp only [hb1] at h1
 simp only [hb2] at h2
 clear hg hlt hb1 hb2
 cases b1 with
 | true =>
  go_enter Try.func41, Try.ntmps41
  go_wp2_with (first | (go_at_call 35; (with_reducible refine (h1 _).mono ?_); rintro e w9 ⟨rfl, hb⟩; have n0_ := Aside0.mk (below_step HB.out hb); have BX := Aside0.mk (blk_below B1.out hb); have BY := Aside0.mk (blk_below B2.out hb); have hc9 : w9.cell? ⟨g, 0, none⟩ = some (.func (.func 35) #[] #[]) := (n0_.out.cell HL.out).trans HG.out; clear HB hb; have HB := n0_; clear n0_; have hx_0 : w9.cell? ⟨w.heap.size, 0, none⟩ = some (.string x.f0) := (blk_cell BX.out 0).trans rfl; have hy_0 : w9.cell? ⟨w.heap.size + 1, 0, none⟩ = some (.string y.f0) := (blk_cell BY.out 0).trans rfl; have hx_1 : w9.cell? ⟨w.heap.size, 1, none⟩ = some (.int .i64 x.f1) := (blk_cell BX.out 1).trans rfl; have hy_1 : w9.cell? ⟨w.heap.size + 1, 1, none⟩ = some (.int .i64 y.f1) := (blk_cell BY.out 1).trans rfl; have hx_2 : w9.cell? ⟨w.heap.size, 2, none⟩ = some (.int .i64 x.f2) := (blk_cell BX.out 2).trans rfl; have hy_2 : w9.cell? ⟨w.heap.size + 1, 2, none⟩ = some (.int .i64 y.f2) := (blk_cell BY.out 2).trans rfl; have hx_3 : w9.cell? ⟨w.heap.size, 3, none⟩ = some (.int .i64 x.f3.f0) := (blk_cell BX.out 3).trans rfl; have hy_3 : w9.cell? ⟨w.heap.size + 1, 3, none⟩ = some (.int .i64 y.f3.f0) := (blk_cell BY.out 3).trans rfl; have hx_4 : w9.cell? ⟨w.heap.size, 4, none⟩ = some (.int .i64 x.f3.f1) := (blk_cell BX.out 4).trans rfl; have hy_4 : w9.cell? ⟨w.heap.size + 1, 4, none⟩ = some (.int .i64 y.f3.f1) := (blk_cell BY.out 4).trans rfl; have hx_5 : w9.cell? ⟨w.heap.size, 5, none⟩ = some (.int .i64 x.f3.f2) := (blk_cell BX.out 5).trans rfl; have hy_5 : w9.cell? ⟨w.heap.size + 1, 5, none⟩ = some (.int .i64 y.f3.f2) := (blk_cell BY.out 5).trans rfl; have hx_6 : w9.cell? ⟨w.heap.size, 6, none⟩ = some (.int .i64 x.f3.f3) := (blk_cell BX.out 6).trans rfl; have hy_6 : w9.cell? ⟨w.heap.size + 1, 6, none⟩ = some (.int .i64 y.f3.f3) := (blk_cell BY.out 6).trans rfl; have hx_7 : w9.cell? ⟨w.heap.size, 7, none⟩ = some (.int .i64 x.f3.f4) := (blk_cell BX.out 7).trans rfl; have hy_7 : w9.cell? ⟨w.heap.size + 1, 7, none⟩ = some (.int .i64 y.f3.f4) := (blk_cell BY.out 7).trans rfl; have hx_8 : w9.cell? ⟨w.heap.size, 8, none⟩ = some (.string x.f4) := (blk_cell BX.out 8).trans rfl; have hy_8 : w9.cell? ⟨w.heap.size + 1, 8, none⟩ = some (.string y.f4) := (blk_cell BY.out 8).trans rfl; have hx_9 : w9.cell? ⟨w.heap.size, 9, none⟩ = some (.string x.f5) := (blk_cell BX.out 9).trans rfl; have hy_9 : w9.cell? ⟨w.heap.size + 1, 9, none⟩ = some (.string y.f5) := (blk_cell BY.out 9).trans rfl; have hx_10 : w9.cell? ⟨w.heap.size, 10, none⟩ = some (.int .i64 x.f6) := (blk_cell BX.out 10).trans rfl; have hy_10 : w9.cell? ⟨w.heap.size + 1, 10, none⟩ = some (.int .i64 y.f6) := (blk_cell BY.out 10).trans rfl))
  go_ret
  exact ⟨by rw [HR.out]; rfl, HB.out⟩
 | false =>
  cases b2 with
  | true =>
   go_enter Try.func41, Try.ntmps41
   go_wp2_with (first | (go_at_call 35; (with_reducible refine (h1 _).mono ?_); rintro e w9 ⟨rfl, hb⟩; have n0_ := Aside0.mk (below_step HB.out hb); have BX := Aside0.mk (blk_below B1.out hb); have BY := Aside0.mk (blk_below B2.out hb); have hc9 : w9.cell? ⟨g, 0, none⟩ = some (.func (.func 35) #[] #[]) := (n0_.out.cell HL.out).trans HG.out; clear HB hb; have HB := n0_; clear n0_; have hx_0 : w9.cell? ⟨w.heap.size, 0, none⟩ = some (.string x.f0) := (blk_cell BX.out 0).trans rfl; have hy_0 : w9.cell? ⟨w.heap.size + 1, 0, none⟩ = some (.string y.f0) := (blk_cell BY.out 0).trans rfl; have hx_1 : w9.cell? ⟨w.heap.size, 1, none⟩ = some (.int .i64 x.f1) := (blk_cell BX.out 1).trans rfl; have hy_1 : w9.cell? ⟨w.heap.size + 1, 1, none⟩ = some (.int .i64 y.f1) := (blk_cell BY.out 1).trans rfl; have hx_2 : w9.cell? ⟨w.heap.size, 2, none⟩ = some (.int .i64 x.f2) := (blk_cell BX.out 2).trans rfl; have hy_2 : w9.cell? ⟨w.heap.size + 1, 2, none⟩ = some (.int .i64 y.f2) := (blk_cell BY.out 2).trans rfl; have hx_3 : w9.cell? ⟨w.heap.size, 3, none⟩ = some (.int .i64 x.f3.f0) := (blk_cell BX.out 3).trans rfl; have hy_3 : w9.cell? ⟨w.heap.size + 1, 3, none⟩ = some (.int .i64 y.f3.f0) := (blk_cell BY.out 3).trans rfl; have hx_4 : w9.cell? ⟨w.heap.size, 4, none⟩ = some (.int .i64 x.f3.f1) := (blk_cell BX.out 4).trans rfl; have hy_4 : w9.cell? ⟨w.heap.size + 1, 4, none⟩ = some (.int .i64 y.f3.f1) := (blk_cell BY.out 4).trans rfl; have hx_5 : w9.cell? ⟨w.heap.size, 5, none⟩ = some (.int .i64 x.f3.f2) := (blk_cell BX.out 5).trans rfl; have hy_5 : w9.cell? ⟨w.heap.size + 1, 5, none⟩ = some (.int .i64 y.f3.f2) := (blk_cell BY.out 5).trans rfl; have hx_6 : w9.cell? ⟨w.heap.size, 6, none⟩ = some (.int .i64 x.f3.f3) := (blk_cell BX.out 6).trans rfl; have hy_6 : w9.cell? ⟨w.heap.size + 1, 6, none⟩ = some (.int .i64 y.f3.f3) := (blk_cell BY.out 6).trans rfl; have hx_7 : w9.cell? ⟨w.heap.size, 7, none⟩ = some (.int .i64 x.f3.f4) := (blk_cell BX.out 7).trans rfl; have hy_7 : w9.cell? ⟨w.heap.size + 1, 7, none⟩ = some (.int .i64 y.f3.f4) := (blk_cell BY.out 7).trans rfl; have hx_8 : w9.cell? ⟨w.heap.size, 8, none⟩ = some (.string x.f4) := (blk_cell BX.out 8).trans rfl; have hy_8 : w9.cell? ⟨w.heap.size + 1, 8, none⟩ = some (.string y.f4) := (blk_cell BY.out 8).trans rfl; have hx_9 : w9.cell? ⟨w.heap.size, 9, none⟩ = some (.string x.f5) := (blk_cell BX.out 9).trans rfl; have hy_9 : w9.cell? ⟨w.heap.size + 1, 9, none⟩ = some (.string y.f5) := (blk_cell BY.out 9).trans rfl; have hx_10 : w9.cell? ⟨w.heap.size, 10, none⟩ = some (.int .i64 x.f6) := (blk_cell BX.out 10).trans rfl; have hy_10 : w9.cell? ⟨w.heap.size + 1, 10, none⟩ = some (.int .i64 y.f6) := (blk_cell BY.out 10).trans rfl))
   refine (h2 _).mono ?_
   rintro e w10 ⟨rfl, hb⟩
   have n0_ := Aside0.mk (below_step HB.out hb)
   clear HB hb
   have HB := n0_
   clear n0_
   go_wp2
   go_ret
   exact ⟨by rw [HR.out]; rfl, HB.out⟩
  | false =>
   go_enter Try.func41, Try.ntmps41
   go_wp2_with (first | (go_at_call 35; (with_reducible refine (h1 _).mono ?_); rintro e w9 ⟨rfl, hb⟩; have n0_ := Aside0.mk (below_step HB.out hb); have BX := Aside0.mk (blk_below B1.out hb); have BY := Aside0.mk (blk_below B2.out hb); have hc9 : w9.cell? ⟨g, 0, none⟩ = some (.func (.func 35) #[] #[]) := (n0_.out.cell HL.out).trans HG.out; clear HB hb; have HB := n0_; clear n0_; have hx_0 : w9.cell? ⟨w.heap.size, 0, none⟩ = some (.string x.f0) := (blk_cell BX.out 0).trans rfl; have hy_0 : w9.cell? ⟨w.heap.size + 1, 0, none⟩ = some (.string y.f0) := (blk_cell BY.out 0).trans rfl; have hx_1 : w9.cell? ⟨w.heap.size, 1, none⟩ = some (.int .i64 x.f1) := (blk_cell BX.out 1).trans rfl; have hy_1 : w9.cell? ⟨w.heap.size + 1, 1, none⟩ = some (.int .i64 y.f1) := (blk_cell BY.out 1).trans rfl; have hx_2 : w9.cell? ⟨w.heap.size, 2, none⟩ = some (.int .i64 x.f2) := (blk_cell BX.out 2).trans rfl; have hy_2 : w9.cell? ⟨w.heap.size + 1, 2, none⟩ = some (.int .i64 y.f2) := (blk_cell BY.out 2).trans rfl; have hx_3 : w9.cell? ⟨w.heap.size, 3, none⟩ = some (.int .i64 x.f3.f0) := (blk_cell BX.out 3).trans rfl; have hy_3 : w9.cell? ⟨w.heap.size + 1, 3, none⟩ = some (.int .i64 y.f3.f0) := (blk_cell BY.out 3).trans rfl; have hx_4 : w9.cell? ⟨w.heap.size, 4, none⟩ = some (.int .i64 x.f3.f1) := (blk_cell BX.out 4).trans rfl; have hy_4 : w9.cell? ⟨w.heap.size + 1, 4, none⟩ = some (.int .i64 y.f3.f1) := (blk_cell BY.out 4).trans rfl; have hx_5 : w9.cell? ⟨w.heap.size, 5, none⟩ = some (.int .i64 x.f3.f2) := (blk_cell BX.out 5).trans rfl; have hy_5 : w9.cell? ⟨w.heap.size + 1, 5, none⟩ = some (.int .i64 y.f3.f2) := (blk_cell BY.out 5).trans rfl; have hx_6 : w9.cell? ⟨w.heap.size, 6, none⟩ = some (.int .i64 x.f3.f3) := (blk_cell BX.out 6).trans rfl; have hy_6 : w9.cell? ⟨w.heap.size + 1, 6, none⟩ = some (.int .i64 y.f3.f3) := (blk_cell BY.out 6).trans rfl; have hx_7 : w9.cell? ⟨w.heap.size, 7, none⟩ = some (.int .i64 x.f3.f4) := (blk_cell BX.out 7).trans rfl; have hy_7 : w9.cell? ⟨w.heap.size + 1, 7, none⟩ = some (.int .i64 y.f3.f4) := (blk_cell BY.out 7).trans rfl; have hx_8 : w9.cell? ⟨w.heap.size, 8, none⟩ = some (.string x.f4) := (blk_cell BX.out 8).trans rfl; have hy_8 : w9.cell? ⟨w.heap.size + 1, 8, none⟩ = some (.string y.f4) := (blk_cell BY.out 8).trans rfl; have hx_9 : w9.cell? ⟨w.heap.size, 9, none⟩ = some (.string x.f5) := (blk_cell BX.out 9).trans rfl; have hy_9 : w9.cell? ⟨w.heap.size + 1, 9, none⟩ = some (.string y.f5) := (blk_cell BY.out 9).trans rfl; have hx_10 : w9.cell? ⟨w.heap.size, 10, none⟩ = some (.int .i64 x.f6) := (blk_cell BX.out 10).trans rfl; have hy_10 : w9.cell? ⟨w.heap.size + 1, 10, none⟩ = some (.int .i64 y.f6) := (blk_cell BY.out 10).trans rfl))
   refine (h2 _).mono ?_
   rintro e w10 ⟨rfl, hb⟩
   have n0_ := Aside0.mk (below_step HB.out hb)
   clear HB hb
   have HB := n0_
   clear n0_
   go_wp2
   go_ret
   exact ⟨by rw [HR.out]; rfl, HB.out⟩
end Go.Proofs.Ytodbmagneaiocaa.PA
namespace Go.Proofs.Ytodbmagneaiocaa.PA
open Go.RowKit Go.Proofs.YtodbmagneaiocaaW.PrintWords Go.Proofs.YtodbmagneaiocaaW.PrintLast Go.Proofs.YtodbmagneaiocaaW.PrintMore
attribute [local go_sem] max2_int min2_int max_two min_two max_three min_three max_four min_four
set_option linter.unusedVariables false
set_option linter.unusedSimpArgs false
open Go.Sort
section
variable {α : Type} (lt : α → α → Bool)
def eqvB (c y : α) : Bool := !lt c y && !lt y c
def SortedL (l : List α) : Prop := l.Pairwise (fun x y => lt y x = false)
def StP (l r : List α) : Prop := r.Perm l ∧ ∀ c, r.filter (eqvB lt c) = l.filter (eqvB lt c)
variable {lt}
theorem StP.refl (l : List α) : StP lt l l := ⟨List.Perm.refl _, fun _ => rfl⟩
theorem StP.trans {a b d : List α} (h : StP lt a b) (h2 : StP lt b d) : StP lt a d := ⟨h2.1.trans h.1, fun c => (h2.2 c).trans (h.2 c)⟩
theorem StP.app {a b a' b' : List α} (h : StP lt a a') (h2 : StP lt b b') : StP lt (a ++ b) (a' ++ b') := ⟨h.1.append h2.1, fun c => by rw [List.filter_append, List.filter_append, h.2 c, h2.2 c]⟩
theorem StP.len {a b : List α} (h : StP lt a b) : b.length = a.length := h.1.length_eq
theorem StP.swap (X Y : List α) (hS : SWO lt) (h : ∀ x ∈ X, ∀ y ∈ Y, lt y x = true) : StP lt (X ++ Y) (Y ++ X) := by
 refine ⟨List.perm_append_comm, fun c => ?_⟩
 rw [List.filter_append, List.filter_append]
 by_cases hX : X.filter (eqvB lt c) = []
 ·rw [hX, List.append_nil, List.nil_append]
 ·by_cases hY : Y.filter (eqvB lt c) = []
  ·rw [hY, List.append_nil, List.nil_append]
  ·exfalso
   obtain ⟨x, hx⟩ := List.exists_mem_of_ne_nil _ hX
   obtain ⟨y, hy⟩ := List.exists_mem_of_ne_nil _ hY
   rw [List.mem_filter] at hx hy
   have hxy := h x hx.1 y hy.1
   unfold eqvB at hx hy
   simp only [Bool.and_eq_true, Bool.not_eq_true'] at hx hy
   have := hS.ntrans y c x hy.2.2 hx.2.1
   rw [this] at hxy
   exact absurd hxy (by decide)
theorem up1 (hS : SWO lt) {Y : List α} (hY : SortedL lt Y) (x : α) (h : Nat) (hh : h < Y.length) (hl : lt Y[h] x = true) : ∀ y ∈ Y.take (h + 1), lt y x = true := by
 intro y hy
 obtain ⟨t, ht, rfl⟩ := List.getElem_of_mem hy
 rw [List.length_take] at ht
 rw [List.getElem_take]
 by_cases e : t = h
 ·subst e
  exact hl
 ·have hp := List.pairwise_iff_getElem.1 hY t h (by omega) hh (by omega)
  apply Classical.byContradiction
  intro hn
  have := hS.ntrans Y[h] (Y[t]'(by omega)) x hp (by simpa using hn)
  rw [this] at hl
  exact absurd hl (by decide)
theorem down1 (hS : SWO lt) {Y : List α} (hY : SortedL lt Y) (x : α) (h : Nat) (hh : h < Y.length) (hl : lt Y[h] x = false) : ∀ y ∈ Y.drop h, lt y x = false := by
 intro y hy
 obtain ⟨t, ht, rfl⟩ := List.getElem_of_mem hy
 rw [List.length_drop] at ht
 rw [List.getElem_drop]
 by_cases e : t = 0
 ·subst e
  exact hl
 ·have hp := List.pairwise_iff_getElem.1 hY h (h + t) hh (by omega) (by omega)
  exact hS.ntrans _ _ _ hp hl
theorem up2 (hS : SWO lt) {X : List α} (hX : SortedL lt X) (y : α) (h : Nat) (hh : h < X.length) (hl : lt y X[h] = false) : ∀ x ∈ X.take (h + 1), lt y x = false := by
 intro x hx
 obtain ⟨t, ht, rfl⟩ := List.getElem_of_mem hx
 rw [List.length_take] at ht
 rw [List.getElem_take]
 by_cases e : t = h
 ·subst e
  exact hl
 ·have hp := List.pairwise_iff_getElem.1 hX t h (by omega) hh (by omega)
  exact hS.ntrans _ _ _ hl hp
theorem down2 (hS : SWO lt) {X : List α} (hX : SortedL lt X) (y : α) (h : Nat) (hh : h < X.length) (hl : lt y X[h] = true) : ∀ x ∈ X.drop h, lt y x = true := by
 intro x hx
 obtain ⟨t, ht, rfl⟩ := List.getElem_of_mem hx
 rw [List.length_drop] at ht
 rw [List.getElem_drop]
 by_cases e : t = 0
 ·subst e
  exact hl
 ·have hp := List.pairwise_iff_getElem.1 hX h (h + t) hh (by omega) (by omega)
  apply Classical.byContradiction
  intro hn
  have := hS.ntrans y (X[h + t]'(by omega)) X[h] (by simpa using hn) hp
  rw [this] at hl
  exact absurd hl (by decide)
theorem sorted_app {l r : List α} : SortedL lt (l ++ r) ↔ SortedL lt l ∧ SortedL lt r ∧ ∀ x ∈ l, ∀ y ∈ r, lt y x = false := List.pairwise_append
theorem anti (hS : SWO lt) {x y : α} (h : lt y x = true) : lt x y = false := by
 apply Classical.byContradiction
 intro hn
 have := hS.trans x y x (by simpa using hn) h
 rw [hS.irrefl] at this
 exact absurd this (by decide)
theorem fin1 (hS : SWO lt) {Y : List α} (hY : SortedL lt Y) (x : α) (i : Nat) (h1 : ∀ y ∈ Y.take i, lt y x = true) (h2 : ∀ y ∈ Y.drop i, lt y x = false) : StP lt ([x] ++ Y) (Y.take i ++ x :: Y.drop i) ∧ SortedL lt (Y.take i ++ x :: Y.drop i) := by
 have hd : Y = Y.take i ++ Y.drop i := (List.take_append_drop i Y).symm
 have hs : SortedL lt (Y.take i ++ Y.drop i) := by rw [← hd]; exact hY
 rw [sorted_app] at hs
 constructor
 ·have := StP.app (StP.swap [x] (Y.take i) hS (fun a ha y hy => by rw [List.mem_singleton.1 ha]; exact h1 y hy)) (StP.refl (lt := lt) (Y.drop i))
  rw [List.append_assoc, List.append_assoc, ← hd] at this
  exact this
 ·rw [show Y.take i ++ x :: Y.drop i = Y.take i ++ ([x] ++ Y.drop i) by simp, sorted_app, sorted_app]
  refine ⟨hs.1, ⟨List.pairwise_singleton _ _, hs.2.1, fun a ha y hy => by rw [List.mem_singleton.1 ha]; exact h2 y hy⟩, fun a ha y hy => ?_⟩
  rcases List.mem_append.1 hy with h | h
  ·rw [List.mem_singleton.1 h]
   exact anti hS (h1 a ha)
  ·exact hs.2.2 a ha y h
theorem fin2 (hS : SWO lt) {X : List α} (hX : SortedL lt X) (y : α) (i : Nat) (h1 : ∀ x ∈ X.take i, lt y x = false) (h2 : ∀ x ∈ X.drop i, lt y x = true) : StP lt (X ++ [y]) (X.take i ++ y :: X.drop i) ∧ SortedL lt (X.take i ++ y :: X.drop i) := by
 have hd : X = X.take i ++ X.drop i := (List.take_append_drop i X).symm
 have hs : SortedL lt (X.take i ++ X.drop i) := by rw [← hd]; exact hX
 rw [sorted_app] at hs
 constructor
 ·have := StP.app (StP.refl (lt := lt) (X.take i)) (StP.swap (X.drop i) [y] hS (fun x hx a ha => by rw [List.mem_singleton.1 ha]; exact h2 x hx))
  rw [← List.append_assoc, ← hd] at this
  exact this
 ·rw [show X.take i ++ y :: X.drop i = X.take i ++ ([y] ++ X.drop i) by simp, sorted_app, sorted_app]
  refine ⟨hs.1, ⟨List.pairwise_singleton _ _, hs.2.1, fun a ha x hx => by rw [List.mem_singleton.1 ha]; exact anti hS (h2 x hx)⟩, fun a ha b hb => ?_⟩
  rcases List.mem_append.1 hb with h | h
  ·rw [List.mem_singleton.1 h]
   exact h1 a ha
  ·exact hs.2.2 a ha b h
theorem cut3 (hS : SWO lt) {X Y : List α} (hX : SortedL lt X) (hY : SortedL lt Y) (s t : Nat) (hs : s ≤ X.length) (ht : t ≤ Y.length)
  (f1 : s = 0 ∨ t = Y.length ∨ ∃ (h1 : s - 1 < X.length) (h2 : t < Y.length), lt Y[t] X[s - 1] = false) (f2 : s = X.length ∨ t = 0 ∨ ∃ (h1 : s < X.length) (h2 : t - 1 < Y.length), lt Y[t - 1] X[s] = true) :
  (∀ x ∈ X.drop s, ∀ y ∈ Y.take t, lt y x = true) ∧ (∀ x ∈ X.take s, ∀ y ∈ Y.drop t, lt y x = false) := by
 constructor
 ·intro x hx y hy
  rcases f2 with h | h | ⟨h1, h2, h3⟩
  ·rw [h, List.drop_length] at hx
   exact absurd hx (by simp)
  ·rw [h, List.take_zero] at hy
   exact absurd hy (by simp)
  ·by_cases t0 : t = 0
   ·rw [t0, List.take_zero] at hy
    exact absurd hy (by simp)
   ·have hy2 := up1 hS hY X[s] (t - 1) h2 h3 y (by rwa [show t - 1 + 1 = t by omega])
    exact down2 hS hX y s h1 hy2 x hx
 ·intro x hx y hy
  rcases f1 with h | h | ⟨h1, h2, h3⟩
  ·rw [h, List.take_zero] at hx
   exact absurd hx (by simp)
  ·rw [h, List.drop_length] at hy
   exact absurd hy (by simp)
  ·by_cases s0 : s = 0
   ·rw [s0, List.take_zero] at hx
    exact absurd hx (by simp)
   ·have hy2 := down1 hS hY X[s - 1] t h2 h3 y hy
    exact up2 hS hX y (s - 1) h1 hy2 x (by rwa [show s - 1 + 1 = s by omega])
theorem part3 (hS : SWO lt) {X Y Z1 Z2 : List α} (hX : SortedL lt X) (hY : SortedL lt Y) (s t : Nat) (hc : (∀ x ∈ X.drop s, ∀ y ∈ Y.take t, lt y x = true) ∧ (∀ x ∈ X.take s, ∀ y ∈ Y.drop t, lt y x = false))
  (z1 : StP lt (X.take s ++ Y.take t) Z1 ∧ SortedL lt Z1) (z2 : StP lt (X.drop s ++ Y.drop t) Z2 ∧ SortedL lt Z2) : StP lt (X ++ Y) (Z1 ++ Z2) ∧ SortedL lt (Z1 ++ Z2) := by
 have hXd : X = X.take s ++ X.drop s := (List.take_append_drop s X).symm
 have hYd : Y = Y.take t ++ Y.drop t := (List.take_append_drop t Y).symm
 have sX : SortedL lt (X.take s ++ X.drop s) := by rw [← hXd]; exact hX
 have sY : SortedL lt (Y.take t ++ Y.drop t) := by rw [← hYd]; exact hY
 rw [sorted_app] at sX sY
 constructor
 ·have h1 := StP.app (StP.app (StP.refl (lt := lt) (X.take s)) (StP.swap (X.drop s) (Y.take t) hS hc.1)) (StP.refl (lt := lt) (Y.drop t))
  have e1 : X.take s ++ (X.drop s ++ Y.take t) ++ Y.drop t = X ++ Y := by
   conv => rhs; rw [hXd, hYd]
   simp only [List.append_assoc]
  have e2 : X.take s ++ (Y.take t ++ X.drop s) ++ Y.drop t = (X.take s ++ Y.take t) ++ (X.drop s ++ Y.drop t) := by simp only [List.append_assoc]
  rw [e1, e2] at h1
  exact h1.trans (StP.app z1.1 z2.1)
 ·rw [sorted_app]
  refine ⟨z1.2, z2.2, fun x hx y hy => ?_⟩
  have hx' := (z1.1.1.mem_iff).1 hx
  have hy' := (z2.1.1.mem_iff).1 hy
  rcases List.mem_append.1 hx' with h | h
  ·rcases List.mem_append.1 hy' with g | g
   ·exact sX.2.2 x h y g
   ·exact hc.2 x h y g
  ·rcases List.mem_append.1 hy' with g | g
   ·exact anti hS (hc.1 y g x h)
   ·exact sY.2.2 x h y g
theorem stp_unique (hS : SWO lt) : ∀ (r1 r2 : List α), SortedL lt r1 → SortedL lt r2 → StP lt r1 r2 → r1 = r2
 | [], r2, _, _, h => by
  have := h.len
  exact (List.length_eq_zero_iff.1 this).symm
 | a :: r1, [], _, _, h => by
  have := h.len
  exact absurd this (by simp)
 | a :: r1, b :: r2, h1, h2, h => by
  have s1 := List.pairwise_cons.1 h1
  have s2 := List.pairwise_cons.1 h2
  have le1 : ∀ z ∈ a :: r1, lt z a = false := fun z hz => by
   rcases List.mem_cons.1 hz with e | e
   ·rw [e]; exact hS.irrefl a
   ·exact s1.1 z e
  have le2 : ∀ z ∈ b :: r2, lt z b = false := fun z hz => by
   rcases List.mem_cons.1 hz with e | e
   ·rw [e]; exact hS.irrefl b
   ·exact s2.1 z e
  have hab : lt b a = false := le1 b ((h.1.mem_iff).1 (by simp))
  have hba : lt a b = false := le2 a ((h.1.mem_iff).2 (by simp))
  have ea : eqvB lt a a = true := by unfold eqvB; rw [hS.irrefl]; rfl
  have eb : eqvB lt a b = true := by unfold eqvB; rw [hab, hba]; rfl
  have hf := h.2 a
  rw [List.filter_cons, List.filter_cons, if_pos ea, if_pos eb, List.cons.injEq] at hf
  obtain ⟨rfl, hf⟩ := hf
  have hrest : StP lt r1 r2 := by
   refine ⟨List.perm_cons b |>.1 h.1, fun c => ?_⟩
   have hc := h.2 c
   rw [List.filter_cons, List.filter_cons] at hc
   by_cases e : eqvB lt c b = true
   ·rw [if_pos e, if_pos e] at hc
    exact (List.cons.inj hc).2
   ·rw [if_neg e, if_neg e] at hc
    exact hc
  rw [stp_unique hS r1 r2 s1.2 s2.2 hrest]
end
end Go.Proofs.Ytodbmagneaiocaa.PA
namespace Go.Proofs.Ytodbmagneaiocaa.PA
open Go.RowKit Go.Proofs.YtodbmagneaiocaaW.PrintWords Go.Proofs.YtodbmagneaiocaaW.PrintLast Go.Proofs.YtodbmagneaiocaaW.PrintMore
attribute [local go_sem] max2_int min2_int max_two min_two max_three min_three max_four min_four
set_option linter.unusedVariables false
set_option linter.unusedSimpArgs false
theorem u8_lt (a b : UInt8) : a < b ↔ a.toNat < b.toNat := UInt8.lt_iff_toNat_lt
theorem u8_eq (a b : UInt8) : a = b ↔ a.toNat = b.toNat := UInt8.toNat_inj.symm
theorem bl_cons (a b : UInt8) (x y : List UInt8) : Op.bytesLess (a :: x) (b :: y) = true ↔ a.toNat < b.toNat ∨ (a = b ∧ Op.bytesLess x y = true) := by
 rw [Op.bytesLess, Bool.or_eq_true, Bool.and_eq_true, decide_eq_true_iff, u8_lt, beq_iff_eq]
theorem bl_trans : ∀ x y z : List UInt8, Op.bytesLess x y = true → Op.bytesLess y z = true → Op.bytesLess x z = true
 | _, [], _, h, _ => by simp [Op.bytesLess] at h
 | _, _ :: _, [], _, h => by simp [Op.bytesLess] at h
 | [], _ :: _, _ :: _, _, _ => rfl
 | a :: x, b :: y, d :: z, h1, h2 => by
  rw [bl_cons] at h1 h2 ⊢
  rcases h1 with h1 | ⟨rfl, h1⟩
  ·rcases h2 with h2 | ⟨rfl, h2⟩
   ·exact Or.inl (by omega)
   ·exact Or.inl h1
  ·rcases h2 with h2 | ⟨rfl, h2⟩
   ·exact Or.inl h2
   ·exact Or.inr ⟨rfl, bl_trans x y z h1 h2⟩
theorem bl_tri : ∀ x y : List UInt8, ¬ Op.bytesLess x y = true → ¬ Op.bytesLess y x = true → x = y
 | [], [], _, _ => rfl
 | [], _ :: _, h, _ => absurd rfl h
 | _ :: _, [], _, h => absurd rfl h
 | a :: x, b :: y, h1, h2 => by
  rw [bl_cons] at h1 h2
  have hab : a = b := by
   rw [u8_eq]
   have := fun h => h1 (Or.inl h)
   have := fun h => h2 (Or.inl h)
   omega
  subst hab
  rw [bl_tri x y (fun h => h1 (Or.inr ⟨rfl, h⟩)) (fun h => h2 (Or.inr ⟨rfl, h⟩))]
theorem cmp_cons (a b : ByteArray) (s t : List ByteArray) : cmpL (a :: s) (b :: t) < 0 ↔ Op.bytesLess a.toList b.toList = true ∨ (a = b ∧ cmpL s t < 0) := by
 rw [cmpL]
 by_cases h1 : Op.bytesLess a.toList b.toList = true
 ·rw [if_pos h1]
  exact ⟨fun _ => Or.inl h1, fun _ => by decide⟩
 ·rw [if_neg h1]
  by_cases h2 : a = b
  ·rw [if_pos h2]
   exact ⟨fun h => Or.inr ⟨h2, h⟩, fun h => h.elim (fun h => absurd h h1) (fun h => h.2)⟩
  ·rw [if_neg h2]
   exact ⟨fun h => absurd h (by decide), fun h => h.elim (fun h => absurd h h1) (fun h => absurd h.1 h2)⟩
theorem cmp_trans : ∀ x y z, cmpL x y < 0 → cmpL y z < 0 → cmpL x z < 0
 | [], [], _, h, _ => absurd h (by decide)
 | _ :: _, [], _, h, _ => absurd h (by simp [cmpL])
 | _, _ :: _, [], _, h => absurd h (by simp [cmpL])
 | [], _ :: _, _ :: _, _, _ => by simp [cmpL]
 | a :: s, b :: t, d :: u, h1, h2 => by
  rw [cmp_cons] at h1 h2 ⊢
  rcases h1 with h1 | ⟨rfl, h1⟩
  ·rcases h2 with h2 | ⟨rfl, h2⟩
   ·exact Or.inl (bl_trans _ _ _ h1 h2)
   ·exact Or.inl h1
  ·rcases h2 with h2 | ⟨rfl, h2⟩
   ·exact Or.inl h2
   ·exact Or.inr ⟨rfl, cmp_trans s t u h1 h2⟩
theorem cmp_irr : ∀ x, ¬ cmpL x x < 0
 | [] => by decide
 | a :: s => by
  rw [cmp_cons, bl_irr]
  intro h
  rcases h with h | ⟨_, h⟩
  ·exact absurd h (by decide)
  ·exact cmp_irr s h
theorem cmp_tri : ∀ x y, ¬ cmpL x y < 0 → ¬ cmpL y x < 0 → x = y
 | [], [], _, _ => rfl
 | [], _ :: _, h, _ => absurd (by simp [cmpL]) h
 | _ :: _, [], _, h => absurd (by simp [cmpL]) h
 | a :: s, b :: t, h1, h2 => by
  rw [cmp_cons] at h1 h2
  have hab : a = b := (tl_eq a b).1 (bl_tri _ _ (fun h => h1 (Or.inl h)) (fun h => h2 (Or.inl h)))
  subst hab
  rw [cmp_tri s t (fun h => h1 (Or.inr ⟨rfl, h⟩)) (fun h => h2 (Or.inr ⟨rfl, h⟩))]
end Go.Proofs.Ytodbmagneaiocaa.PA
namespace Go.Proofs.Ytodbmagneaiocaa.PA
open Go.RowKit Go.Proofs.YtodbmagneaiocaaW.PrintWords Go.Proofs.YtodbmagneaiocaaW.PrintLast Go.Proofs.YtodbmagneaiocaaW.PrintMore
attribute [local go_sem] max2_int min2_int max_two min_two max_three min_three max_four min_four
set_option linter.unusedVariables false
set_option linter.unusedSimpArgs false
open Go Go.Shelf Go.Lib Go.Sort
theorem swp_list {α : Type} [Inhabited α] (d : Array α) (P R Q : List α) (x y : α) (h : d.toList = P ++ x :: (R ++ y :: Q)) : (swp d P.length (P.length + 1 + R.length)).toList = P ++ y :: (R ++ x :: Q) := by
 obtain ⟨l⟩ := d
 subst h
 have ex : ((P ++ x :: (R ++ y :: Q)).toArray)[P.length]! = x := by simp
 have ey : ((P ++ x :: (R ++ y :: Q)).toArray)[P.length + 1 + R.length]! = y := by
  have h2 : P ++ x :: (R ++ y :: Q) = (P ++ x :: R) ++ y :: Q := by simp
  rw [h2]
  have h3 : P.length + 1 + R.length = (P ++ x :: R).length := by simp; omega
  rw [h3]
  simp
 show ((((P ++ x :: (R ++ y :: Q)).toArray).setIfInBounds P.length _).setIfInBounds (P.length + 1 + R.length) _).toList = _
 rw [ex, ey, List.setIfInBounds_toArray, List.setIfInBounds_toArray]
 show ((P ++ x :: (R ++ y :: Q)).set P.length y).set (P.length + 1 + R.length) x = _
 rw [List.set_append_right _ _ (Nat.le_refl _), Nat.sub_self, List.set_cons_zero, List.set_append_right _ _ (by omega), show P.length + 1 + R.length - P.length = R.length + 1 by omega, List.set_cons_succ, List.set_append_right _ _ (Nat.le_refl _), Nat.sub_self, List.set_cons_zero]
theorem swapsA_list {α : Type} [Inhabited α] (d : Array α) (P U M V Q : List α) (hl : U.length = V.length) (h : d.toList = P ++ U ++ M ++ V ++ Q) : ∀ i, i ≤ U.length → (swapsA d P.length (P.length + U.length + M.length) i).toList = P ++ V.take i ++ U.drop i ++ M ++ U.take i ++ V.drop i ++ Q := by
 intro i
 induction i with
 | zero =>
  intro _
  show d.toList = _
  rw [h]
  simp
 | succ i ih =>
  intro hi
  have hu : i < U.length := by omega
  have hv : i < V.length := by omega
  have h0 := ih (by omega)
  rw [List.drop_eq_getElem_cons hu, List.drop_eq_getElem_cons hv] at h0
  have h1 : (swapsA d P.length (P.length + U.length + M.length) i).toList = (P ++ V.take i) ++ U[i] :: ((U.drop (i + 1) ++ M ++ U.take i) ++ V[i] :: (V.drop (i + 1) ++ Q)) := by
   rw [h0]
   simp only [List.append_assoc, List.cons_append]
  have h2 := swp_list _ _ _ _ _ _ h1
  have e1 : (P ++ V.take i).length = P.length + i := by rw [List.length_append, List.length_take]; omega
  have e2 : P.length + i + 1 + (U.drop (i + 1) ++ M ++ U.take i).length = P.length + U.length + M.length + i := by
   rw [List.length_append, List.length_append, List.length_drop, List.length_take]
   omega
  rw [e1, e2] at h2
  rw [swapsA, h2, List.take_succ_eq_append_getElem hu, List.take_succ_eq_append_getElem hv]
  simp only [List.append_assoc, List.cons_append, List.nil_append]
theorem swapsA_full {α : Type} [Inhabited α] (d : Array α) (P U M V Q : List α) (hl : U.length = V.length) (h : d.toList = P ++ U ++ M ++ V ++ Q) : (swapsA d P.length (P.length + U.length + M.length) U.length).toList = P ++ V ++ M ++ U ++ Q := by
 rw [swapsA_list d P U M V Q hl h U.length (Nat.le_refl _), List.take_length, List.drop_length, hl, List.take_length, List.drop_length]
 simp
set_option maxHeartbeats 4000000 in
set_option maxRecDepth 1000000 in
theorem rotate_call {P : Program} (L : LS P) {α : Type} [Inhabited α] (enc : α → List Value) (k : Nat) (aE : ∀ w, (isAgg 43).run P w = .ok true w) (zE : ∀ w, (Go.sizeOf 43).run P w = .ok k w) (hk : ∀ x, (enc x).length = k) (h1 : ∀ x, ∀ v ∈ enc x, v.oneCell' = true)
  (fv : Value) (blk off cap : Nat) (A X Y B : List α) (d : Array α) (w : World) (hH : HoldsK enc k w blk off d) (hblk : blk < w.heap.size) (hd : d.toList = A ++ X ++ Y ++ B) (hX : X ≠ []) (hY : Y ≠ []) (a m b : Nat) (ha : a = A.length) (hm : m = A.length + X.length) (hb : b = A.length + X.length + Y.length) (hsz : d.size < 1000000000000) :
  Calls P 48 #[.slice (some ⟨blk, off, none⟩) d.size cap, .int .i64 a, .int .i64 m, .int .i64 b, fv] w fun e w' =>
   e = .returned (.tuple #[]) ∧ ∃ q os dk, dk.toList = A ++ Y ++ X ++ B ∧ dk.size = d.size ∧ w' = sWB enc k w blk off q dk os := by
 have mixed := L.mixed
 have t3 := L.t3; have a3 := L.a3; have z3 := L.z3; have v3 := L.v3; have t4 := L.t4; have a4 := L.a4; have z4 := L.z4; have v4 := L.v4; have t68 := L.t68; have a68 := L.a68; have z68 := L.z68; have v68 := L.v68; have t22 := L.t22; have a22 := L.a22; have z22 := L.z22; have v22 := L.v22
 have F := L.f48
 have esw := L.e49
 have hsl : d.size = A.length + X.length + Y.length + B.length := by
  rw [← Array.length_toList, hd]
  simp
  omega
 have HD := Aside0.mk hd
 have HST : Hid (w = sWB enc k w blk off w.drawn d #[]) := (sWB_start enc k w blk off d hH).symm
 have HH : Hid (HoldsK enc k w blk off d) := hH
 have HXl : 0 < X.length := List.length_pos_iff.2 hX
 have HYl : 0 < Y.length := List.length_pos_iff.2 hY
 have hsr : ∀ (W : World) (dk : Array α) (a' b' n' : Nat), HoldsK enc k W blk off dk → blk < W.heap.size → dk.size = d.size → a' + n' ≤ d.size → b' + n' ≤ d.size → Calls P 49 #[.slice (some ⟨blk, off, none⟩) d.size cap, .int .i64 a', .int .i64 b', .int .i64 n', fv] W fun e w' => e = .returned (.tuple #[]) ∧ ∃ q os, w' = sWB enc k W blk off q (swapsA dk a' b' n') os := fun W dk a' b' n' x1 x2 x3 x4 x5 => by
  have := swapRange_call L enc k aE zE hk h1 fv blk off cap a' b' n' dk W x1 x2 (by omega) (by omega) (by omega)
  rwa [x3] at this
 have HSR := Aside0.mk hsr
 have HM := Aside0.mk (And.intro ha (And.intro hm hb))
 have hma : a ≤ m := by omega
 have hmb : m ≤ b := by omega
 have hbd : b ≤ d.size := by omega
 have HXa : a + X.length = m := by omega
 have HYa : m + Y.length = b := by omega
 have HXY := Aside0.mk (And.intro HXa HYa)
 clear hsr hH hd hX hY ha hm hb HXa HYa hsl
 go_enter F, Try.ntmps48
 go_wp2
 go_loopg [10, 11] (X.length + Y.length) (fun g vi vj wr => ∃ (i j q : Nat) (os : Array Obj) (dk : Array α) (Pp U V Q : List α), vi = .int .i64 i ∧ vj = .int .i64 j ∧ 0 < i ∧ 0 < j ∧ i + j ≤ g ∧ Pp.length + i = m ∧ m + j ≤ d.size ∧ dk.size = d.size ∧ wr = sWB enc k w blk off q dk os ∧ Hid (dk.toList = Pp ++ U ++ V ++ Q ∧ U.length = i ∧ V.length = j ∧ Pp ++ V ++ U ++ Q = A ++ Y ++ X ++ B))
 case atStart =>
  have h1 := HXY.out.1
  have h2 := HXY.out.2
  have h3 := HM.out.1
  exact ⟨X.length, Y.length, _, #[], d, A, X, Y, B, by congr 1; omega, by congr 1; omega, HXl, HYl, Nat.le_refl _, by omega, by omega, rfl, HST.out, ⟨HD.out, rfl, rfl, rfl⟩⟩
 case round =>
  obtain ⟨i, j, q, os, dk, Pp, U, V, Q, rfl, rfl, hi0, hj0, hg, hPi, hmj, hsk, rfl, HI⟩ := hrel
  have HHk : Hid (HoldsK enc k (sWB enc k w blk off q dk os) blk off dk) := sWB_holds enc k w blk off q d dk os HH.out hblk hsk
  have HBk : Hid (blk < (sWB enc k w blk off q dk os).heap.size) := Nat.lt_of_lt_of_le hblk (sWB_size enc k w blk off q dk os)
  have HON : Hid (∀ q' dk' os', dk'.size = dk.size → sWB enc k (sWB enc k w blk off q dk os) blk off q' dk' os' = sWB enc k w blk off q' dk' (os ++ os')) := fun q' dk' os' h => sWB_on enc k w blk off q q' dk dk' os os' hblk h
  generalize hwq : sWB enc k w blk off q dk os = wq at HHk HBk HON ⊢
  clear hwq
  have hmi : (m : Int) - (i : Int) = ((Pp.length : Nat) : Int) := by omega
  by_cases hne : i = j
  ·have heq : ((i : Int) != (j : Int)) = false := by rw [hne]; simp
   have hc : Calls P 49 #[.slice (some ⟨blk, off, none⟩) d.size cap, .int .i64 ((Pp.length : Nat) : Int), .int .i64 m, .int .i64 i, fv] wq fun e w' => e = .returned (.tuple #[]) ∧ ∃ q os, w' = sWB enc k wq blk off q (swapsA dk Pp.length m i) os := by
    exact HSR.out wq dk Pp.length m i HHk.out HBk.out hsk (by omega) (by omega)
   have HFIN : Hid ((swapsA dk Pp.length m i).toList = A ++ Y ++ X ++ B) := by
    show _ = _
    obtain ⟨u1, u2, u3, u4⟩ := HI.out
    have := swapsA_full dk Pp U [] V Q (by omega) (by rw [u1]; simp)
    rw [u2, List.length_nil, Nat.add_zero, hPi] at this
    rw [this, ← u4]
    simp
   have HNE := Aside0.mk hne
   clear hne
   go_wp2_with (go_at_call 49; refine hc.mono ?_; rintro e w1 ⟨rfl, q1, os1, rfl⟩)
   go_end0
   exact ⟨rfl, q1, os ++ os1, _, HFIN.out, by rw [size_swapsA]; exact hsk, HON.out _ _ _ (size_swapsA _ _ _ _)⟩
  ·have heq : ((i : Int) != (j : Int)) = true := by rw [bne_iff_ne]; omega
   by_cases hgt : j < i
   ·have hgz : decide ((i : Int) > (j : Int)) = true := decide_eq_true (by omega)
    have hgz2 : (j : Int) < (i : Int) := by omega
    have hc : Calls P 49 #[.slice (some ⟨blk, off, none⟩) d.size cap, .int .i64 ((Pp.length : Nat) : Int), .int .i64 m, .int .i64 j, fv] wq fun e w' => e = .returned (.tuple #[]) ∧ ∃ q os, w' = sWB enc k wq blk off q (swapsA dk Pp.length m j) os := by
     exact HSR.out wq dk Pp.length m j HHk.out HBk.out hsk (by omega) (by omega)
    have HFIN : Hid (∃ Pp' U' V' Q' : List α, Pp'.length + (i - j) = m ∧ (swapsA dk Pp.length m j).toList = Pp' ++ U' ++ V' ++ Q' ∧ U'.length = i - j ∧ V'.length = j ∧ Pp' ++ V' ++ U' ++ Q' = A ++ Y ++ X ++ B) := by
     obtain ⟨u1, u2, u3, u4⟩ := HI.out
     have e1 : (U.take j).length = j := by rw [List.length_take]; omega
     have e2 : (U.drop j).length = i - j := by rw [List.length_drop, u2]
     have hU : U = U.take j ++ U.drop j := (List.take_append_drop j U).symm
     have := swapsA_full dk Pp (U.take j) (U.drop j) V Q (by omega) (by rw [u1]; (conv => lhs; rw [hU]); simp only [List.append_assoc])
     rw [e1, e2, show Pp.length + j + (i - j) = m by omega] at this
     refine ⟨Pp ++ V, U.drop j, U.take j, Q, by rw [List.length_append]; omega, this, e2, e1, ?_⟩
     rw [← u4]
     (conv => rhs; rw [hU])
     simp only [List.append_assoc]
    go_wp2_with (go_at_call 49; refine hc.mono ?_; rintro e w1 ⟨rfl, q1, os1, rfl⟩)
    go_roundg (i - j + j)
    case measure => omega
    case rel =>
     obtain ⟨Pp', U', V', Q', v1, v2, v3, v4, v5⟩ := HFIN.out
     exact ⟨i - j, j, q1, os ++ os1, _, Pp', U', V', Q', by first | go_num | (congr 1; omega), rfl, by omega, hj0, Nat.le_refl _, v1, by omega, by rw [size_swapsA]; exact hsk, HON.out _ _ _ (size_swapsA _ _ _ _), ⟨v2, v3, v4, v5⟩⟩
   ·have hgz : decide ((i : Int) > (j : Int)) = false := decide_eq_false (by omega)
    have hgz2 : ¬ (j : Int) < (i : Int) := by omega
    obtain ⟨z, hz⟩ : ∃ z, z = m + j - i := ⟨_, rfl⟩
    have hmji : (m : Int) + (j : Int) - (i : Int) = (z : Int) := by omega
    have hc : Calls P 49 #[.slice (some ⟨blk, off, none⟩) d.size cap, .int .i64 ((Pp.length : Nat) : Int), .int .i64 z, .int .i64 i, fv] wq fun e w' => e = .returned (.tuple #[]) ∧ ∃ q os, w' = sWB enc k wq blk off q (swapsA dk Pp.length z i) os := by
     exact HSR.out wq dk Pp.length z i HHk.out HBk.out hsk (by omega) (by omega)
    have HZ := Aside0.mk hz
    have HFIN : Hid (∃ U' V' Q' : List α, (swapsA dk Pp.length z i).toList = Pp ++ U' ++ V' ++ Q' ∧ U'.length = i ∧ V'.length = j - i ∧ Pp ++ V' ++ U' ++ Q' = A ++ Y ++ X ++ B) := by
     obtain ⟨u1, u2, u3, u4⟩ := HI.out
     have e1 : (V.take (j - i)).length = j - i := by rw [List.length_take]; omega
     have e2 : (V.drop (j - i)).length = i := by rw [List.length_drop, u3]; omega
     have hV : V = V.take (j - i) ++ V.drop (j - i) := (List.take_append_drop _ V).symm
     have := swapsA_full dk Pp U (V.take (j - i)) (V.drop (j - i)) Q (by omega) (by rw [u1]; (conv => lhs; rw [hV]); simp only [List.append_assoc])
     rw [u2, e1, show Pp.length + i + (j - i) = z by omega] at this
     refine ⟨V.drop (j - i), V.take (j - i), U ++ Q, by rw [this]; simp only [List.append_assoc], e2, e1, ?_⟩
     rw [← u4]
     (conv => rhs; rw [hV])
     simp only [List.append_assoc]
    clear hz
    go_wp2_with (go_at_call 49; refine hc.mono ?_; rintro e w1 ⟨rfl, q1, os1, rfl⟩)
    go_roundg (i + (j - i))
    case measure => omega
    case rel =>
     obtain ⟨U', V', Q', v2, v3, v4, v5⟩ := HFIN.out
     exact ⟨i, j - i, q1, os ++ os1, _, Pp, U', V', Q', rfl, by first | go_num | (congr 1; omega), hi0, by omega, Nat.le_refl _, hPi, by omega, by rw [size_swapsA]; exact hsk, HON.out _ _ _ (size_swapsA _ _ _ _), ⟨v2, v3, v4, v5⟩⟩
end Go.Proofs.Ytodbmagneaiocaa.PA
namespace Go.Proofs.Ytodbmagneaiocaa.PA
open Go.RowKit Go.Proofs.YtodbmagneaiocaaW.PrintWords Go.Proofs.YtodbmagneaiocaaW.PrintLast Go.Proofs.YtodbmagneaiocaaW.PrintMore
attribute [local go_sem] max2_int min2_int max_two min_two max_three min_three max_four min_four
set_option linter.unusedVariables false
set_option linter.unusedSimpArgs false
open Go Go.Shelf Go.Lib Go.Sort
theorem swp_comm {α : Type} [Inhabited α] (d : Array α) (i j : Nat) (h : i ≠ j) : swp d i j = swp d j i := by
 unfold swp
 exact Array.setIfInBounds_comm _ _ h
set_option maxHeartbeats 4000000 in
set_option maxRecDepth 1000000 in
theorem sym2_call {P : Program} (L : LS P) {α : Type} [Inhabited α] (enc : α → List Value) (k : Nat) (aE : ∀ w, (isAgg 43).run P w = .ok true w) (zE : ∀ w, (Go.sizeOf 43).run P w = .ok k w) (hk : ∀ x, (enc x).length = k) (h1 : ∀ x, ∀ v ∈ enc x, v.oneCell' = true)
  (cf : α → α → Int) (hS : SWO (ltOf cf)) (g : Nat) (cb : Array Value) (eg : ∀ args w, (callFunc g args).run P w = .ok (.enter g args) w) (blk off cap : Nat) (A X : List α) (y : α) (B : List α) (d : Array α) (w : World) (hcmp : CmpB P g cb enc k cf blk off d.size w) (hH : HoldsK enc k w blk off d) (hblk : blk < w.heap.size) (hd : d.toList = A ++ (X ++ y :: B)) (hX : SortedL (ltOf cf) X) (hX1 : X.length ≠ 1) (a m b : Nat) (ha : a = A.length) (hm : m = A.length + X.length) (hb : b = A.length + X.length + 1) (hsz : d.size < 1000000000000) :
  Calls P 47 #[.slice (some ⟨blk, off, none⟩) d.size cap, .int .i64 a, .int .i64 m, .int .i64 b, .func (.func g) #[] cb] w fun e w' =>
   e = .returned (.tuple #[]) ∧ ∃ q os dk, (∃ Z, dk.toList = A ++ (Z ++ B) ∧ StP (ltOf cf) (X ++ [y]) Z ∧ SortedL (ltOf cf) Z) ∧ dk.size = d.size ∧ w' = sWB enc k w blk off q dk os := by
 have mixed := L.mixed
 have t3 := L.t3; have a3 := L.a3; have z3 := L.z3; have v3 := L.v3; have t4 := L.t4; have a4 := L.a4; have z4 := L.z4; have v4 := L.v4; have t68 := L.t68; have a68 := L.a68; have z68 := L.z68; have v68 := L.v68; have t22 := L.t22; have a22 := L.a22; have z22 := L.z22; have v22 := L.v22
 have F := L.f47
 have hsl : d.size = A.length + (X.length + (1 + B.length)) := by
  rw [← Array.length_toList, hd]
  simp
  omega
 have hdy : d[m]! = y := by
  rw [hm, ← Array.getElem!_toList, hd, ← List.append_assoc, ← List.length_append]
  simp
 have hdx : ∀ t (h : t < X.length), d[a + t]! = X[t] := fun t h => by
  rw [ha, ← Array.getElem!_toList, hd]
  simp [h, List.getElem?_append]
  try rw [if_neg (by omega)]
  try rfl
 have HD := Aside0.mk hd
 have HDX := Aside0.mk hdx
 have HDY := Aside0.mk hdy
 have HXs := Aside0.mk hX
 have HSW := Aside0.mk hS
 have HST : Hid (w = sWB enc k w blk off w.drawn d #[]) := (sWB_start enc k w blk off d hH).symm
 have HH : Hid (HoldsK enc k w blk off d) := hH
 have HC := Aside0.mk hcmp
 have HK : Hid (∀ x, (enc x).length = k) := hk
 have H1 : Hid (∀ x, ∀ v ∈ enc x, v.oneCell' = true) := h1
 have hmx : m = a + X.length := by omega
 have hma : ((m : Int) - (a : Int) == 1) = false := beq_eq_false_iff_ne.mpr (by omega)
 have hmz : (b : Int) - (m : Int) = 1 := by omega
 have hmd : m < d.size := by omega
 have HM := Aside0.mk (And.intro ha hmx)
 have ham : a ≤ m := by omega
 have hmb : m ≤ b := by omega
 have hbd : b ≤ d.size := by omega
 clear hsl hdx hdy hd hX hX1 hS hH hcmp hk h1 ha hm hb hmx
 go_enter F, Try.ntmps47
 go_wp2
 (try rw [hma])
 go_loopg [14, 15] X.length (fun gg vi vj wr => ∃ (i j q : Nat) (os : Array Obj), vi = .int .i64 i ∧ vj = .int .i64 j ∧ a ≤ i ∧ i ≤ j ∧ j ≤ m ∧ j - i ≤ gg ∧ wr = sWB enc k w blk off q d os ∧ Hid ((∀ x ∈ X.take (i - a), ltOf cf y x = false) ∧ (∀ x ∈ X.drop (j - a), ltOf cf y x = true)))
 case atStart =>
  have h1 := HM.out.2
  exact ⟨a, m, _, #[], rfl, rfl, by omega, by omega, by omega, by omega, HST.out, ⟨by rw [Nat.sub_self, List.take_zero]; simp, by rw [show m - a = X.length by omega, List.drop_length]; simp⟩⟩
 case round =>
  obtain ⟨i, j, q, os, rfl, rfl, hi, hij, hjb, hg, rfl, HI⟩ := hrel
  obtain ⟨wq, hwq⟩ : ∃ wq, sWB enc k w blk off q d os = wq := ⟨_, rfl⟩
  have HWQ := Aside0.mk hwq
  rw [hwq]
  by_cases hlt : i < j
  ·have hltz : (i : Int) < (j : Int) := by omega
   obtain ⟨h, hh⟩ : ∃ h : Nat, ((i : Int) + (j : Int)) / 2 = (h : Int) := ⟨(i + j) / 2, by omega⟩
   have hih : i ≤ h := by omega
   have hhj : h < j := by omega
   have hhz : (h : Int) < (d.size : Int) := by omega
   have haz : (m : Int) < (d.size : Int) := by omega
   obtain ⟨xh, hxh⟩ : ∃ z, d[h]! = z := ⟨_, rfl⟩
   have hxh2 : ∃ hl : h - a < X.length, X[h - a] = xh := by
    have hq := HM.out.2
    refine ⟨by omega, ?_⟩
    rw [← HDX.out (h - a) (by omega), show a + (h - a) = h by omega, hxh]
   have HX2 := Aside0.mk hxh2
   have hHc : ∀ q' os', HoldsK enc k (grow (redrawn wq q') os') blk off d := fun q' os' => by
    rw [← HWQ.out, sWB_regrown]
    exact sWB_holds enc k w blk off q' d d _ HH.out hblk rfl
   have lh : ∀ q' os', Sem.run P (loadCellsFrom ⟨blk, off + h * k, none⟩ 0 k #[]) (grow (redrawn wq q') os') = .ok (enc xh).toArray (grow (redrawn wq q') os') := fun q' os' => by
    rw [← hxh]; exact run_loadCellsFrom_list P _ _ _ k (HK.out _) (HoldsK.cells (hHc q' os') HK.out (by omega))
   have la : ∀ q' os', Sem.run P (loadCellsFrom ⟨blk, off + m * k, none⟩ 0 k #[]) (grow (redrawn wq q') os') = .ok (enc y).toArray (grow (redrawn wq q') os') := fun q' os' => by
    rw [← HDY.out]; exact run_loadCellsFrom_list P _ _ _ k (HK.out _) (HoldsK.cells (hHc q' os') HK.out (by omega))
   have hcg : ∀ q' os', Calls P g (#[.agg (enc y).toArray, .agg (enc xh).toArray] ++ cb) (grow (redrawn wq q') os') fun e w' => e = .returned (.int .i64 (cf y xh)) ∧ Below (grow (redrawn wq q') os').heap.size (grow (redrawn wq q') os') w' := fun q' os' => by
    rw [← HWQ.out, sWB_regrown]
    exact HC.out q' _ d rfl y xh
   clear hHc hxh hxh2 hwq
   by_cases hlv : ¬ cf y xh < 0
   ·have HLV := Aside0.mk (show ltOf cf y xh = false from decide_eq_false hlv)
    have hdl : decide (cf y xh < 0) = false := decide_eq_false hlv
    go_wp2_with fail
    refine wp_region_quiet_below (by assumption) (by kernel_rfl) ?_
    repeat (quiet_step ((go_at_fn g; refine Calls.regrown_of (hcg _ _))))
    refine wpQuiet_nil ?_
    intro _ hw'
    obtain ⟨⟨dq, osq⟩, hw''⟩ := hw'
    subst hw''
    go_wp2_with fail
    go_roundg (j - (h + 1))
    case measure => omega
    case rel =>
     refine ⟨h + 1, j, dq, os ++ osq, by go_num, rfl, by omega, by omega, by omega, Nat.le_refl _, by rw [← HWQ.out, sWB_regrown], ⟨?_, HI.out.2⟩⟩
     obtain ⟨hl, he⟩ := HX2.out
     rw [show h + 1 - a = h - a + 1 by omega]
     exact up2 HSW.out HXs.out y (h - a) hl (by rw [he]; exact HLV.out)
   ·have hlv2 : cf y xh < 0 := Classical.not_not.1 hlv
    have HLV := Aside0.mk (show ltOf cf y xh = true from decide_eq_true (Classical.not_not.1 hlv))
    have hdl : decide (cf y xh < 0) = true := decide_eq_true hlv2
    go_wp2_with fail
    refine wp_region_quiet_below (by assumption) (by kernel_rfl) ?_
    repeat (quiet_step ((go_at_fn g; refine Calls.regrown_of (hcg _ _))))
    refine wpQuiet_nil ?_
    intro _ hw'
    obtain ⟨⟨dq, osq⟩, hw''⟩ := hw'
    subst hw''
    go_wp2_with fail
    go_roundg (h - i)
    case measure => omega
    case rel =>
     refine ⟨i, h, dq, os ++ osq, rfl, rfl, hi, hih, by omega, Nat.le_refl _, by rw [← HWQ.out, sWB_regrown], ⟨HI.out.1, ?_⟩⟩
     obtain ⟨hl, he⟩ := HX2.out
     exact down2 HSW.out HXs.out y (h - a) hl (by rw [he]; exact HLV.out)
  ·have hltz : ¬ (i : Int) < (j : Int) := by omega
   obtain rfl : i = j := by omega
   have HI2 := HI
   have hst0 : wq = sWB enc k w blk off q d os := HWQ.out.symm
   have HST2 := Aside0.mk hst0
   clear hst0 hwq HWQ HI
   go_wp2_with fail
   go_loopg [17] (m - i) (fun gg vk wr => ∃ (t q : Nat) (os : Array Obj) (dk : Array α), vk = .int .i64 ((a + t : Nat) : Int) ∧ i ≤ a + t ∧ a + t ≤ m ∧ a + t - i ≤ gg ∧ dk.size = d.size ∧ wr = sWB enc k w blk off q dk os ∧ Hid (dk.toList = A ++ (X.take t ++ y :: (X.drop t ++ B))))
   case atStart =>
    have h1 := HM.out.2
    exact ⟨X.length, q, os, d, by rw [← h1], by omega, by omega, by omega, rfl, HST2.out, (by show _ = _; rw [List.take_length, List.drop_length]; exact HD.out)⟩
   case round =>
    obtain ⟨t, q2, os2, dk, rfl, ht, htm, hg2, hsk, rfl, HT⟩ := hrel
    obtain ⟨kj, hkj⟩ : ∃ kj, kj = a + t := ⟨_, rfl⟩
    have HKK := Aside0.mk hkj
    rw [← hkj] at ht htm hg2 ⊢
    clear hkj
    by_cases hlt2 : i < kj
    ·obtain ⟨kk, rfl⟩ : ∃ kk, kj = kk + 1 := ⟨kj - 1, by omega⟩
     have hltz2 : (i : Int) < (kk : Int) + 1 := by omega
     obtain ⟨x0, hx0⟩ : ∃ z, dk[kk]! = z := ⟨_, rfl⟩
     obtain ⟨x1, hx1⟩ : ∃ z, dk[kk + 1]! = z := ⟨_, rfl⟩
     have j0 : (kk : Int) < (d.size : Int) := by omega
     have j1 : (kk : Int) + 1 < (d.size : Int) := by omega
     have j2 : (0 : Int) ≤ (kk : Int) + 1 := by omega
     have e1 : ((kk : Int) + 1).toNat = kk + 1 := by omega
     have hwp : IntKind.i64.wrap (kk : Int) = (kk : Int) := by rw [IntKind.wrap_i64]; omega
     have hHd : HoldsK enc k (sWB enc k w blk off q2 dk os2).drew blk off dk := sWB_holds enc k w blk off q2 d dk os2 HH.out hblk hsk
     have bnd : ∀ z, z < dk.size → z * k + k ≤ dk.size * k := fun z hz => by
      have := Nat.mul_le_mul_right k (show z + 1 ≤ dk.size from hz); rwa [Nat.add_mul, Nat.one_mul] at this
     have HNX : Hid ((swp dk (kk + 1) kk).toList = A ++ (X.take (t - 1) ++ y :: (X.drop (t - 1) ++ B))) := by
      show _ = _
      have hk2 := HKK.out
      have q1 := HM.out.1
      have q3 := HM.out.2
      obtain ⟨s, rfl⟩ : ∃ s, t = s + 1 := ⟨t - 1, by omega⟩
      have hty : s < X.length := by omega
      have hT := HT.out
      rw [List.take_succ_eq_append_getElem hty] at hT
      have hT2 : dk.toList = (A ++ X.take s) ++ X[s] :: ([] ++ y :: (X.drop (s + 1) ++ B)) := by rw [hT]; simp only [List.append_assoc, List.cons_append, List.nil_append]
      have := swp_list dk _ _ _ _ _ hT2
      rw [List.length_append, List.length_take, Nat.min_eq_left (by omega), ← q1, show a + s = kk by omega, List.length_nil, Nat.add_zero] at this
      rw [swp_comm _ _ _ (by omega), this, Nat.add_sub_cancel, List.drop_eq_getElem_cons hty]
      simp only [List.append_assoc, List.cons_append, List.nil_append]
     have HSWP : Hid (((sWB enc k w blk off q2 dk os2).drew.setCells blk (off + (kk + 1) * k) (enc x0)).setCells blk (off + kk * k) (enc x1) = sWB enc k w blk off (q2 + 1) (swp dk (kk + 1) kk) os2) := by
      show _ = _
      rw [sWB_drew, ← hx0, ← hx1]
      exact sWB_swp enc k HK.out w blk off (q2 + 1) dk os2 hblk (kk + 1) kk (by omega) (by omega)
     generalize sWB enc k w blk off q2 dk os2 = wq at hHd HSWP ⊢
     have l0 : Sem.run P (loadCellsFrom ⟨blk, off + (kk + 1) * k, none⟩ 0 k #[]) wq.drew = .ok (enc x1).toArray wq.drew := by rw [← hx1]; exact run_loadCellsFrom_list P _ _ _ k (HK.out _) (HoldsK.cells hHd HK.out (by omega))
     have l1 : Sem.run P (loadCellsFrom ⟨blk, off + kk * k, none⟩ 0 k #[]) wq.drew = .ok (enc x0).toArray wq.drew := by rw [← hx0]; exact run_loadCellsFrom_list P _ _ _ k (HK.out _) (HoldsK.cells hHd HK.out (by omega))
     have s1 : Sem.run P (storeCells ⟨blk, off + (kk + 1) * k, none⟩ (enc x0) 0) wq.drew = .ok () (wq.drew.setCells blk (off + (kk + 1) * k) (enc x0)) := stores_of_holds P hHd ((kk + 1) * k) _ (by rw [HK.out, size_flatK]; exact bnd (kk + 1) (by omega)) (H1.out _)
     have s2 : Sem.run P (storeCells ⟨blk, off + kk * k, none⟩ (enc x1) 0) (wq.drew.setCells blk (off + (kk + 1) * k) (enc x0)) = .ok () ((wq.drew.setCells blk (off + (kk + 1) * k) (enc x0)).setCells blk (off + kk * k) (enc x1)) :=
      stores_of_holds P (holds_setCells_c hHd ((kk + 1) * k) _ (by rw [HK.out, size_flatK]; exact bnd (kk + 1) (by omega))) (kk * k) _ (by rw [HK.out, size_setMany, size_flatK]; exact bnd kk (by omega)) (H1.out _)
     have hs0 : (enc x1).length = k := HK.out _
     have hs1 : (enc x0).length = k := HK.out _
     clear hHd bnd hx1 hx0
     obtain ⟨c0, hc0⟩ : ∃ c, enc x1 = c := ⟨_, rfl⟩
     obtain ⟨c1, hc1⟩ : ∃ c, enc x0 = c := ⟨_, rfl⟩
     rw [hc0] at l0 s2 hs0 HSWP
     rw [hc1] at l1 s1 s2 hs1 HSWP
     clear hc0 hc1
     go_wp2_with fail
     go_big_region_o
     all_goals go_wp2
     go_roundg (kk - i)
     case measure => omega
     case rel =>
      have hk2 := HKK.out
      have q3 := HM.out.2
      exact ⟨t - 1, q2 + 1, os2, _, by rw [show a + (t - 1) = kk by omega], by omega, by omega, by omega, by rw [size_swp]; exact hsk, HSWP.out, HNX⟩
    ·have hltz2 : ¬ (i : Int) < (kj : Int) := by omega
     go_wp2
     refine bodyPost_ret (results_none rfl _ _ _) rfl ?_
     have hk2 := HKK.out
     obtain ⟨z1, z2⟩ := HI2.out
     have et : i - a = t := by omega
     rw [et] at z1 z2
     have hf := fin2 HSW.out HXs.out y t z1 z2
     exact ⟨rfl, q2, os2, dk, ⟨_, by rw [HT.out]; simp only [List.append_assoc, List.cons_append], hf.1, hf.2⟩, hsk, rfl⟩
end Go.Proofs.Ytodbmagneaiocaa.PA
namespace Go.Proofs.Ytodbmagneaiocaa.PA
open Go.RowKit Go.Proofs.YtodbmagneaiocaaW.PrintWords Go.Proofs.YtodbmagneaiocaaW.PrintLast Go.Proofs.YtodbmagneaiocaaW.PrintMore
attribute [local go_sem] max2_int min2_int max_two min_two max_three min_three max_four min_four
set_option linter.unusedVariables false
set_option linter.unusedSimpArgs false
open Go Go.Shelf Go.Lib Go.Sort
theorem get_mid {α : Type} [Inhabited α] (l r : List α) (x : α) (n : Nat) (h : n = l.length) : (l ++ x :: r)[n]! = x := by
 subst h
 simp
theorem split_at {α : Type} (Pp : List α) (t u : Nat) (hu : u = t + 1) (h : t < Pp.length) : ∃ z, Pp[t]? = some z ∧ Pp.take u = Pp.take t ++ [z] ∧ Pp.drop t = z :: Pp.drop u := by
 subst hu
 exact ⟨Pp[t], List.getElem?_eq_getElem h, List.take_succ_eq_append_getElem h, List.drop_eq_getElem_cons h⟩
set_option maxHeartbeats 8000000 in
set_option maxRecDepth 1000000 in
theorem ins_call {P : Program} (L : LS P) {α : Type} [Inhabited α] (enc : α → List Value) (k : Nat) (aE : ∀ w, (isAgg 43).run P w = .ok true w) (zE : ∀ w, (Go.sizeOf 43).run P w = .ok k w) (hk : ∀ x, (enc x).length = k) (h1 : ∀ x, ∀ v ∈ enc x, v.oneCell' = true)
  (cf : α → α → Int) (hS : SWO (ltOf cf)) (g : Nat) (cb : Array Value) (eg : ∀ args w, (callFunc g args).run P w = .ok (.enter g args) w) (blk off cap : Nat) (A X B : List α) (d : Array α) (w : World) (hcmp : CmpB P g cb enc k cf blk off d.size w) (hH : HoldsK enc k w blk off d) (hblk : blk < w.heap.size) (hd : d.toList = A ++ (X ++ B)) (a b : Nat) (ha : a = A.length) (hb : b = A.length + X.length) (hsz : d.size < 1000000000000) :
  Calls P 46 #[.slice (some ⟨blk, off, none⟩) d.size cap, .int .i64 a, .int .i64 b, .func (.func g) #[] cb] w fun e w' =>
   e = .returned (.tuple #[]) ∧ ∃ q os dk, (∃ Z, dk.toList = A ++ (Z ++ B) ∧ StP (ltOf cf) X Z ∧ SortedL (ltOf cf) Z) ∧ dk.size = d.size ∧ w' = sWB enc k w blk off q dk os := by
 have mixed := L.mixed
 have t3 := L.t3; have a3 := L.a3; have z3 := L.z3; have v3 := L.v3; have t4 := L.t4; have a4 := L.a4; have z4 := L.z4; have v4 := L.v4; have t68 := L.t68; have a68 := L.a68; have z68 := L.z68; have v68 := L.v68; have t22 := L.t22; have a22 := L.a22; have z22 := L.z22; have v22 := L.v22
 have F := L.f46
 have hsl : d.size = A.length + (X.length + B.length) := by
  rw [← Array.length_toList, hd]
  simp
 have HD := Aside0.mk hd
 have HSW := Aside0.mk hS
 have HST : Hid (w = sWB enc k w blk off w.drawn d #[]) := (sWB_start enc k w blk off d hH).symm
 have HH : Hid (HoldsK enc k w blk off d) := hH
 have HC := Aside0.mk hcmp
 have HK : Hid (∀ x, (enc x).length = k) := hk
 have H1 : Hid (∀ x, ∀ v ∈ enc x, v.oneCell' = true) := h1
 have hbx : b = a + X.length := by omega
 have HM := Aside0.mk (And.intro ha hbx)
 have hab : a ≤ b := by omega
 have hbd : b ≤ d.size := by omega
 clear hsl hd hS hH hcmp hk h1 ha hb hbx
 go_enter F, Try.ntmps46
 go_wp2
 go_loopg [8] (b - a) (fun g1 vi wr => ∃ (i q : Nat) (os : Array Obj) (dk : Array α), vi = .int .i64 i ∧ a < i ∧ i ≤ b + 1 ∧ b + 1 - i ≤ g1 + 1 ∧ dk.size = d.size ∧ wr = sWB enc k w blk off q dk os ∧ Hid (∃ Pp, dk.toList = A ++ (Pp ++ (X.drop (i - a) ++ B)) ∧ StP (ltOf cf) (X.take (i - a)) Pp ∧ SortedL (ltOf cf) Pp))
 case atStart => exact ⟨a + 1, _, #[], d, by go_num, by omega, by omega, by omega, rfl, HST.out, ⟨X.take (a + 1 - a), by rw [HD.out, ← List.append_assoc (X.take _), List.take_append_drop], StP.refl _, by
  rw [show a + 1 - a = 1 by omega]
  cases X with
  | nil => exact List.Pairwise.nil
  | cons x l => exact List.pairwise_singleton _ _⟩⟩
 case round =>
  obtain ⟨i, q, os, dk, rfl, hai, hib, hg1, hsk, rfl, HP⟩ := hrel
  by_cases hlt : i < b
  ·have hltz : (i : Int) < (b : Int) := by omega
   obtain ⟨Pp, hP1, hP2, hP3⟩ := HP.out
   have hxl : i - a < X.length := by have := HM.out.2; omega
   obtain ⟨x, hx⟩ : ∃ x, X[i - a] = x := ⟨_, rfl⟩
   have hPl : Pp.length = i - a := by rw [hP2.len, List.length_take]; omega
   have hP4 : dk.toList = A ++ (Pp ++ x :: (X.drop (i + 1 - a) ++ B)) := by
    rw [hP1, List.drop_eq_getElem_cons hxl, hx, show i - a + 1 = i + 1 - a by omega]
    rfl
   have hP5 : StP (ltOf cf) (X.take (i + 1 - a)) (Pp ++ [x]) := by
    rw [show i + 1 - a = i - a + 1 by omega, List.take_succ_eq_append_getElem hxl, hx]
    exact hP2.app (StP.refl _)
   have HPP := Aside0.mk (And.intro hPl (And.intro hP3 hP5))
   have HP4 := Aside0.mk hP4
   clear hxl hx hPl hP1 hP2 hP3 hP4 hP5 HP
   go_wp2
   go_loopg [9] i (fun g2 vj wr2 => ∃ (j q : Nat) (os : Array Obj) (dj : Array α), vj = .int .i64 j ∧ a ≤ j ∧ j ≤ i ∧ j ≤ g2 ∧ dj.size = d.size ∧ wr2 = sWB enc k w blk off q dj os ∧ Hid (dj.toList = A ++ (Pp.take (j - a) ++ x :: (Pp.drop (j - a) ++ (X.drop (i + 1 - a) ++ B))) ∧ ∀ p ∈ Pp.drop (j - a), ltOf cf x p = true))
   case atStart => exact ⟨i, q, os, dk, rfl, by omega, Nat.le_refl _, Nat.le_refl _, hsk, rfl, ⟨by rw [← HPP.out.1, List.take_length, List.drop_length]; exact HP4.out, by rw [← HPP.out.1, List.drop_length]; simp⟩⟩
   case round =>
    obtain ⟨j, m, oj, dj, rfl, haj, hji, hg2, hsj, rfl, HI⟩ := hrel
    have out : ((j ≤ a) ∨ ∃ z, Pp[j - a - 1]? = some z ∧ ltOf cf x z = false) → Hid (∃ Pq, dj.toList = A ++ (Pq ++ (X.drop (i + 1 - a) ++ B)) ∧ StP (ltOf cf) (X.take (i + 1 - a)) Pq ∧ SortedL (ltOf cf) Pq) := fun hs => by
     obtain ⟨q1, q2⟩ := HI.out
     have h1 : ∀ p ∈ Pp.take (j - a), ltOf cf x p = false := by
      rcases hs with h | ⟨z, hz, h2⟩
      ·rw [show j - a = 0 by omega, List.take_zero]
       simp
      ·by_cases e0 : j - a = 0
       ·rw [e0, List.take_zero]
        simp
       ·obtain ⟨h, he⟩ := List.getElem?_eq_some_iff.1 hz
        have := up2 HSW.out HPP.out.2.1 x (j - a - 1) h (by rw [he]; exact h2)
        rwa [show j - a - 1 + 1 = j - a by omega] at this
     have hf := fin2 HSW.out HPP.out.2.1 x (j - a) h1 q2
     exact ⟨Pp.take (j - a) ++ x :: Pp.drop (j - a), by rw [q1]; simp only [List.append_assoc, List.cons_append], HPP.out.2.2.trans hf.1, hf.2⟩
    have OUT : Aside _ := out
    clear out
    by_cases hja : a < j
    ·have hjaz : (a : Int) < (j : Int) := by omega
     obtain ⟨kk, rfl⟩ : ∃ kk, j = kk + 1 := ⟨j - 1, by omega⟩
     obtain ⟨z, hz1, hz2, hz3⟩ := split_at Pp (kk - a) (kk + 1 - a) (by omega) (by have h0 := HPP.out.1; omega)
     have HZ := Aside0.mk (And.intro hz1 (And.intro hz2 hz3))
     have hJ : dj.toList = (A ++ Pp.take (kk - a)) ++ z :: ([] ++ x :: (Pp.drop (kk + 1 - a) ++ (X.drop (i + 1 - a) ++ B))) := by
      rw [HI.out.1, hz2]
      simp only [List.append_assoc, List.cons_append, List.nil_append]
     have HJ := Aside0.mk hJ
     clear hz1 hz2 hz3 hJ
     have HAL : Aside0 ((A ++ Pp.take (kk - a)).length = kk) := ⟨by
      have h0 := HPP.out.1
      have h1 := HM.out.1
      rw [List.length_append, List.length_take]
      omega⟩
     obtain ⟨x0, hz0⟩ : ∃ z, dj[kk]! = z := ⟨_, rfl⟩
     obtain ⟨x1, hz1⟩ : ∃ z, dj[kk + 1]! = z := ⟨_, rfl⟩
     have HX01 : Aside0 (x1 = x ∧ x0 = z) := by
      have hL := HJ.out
      have hA := HAL.out
      refine ⟨⟨?_, ?_⟩⟩
      ·rw [← hz1, ← Array.getElem!_toList, hL]
       have e : kk + 1 = ((A ++ Pp.take (kk - a)) ++ [z]).length := by rw [List.length_append, hA]; rfl
       rw [show (A ++ Pp.take (kk - a)) ++ z :: ([] ++ x :: (Pp.drop (kk + 1 - a) ++ (X.drop (i + 1 - a) ++ B))) = ((A ++ Pp.take (kk - a)) ++ [z]) ++ x :: (Pp.drop (kk + 1 - a) ++ (X.drop (i + 1 - a) ++ B)) by simp only [List.append_assoc, List.cons_append, List.nil_append]]
       exact get_mid _ _ _ _ e
      ·rw [← hz0, ← Array.getElem!_toList, hL]
       exact get_mid _ _ _ _ hA.symm
     have j0 : (kk : Int) < (d.size : Int) := by omega
     have j1 : (kk : Int) + 1 < (d.size : Int) := by omega
     have j2 : (0 : Int) ≤ (kk : Int) + 1 := by omega
     have e1 : ((kk : Int) + 1).toNat = kk + 1 := by omega
     have hwp : IntKind.i64.wrap (kk : Int) = (kk : Int) := by rw [IntKind.wrap_i64]; omega
     have hjaz' : (a : Int) < (kk : Int) + 1 := by omega
     have hkd : kk < dj.size := by omega
     have hkd1 : kk + 1 < dj.size := by omega
     have hcls : ∀ q' os', grow (redrawn (sWB enc k w blk off m dj oj) q') os' = sWB enc k w blk off q' dj (oj ++ os') := fun q' os' => sWB_regrown enc k w blk off m q' dj oj os'
     have hHc : ∀ q' os', HoldsK enc k (grow (redrawn (sWB enc k w blk off m dj oj) q') os') blk off dj := fun q' os' => by rw [hcls]; exact sWB_holds enc k w blk off q' d dj _ HH.out hblk hsj
     have l0q : ∀ q' os', Sem.run P (loadCellsFrom ⟨blk, off + kk * k, none⟩ 0 k #[]) (grow (redrawn (sWB enc k w blk off m dj oj) q') os') = .ok (enc x0).toArray (grow (redrawn (sWB enc k w blk off m dj oj) q') os') := fun q' os' => by
      rw [← hz0]; exact run_loadCellsFrom_list P _ _ _ k (HK.out _) (HoldsK.cells (hHc q' os') HK.out hkd)
     have l1q : ∀ q' os', Sem.run P (loadCellsFrom ⟨blk, off + (kk + 1) * k, none⟩ 0 k #[]) (grow (redrawn (sWB enc k w blk off m dj oj) q') os') = .ok (enc x1).toArray (grow (redrawn (sWB enc k w blk off m dj oj) q') os') := fun q' os' => by
      rw [← hz1]; exact run_loadCellsFrom_list P _ _ _ k (HK.out _) (HoldsK.cells (hHc q' os') HK.out hkd1)
     have hcg : ∀ q' os', Calls P g (#[.agg (enc x1).toArray, .agg (enc x0).toArray] ++ cb) (grow (redrawn (sWB enc k w blk off m dj oj) q') os') fun e w' => e = .returned (.int .i64 (cf x1 x0)) ∧ Below (grow (redrawn (sWB enc k w blk off m dj oj) q') os').heap.size (grow (redrawn (sWB enc k w blk off m dj oj) q') os') w' := fun q' os' => by
      rw [hcls]; exact HC.out q' _ dj hsj x1 x0
     have CLS : Hid _ := hcls
     clear hcls hHc
     generalize sWB enc k w blk off m dj oj = wq at l0q l1q hcg CLS ⊢
     by_cases hlv : cf x1 x0 < 0
     ·have HLV := Aside0.mk (show ltOf cf x1 x0 = true from decide_eq_true hlv)
      go_wp2_with fail
      refine wp_region_quiet_below (by assumption) (by kernel_rfl) ?_
      repeat (quiet_step ((go_at_fn g; refine Calls.regrown_of (hcg _ _))))
      refine wpQuiet_nil ?_
      intro _ hw'
      obtain ⟨⟨dq, osq⟩, hw''⟩ := hw'
      subst hw''
      go_wp2_with fail
      have hw2 : grow (redrawn wq dq) osq = sWB enc k w blk off dq dj (oj ++ osq) := CLS.out dq osq
      rw [hw2]
      have hHd : HoldsK enc k (sWB enc k w blk off dq dj (oj ++ osq)).drew blk off dj := sWB_holds enc k w blk off dq d dj _ HH.out hblk hsj
      have bnd : ∀ z, z < dj.size → z * k + k ≤ dj.size * k := fun z hz => by
       have := Nat.mul_le_mul_right k (show z + 1 ≤ dj.size from hz); rwa [Nat.add_mul, Nat.one_mul] at this
      have HNX : Hid ((swp dj (kk + 1) kk).toList = A ++ (Pp.take (kk - a) ++ x :: (Pp.drop (kk - a) ++ (X.drop (i + 1 - a) ++ B))) ∧ ∀ p ∈ Pp.drop (kk - a), ltOf cf x p = true) := by
       have hL := HJ.out
       obtain ⟨hx1, hx0⟩ := HX01.out
       have hd2 := HZ.out.2.2
       constructor
       ·have := swp_list dj _ _ _ _ _ hL
        rw [HAL.out, List.length_nil, Nat.add_zero] at this
        rw [swp_comm _ _ _ (by omega), this, hd2]
        simp only [List.append_assoc, List.cons_append, List.nil_append]
       ·intro p hp
        rw [hd2] at hp
        rcases List.mem_cons.1 hp with h | h
        ·rw [h, ← hx0, ← hx1]
         exact HLV.out
        ·exact HI.out.2 p h
      have HSWP : Hid (((sWB enc k w blk off dq dj (oj ++ osq)).drew.setCells blk (off + (kk + 1) * k) (enc x0)).setCells blk (off + kk * k) (enc x1) = sWB enc k w blk off (dq + 1) (swp dj (kk + 1) kk) (oj ++ osq)) := by
       show _ = _
       rw [sWB_drew, ← hz0, ← hz1]
       exact sWB_swp enc k HK.out w blk off (dq + 1) dj (oj ++ osq) hblk (kk + 1) kk hkd1 hkd
      clear l0q l1q hcg hw2
      generalize sWB enc k w blk off dq dj (oj ++ osq) = wq at hHd HSWP ⊢
      have l0 : Sem.run P (loadCellsFrom ⟨blk, off + (kk + 1) * k, none⟩ 0 k #[]) wq.drew = .ok (enc x1).toArray wq.drew := by rw [← hz1]; exact run_loadCellsFrom_list P _ _ _ k (HK.out _) (HoldsK.cells hHd HK.out (by omega))
      have l1 : Sem.run P (loadCellsFrom ⟨blk, off + kk * k, none⟩ 0 k #[]) wq.drew = .ok (enc x0).toArray wq.drew := by rw [← hz0]; exact run_loadCellsFrom_list P _ _ _ k (HK.out _) (HoldsK.cells hHd HK.out (by omega))
      have s1 : Sem.run P (storeCells ⟨blk, off + (kk + 1) * k, none⟩ (enc x0) 0) wq.drew = .ok () (wq.drew.setCells blk (off + (kk + 1) * k) (enc x0)) := stores_of_holds P hHd ((kk + 1) * k) _ (by rw [HK.out, size_flatK]; exact bnd (kk + 1) (by omega)) (H1.out _)
      have s2 : Sem.run P (storeCells ⟨blk, off + kk * k, none⟩ (enc x1) 0) (wq.drew.setCells blk (off + (kk + 1) * k) (enc x0)) = .ok () ((wq.drew.setCells blk (off + (kk + 1) * k) (enc x0)).setCells blk (off + kk * k) (enc x1)) :=
       stores_of_holds P (holds_setCells_c hHd ((kk + 1) * k) _ (by rw [HK.out, size_flatK]; exact bnd (kk + 1) (by omega))) (kk * k) _ (by rw [HK.out, size_setMany, size_flatK]; exact bnd kk (by omega)) (H1.out _)
      have hs0 : (enc x1).length = k := HK.out _
      have hs1 : (enc x0).length = k := HK.out _
      clear hHd bnd hz1 hz0
      obtain ⟨c0, hc0⟩ : ∃ c, enc x1 = c := ⟨_, rfl⟩
      obtain ⟨c1, hc1⟩ : ∃ c, enc x0 = c := ⟨_, rfl⟩
      rw [hc0] at l0 s2 hs0 HSWP
      rw [hc1] at l1 s1 s2 hs1 HSWP
      clear hc0 hc1
      go_wp2_with fail
      go_big_region_o
      all_goals go_wp2
      go_roundg kk
      case measure => omega
      case rel => exact ⟨kk, dq + 1, oj ++ osq, _, rfl, by omega, by omega, Nat.le_refl _, by rw [size_swp]; exact hsj, HSWP.out, HNX⟩
     ·have HLV := Aside0.mk (show ltOf cf x1 x0 = false from decide_eq_false hlv)
      have HOUT := OUT.out (Or.inr (by
       obtain ⟨hx1, hx0⟩ := HX01.out
       exact ⟨z, by rw [show kk + 1 - a - 1 = kk - a by omega]; exact HZ.out.1, by rw [← hx0, ← hx1]; exact HLV.out⟩))
      go_wp2_with fail
      refine wp_region_quiet_below (by assumption) (by kernel_rfl) ?_
      repeat (quiet_step ((go_at_fn g; refine Calls.regrown_of (hcg _ _))))
      refine wpQuiet_nil ?_
      intro _ hw'
      obtain ⟨⟨dq, osq⟩, hw''⟩ := hw'
      subst hw''
      go_wp2
      go_roundg (b - (i + 1))
      case measure => omega
      case rel => exact ⟨i + 1, dq, oj ++ osq, dj, by go_num, by omega, by omega, by omega, hsj, CLS.out dq osq, HOUT⟩
    ·have hjaz : decide ((j : Int) > (a : Int)) = false := decide_eq_false (by omega)
     have hjaz' : ¬ (a : Int) < (j : Int) := by omega
     have HOUT := OUT.out (Or.inl (by omega))
     have HDR : Hid ((sWB enc k w blk off m dj oj).drew = sWB enc k w blk off (m + 1) dj oj) := sWB_drew enc k w blk off m dj oj
     generalize sWB enc k w blk off m dj oj = wq at HDR ⊢
     go_wp2_with fail
     go_big_region_o
     all_goals go_wp2
     go_roundg (b - (i + 1))
     case measure => omega
     case rel => exact ⟨i + 1, m + 1, oj, dj, by go_num, by omega, by omega, by omega, hsj, HDR.out, HOUT⟩
  ·have hltz : ¬ (i : Int) < (b : Int) := by omega
   go_wp2
   go_end0
   obtain ⟨Pp, hP1, hP2, hP3⟩ := HP.out
   have hx := HM.out.2
   rw [List.take_of_length_le (by omega)] at hP2
   rw [List.drop_eq_nil_of_le (by omega), List.nil_append] at hP1
   exact ⟨rfl, q, os, dk, ⟨Pp, hP1, hP2, hP3⟩, hsk, rfl⟩
end Go.Proofs.Ytodbmagneaiocaa.PA
namespace Go.Proofs.Ytodbmagneaiocaa.PA
open Go.RowKit Go.Proofs.YtodbmagneaiocaaW.PrintWords Go.Proofs.YtodbmagneaiocaaW.PrintLast Go.Proofs.YtodbmagneaiocaaW.PrintMore
attribute [local go_sem] max2_int min2_int max_two min_two max_three min_three max_four min_four
set_option linter.unusedVariables false
set_option linter.unusedSimpArgs false
open Go Go.Shelf Go.Lib Go.Sort
set_option maxHeartbeats 4000000 in
set_option maxRecDepth 1000000 in
theorem sym1_call {P : Program} (L : LS P) {α : Type} [Inhabited α] (enc : α → List Value) (k : Nat) (aE : ∀ w, (isAgg 43).run P w = .ok true w) (zE : ∀ w, (Go.sizeOf 43).run P w = .ok k w) (hk : ∀ x, (enc x).length = k) (h1 : ∀ x, ∀ v ∈ enc x, v.oneCell' = true)
  (cf : α → α → Int) (hS : SWO (ltOf cf)) (g : Nat) (cb : Array Value) (eg : ∀ args w, (callFunc g args).run P w = .ok (.enter g args) w) (blk off cap : Nat) (A : List α) (x : α) (Y B : List α) (d : Array α) (w : World) (hcmp : CmpB P g cb enc k cf blk off d.size w) (hH : HoldsK enc k w blk off d) (hblk : blk < w.heap.size) (hd : d.toList = A ++ x :: (Y ++ B)) (hY : SortedL (ltOf cf) Y) (a m b : Nat) (ha : a = A.length) (hm : m = A.length + 1) (hb : b = A.length + 1 + Y.length) (hsz : d.size < 1000000000000) :
  Calls P 47 #[.slice (some ⟨blk, off, none⟩) d.size cap, .int .i64 a, .int .i64 m, .int .i64 b, .func (.func g) #[] cb] w fun e w' =>
   e = .returned (.tuple #[]) ∧ ∃ q os dk, (∃ Z, dk.toList = A ++ (Z ++ B) ∧ StP (ltOf cf) ([x] ++ Y) Z ∧ SortedL (ltOf cf) Z) ∧ dk.size = d.size ∧ w' = sWB enc k w blk off q dk os := by
 have mixed := L.mixed
 have t3 := L.t3; have a3 := L.a3; have z3 := L.z3; have v3 := L.v3; have t4 := L.t4; have a4 := L.a4; have z4 := L.z4; have v4 := L.v4; have t68 := L.t68; have a68 := L.a68; have z68 := L.z68; have v68 := L.v68; have t22 := L.t22; have a22 := L.a22; have z22 := L.z22; have v22 := L.v22
 have F := L.f47
 have hsl : d.size = A.length + (1 + Y.length + B.length) := by
  rw [← Array.length_toList, hd]
  simp
  omega
 have hdx : d[a]! = x := by
  rw [ha, ← Array.getElem!_toList, hd]
  simp
 have hdy : ∀ t (h : t < Y.length), d[m + t]! = Y[t] := fun t h => by
  rw [hm, ← Array.getElem!_toList, hd, show A.length + 1 + t = A.length + (1 + t) by omega]
  simp [h, List.getElem?_append, show 1 + t = t + 1 by omega]
  rw [if_neg (by omega)]
  rfl
 have HD := Aside0.mk hd
 have HDX := Aside0.mk hdx
 have HDY := Aside0.mk hdy
 have HYs := Aside0.mk hY
 have HSW := Aside0.mk hS
 have HST : Hid (w = sWB enc k w blk off w.drawn d #[]) := (sWB_start enc k w blk off d hH).symm
 have HH : Hid (HoldsK enc k w blk off d) := hH
 have HC := Aside0.mk hcmp
 have HK : Hid (∀ x, (enc x).length = k) := hk
 have H1 : Hid (∀ x, ∀ v ∈ enc x, v.oneCell' = true) := h1
 have hma : m = a + 1 := by omega
 have hmz : (m : Int) - (a : Int) = 1 := by omega
 have hbm : b = m + Y.length := by omega
 have hbd : b ≤ d.size := by omega
 have HM := Aside0.mk (And.intro ha (And.intro hma hbm))
 have hm0 : a + 1 ≤ m := by omega
 have hmb : m ≤ b := by omega
 clear hsl hdx hdy hd hY hS hH hcmp hk h1 ha hm hb hma hbm
 go_enter F, Try.ntmps47
 go_wp2
 go_loopg [10, 11] Y.length (fun gg vi vj wr => ∃ (i j q : Nat) (os : Array Obj), vi = .int .i64 i ∧ vj = .int .i64 j ∧ m ≤ i ∧ i ≤ j ∧ j ≤ b ∧ j - i ≤ gg ∧ wr = sWB enc k w blk off q d os ∧ Hid ((∀ y ∈ Y.take (i - m), ltOf cf y x = true) ∧ (∀ y ∈ Y.drop (j - m), ltOf cf y x = false)))
 case atStart =>
  have h1 := HM.out.2.2
  exact ⟨m, b, _, #[], rfl, rfl, by omega, by omega, by omega, by omega, HST.out, ⟨by rw [Nat.sub_self, List.take_zero]; simp, by rw [show b - m = Y.length by omega, List.drop_length]; simp⟩⟩
 case round =>
  obtain ⟨i, j, q, os, rfl, rfl, hi, hij, hjb, hg, rfl, HI⟩ := hrel
  obtain ⟨wq, hwq⟩ : ∃ wq, sWB enc k w blk off q d os = wq := ⟨_, rfl⟩
  have HWQ := Aside0.mk hwq
  rw [hwq]
  by_cases hlt : i < j
  ·have hltz : (i : Int) < (j : Int) := by omega
   obtain ⟨h, hh⟩ : ∃ h : Nat, ((i : Int) + (j : Int)) / 2 = (h : Int) := ⟨(i + j) / 2, by omega⟩
   have hih : i ≤ h := by omega
   have hhj : h < j := by omega
   have hhz : (h : Int) < (d.size : Int) := by omega
   have haz : (a : Int) < (d.size : Int) := by omega
   obtain ⟨xh, hxh⟩ : ∃ z, d[h]! = z := ⟨_, rfl⟩
   have hxh2 : ∃ hl : h - m < Y.length, Y[h - m] = xh := by
    have hq := HM.out.2.2
    refine ⟨by omega, ?_⟩
    rw [← HDY.out (h - m) (by omega), show m + (h - m) = h by omega, hxh]
   have HX2 := Aside0.mk hxh2
   have hHc : ∀ q' os', HoldsK enc k (grow (redrawn wq q') os') blk off d := fun q' os' => by
    rw [← HWQ.out, sWB_regrown]
    exact sWB_holds enc k w blk off q' d d _ HH.out hblk rfl
   have lh : ∀ q' os', Sem.run P (loadCellsFrom ⟨blk, off + h * k, none⟩ 0 k #[]) (grow (redrawn wq q') os') = .ok (enc xh).toArray (grow (redrawn wq q') os') := fun q' os' => by
    rw [← hxh]; exact run_loadCellsFrom_list P _ _ _ k (HK.out _) (HoldsK.cells (hHc q' os') HK.out (by omega))
   have la : ∀ q' os', Sem.run P (loadCellsFrom ⟨blk, off + a * k, none⟩ 0 k #[]) (grow (redrawn wq q') os') = .ok (enc x).toArray (grow (redrawn wq q') os') := fun q' os' => by
    rw [← HDX.out]; exact run_loadCellsFrom_list P _ _ _ k (HK.out _) (HoldsK.cells (hHc q' os') HK.out (by omega))
   have hcg : ∀ q' os', Calls P g (#[.agg (enc xh).toArray, .agg (enc x).toArray] ++ cb) (grow (redrawn wq q') os') fun e w' => e = .returned (.int .i64 (cf xh x)) ∧ Below (grow (redrawn wq q') os').heap.size (grow (redrawn wq q') os') w' := fun q' os' => by
    rw [← HWQ.out, sWB_regrown]
    exact HC.out q' _ d rfl xh x
   clear hHc hxh hxh2 hwq
   by_cases hlv : cf xh x < 0
   ·have HLV := Aside0.mk (show ltOf cf xh x = true from decide_eq_true hlv)
    go_wp2_with fail
    refine wp_region_quiet_below (by assumption) (by kernel_rfl) ?_
    repeat (quiet_step ((go_at_fn g; refine Calls.regrown_of (hcg _ _))))
    refine wpQuiet_nil ?_
    intro _ hw'
    obtain ⟨⟨dq, osq⟩, hw''⟩ := hw'
    subst hw''
    go_wp2_with fail
    go_roundg (j - (h + 1))
    case measure => omega
    case rel =>
     refine ⟨h + 1, j, dq, os ++ osq, by go_num, rfl, by omega, by omega, by omega, Nat.le_refl _, by rw [← HWQ.out, sWB_regrown], ⟨?_, HI.out.2⟩⟩
     obtain ⟨hl, he⟩ := HX2.out
     rw [show h + 1 - m = h - m + 1 by omega]
     exact up1 HSW.out HYs.out x (h - m) hl (by rw [he]; exact HLV.out)
   ·have HLV := Aside0.mk (show ltOf cf xh x = false from decide_eq_false hlv)
    go_wp2_with fail
    refine wp_region_quiet_below (by assumption) (by kernel_rfl) ?_
    repeat (quiet_step ((go_at_fn g; refine Calls.regrown_of (hcg _ _))))
    refine wpQuiet_nil ?_
    intro _ hw'
    obtain ⟨⟨dq, osq⟩, hw''⟩ := hw'
    subst hw''
    go_wp2_with fail
    go_roundg (h - i)
    case measure => omega
    case rel =>
     refine ⟨i, h, dq, os ++ osq, rfl, rfl, hi, hih, by omega, Nat.le_refl _, by rw [← HWQ.out, sWB_regrown], ⟨HI.out.1, ?_⟩⟩
     obtain ⟨hl, he⟩ := HX2.out
     exact down1 HSW.out HYs.out x (h - m) hl (by rw [he]; exact HLV.out)
  ·have hltz : ¬ (i : Int) < (j : Int) := by omega
   obtain rfl : i = j := by omega
   have HI2 := HI
   have hst0 : wq = sWB enc k w blk off q d os := HWQ.out.symm
   have HST2 := Aside0.mk hst0
   clear hst0 hwq HWQ HI
   go_wp2_with fail
   go_loopg [13] (i - 1 - a) (fun gg vk wr => ∃ (t q : Nat) (os : Array Obj) (dk : Array α), vk = .int .i64 ((a + t : Nat) : Int) ∧ a + t ≤ i - 1 ∧ i - 1 - (a + t) ≤ gg ∧ dk.size = d.size ∧ wr = sWB enc k w blk off q dk os ∧ Hid (dk.toList = A ++ (Y.take t ++ x :: (Y.drop t ++ B))))
   case atStart => exact ⟨0, q, os, d, by go_num, by omega, by omega, rfl, HST2.out, (by show _ = _; rw [List.take_zero, List.drop_zero]; exact HD.out)⟩
   case round =>
    obtain ⟨t, q2, os2, dk, rfl, ht, hg2, hsk, rfl, HT⟩ := hrel
    obtain ⟨kk, hkk⟩ : ∃ kk, kk = a + t := ⟨_, rfl⟩
    have HKK := Aside0.mk hkk
    rw [← hkk] at ht hg2 ⊢
    clear hkk
    by_cases hlt2 : kk < i - 1
    ·have hltz2 : (kk : Int) < (i : Int) - 1 := by omega
     obtain ⟨x0, hx0⟩ : ∃ z, dk[kk]! = z := ⟨_, rfl⟩
     obtain ⟨x1, hx1⟩ : ∃ z, dk[kk + 1]! = z := ⟨_, rfl⟩
     have j0 : (kk : Int) < (d.size : Int) := by omega
     have j1 : (kk : Int) + 1 < (d.size : Int) := by omega
     have j2 : (0 : Int) ≤ (kk : Int) + 1 := by omega
     have e1 : ((kk : Int) + 1).toNat = kk + 1 := by omega
     have hHd : HoldsK enc k (sWB enc k w blk off q2 dk os2).drew blk off dk := sWB_holds enc k w blk off q2 d dk os2 HH.out hblk hsk
     have bnd : ∀ z, z < dk.size → z * k + k ≤ dk.size * k := fun z hz => by
      have := Nat.mul_le_mul_right k (show z + 1 ≤ dk.size from hz); rwa [Nat.add_mul, Nat.one_mul] at this
     have HNX : Hid ((swp dk kk (kk + 1)).toList = A ++ (Y.take (t + 1) ++ x :: (Y.drop (t + 1) ++ B))) := by
      show _ = _
      have hk2 := HKK.out
      have q1 := HM.out.1
      have q3 := HM.out.2.2
      have hty : t < Y.length := by omega
      have hT := HT.out
      rw [List.drop_eq_getElem_cons hty] at hT
      have hT2 : dk.toList = (A ++ Y.take t) ++ x :: ([] ++ Y[t] :: (Y.drop (t + 1) ++ B)) := by rw [hT]; simp only [List.append_assoc, List.cons_append, List.nil_append]
      have := swp_list dk _ _ _ _ _ hT2
      rw [List.length_append, List.length_take, Nat.min_eq_left (by omega), ← q1, ← hk2, List.length_nil, Nat.add_zero] at this
      rw [this, List.take_succ_eq_append_getElem hty]
      simp only [List.append_assoc, List.cons_append, List.nil_append]
     have HSWP : Hid (((sWB enc k w blk off q2 dk os2).drew.setCells blk (off + kk * k) (enc x1)).setCells blk (off + (kk + 1) * k) (enc x0) = sWB enc k w blk off (q2 + 1) (swp dk kk (kk + 1)) os2) := by
      show _ = _
      rw [sWB_drew, ← hx0, ← hx1]
      exact sWB_swp enc k HK.out w blk off (q2 + 1) dk os2 hblk kk (kk + 1) (by omega) (by omega)
     generalize sWB enc k w blk off q2 dk os2 = wq at hHd HSWP ⊢
     have l0 : Sem.run P (loadCellsFrom ⟨blk, off + kk * k, none⟩ 0 k #[]) wq.drew = .ok (enc x0).toArray wq.drew := by rw [← hx0]; exact run_loadCellsFrom_list P _ _ _ k (HK.out _) (HoldsK.cells hHd HK.out (by omega))
     have l1 : Sem.run P (loadCellsFrom ⟨blk, off + (kk + 1) * k, none⟩ 0 k #[]) wq.drew = .ok (enc x1).toArray wq.drew := by rw [← hx1]; exact run_loadCellsFrom_list P _ _ _ k (HK.out _) (HoldsK.cells hHd HK.out (by omega))
     have s1 : Sem.run P (storeCells ⟨blk, off + kk * k, none⟩ (enc x1) 0) wq.drew = .ok () (wq.drew.setCells blk (off + kk * k) (enc x1)) := stores_of_holds P hHd (kk * k) _ (by rw [HK.out, size_flatK]; exact bnd kk (by omega)) (H1.out _)
     have s2 : Sem.run P (storeCells ⟨blk, off + (kk + 1) * k, none⟩ (enc x0) 0) (wq.drew.setCells blk (off + kk * k) (enc x1)) = .ok () ((wq.drew.setCells blk (off + kk * k) (enc x1)).setCells blk (off + (kk + 1) * k) (enc x0)) :=
      stores_of_holds P (holds_setCells_c hHd (kk * k) _ (by rw [HK.out, size_flatK]; exact bnd kk (by omega))) ((kk + 1) * k) _ (by rw [HK.out, size_setMany, size_flatK]; exact bnd (kk + 1) (by omega)) (H1.out _)
     have hs0 : (enc x0).length = k := HK.out _
     have hs1 : (enc x1).length = k := HK.out _
     clear hHd bnd hx0 hx1
     obtain ⟨c0, hc0⟩ : ∃ c, enc x0 = c := ⟨_, rfl⟩
     obtain ⟨c1, hc1⟩ : ∃ c, enc x1 = c := ⟨_, rfl⟩
     rw [hc0] at l0 s2 hs0 HSWP
     rw [hc1] at l1 s1 s2 hs1 HSWP
     clear hc0 hc1
     go_wp2_with fail
     go_big_region_o
     all_goals go_wp2
     go_roundg (i - 1 - (kk + 1))
     case measure => omega
     case rel =>
      have hk2 := HKK.out
      exact ⟨t + 1, q2 + 1, os2, _, by rw [hk2]; go_num, by omega, by omega, by rw [size_swp]; exact hsk, HSWP.out, HNX⟩
    ·have hltz2 : ¬ (kk : Int) < (i : Int) - 1 := by omega
     go_wp2
     refine bodyPost_ret (results_none rfl _ _ _) rfl ?_
     have hk2 := HKK.out
     have q1 := HM.out.2.1
     obtain ⟨z1, z2⟩ := HI2.out
     have et : i - m = t := by omega
     rw [et] at z1 z2
     have hf := fin1 HSW.out HYs.out x t z1 z2
     exact ⟨rfl, q2, os2, dk, ⟨_, by rw [HT.out]; simp, hf.1, hf.2⟩, hsk, rfl⟩
end Go.Proofs.Ytodbmagneaiocaa.PA
namespace Go.Proofs.Ytodbmagneaiocaa.PA
open Go.RowKit Go.Proofs.YtodbmagneaiocaaW.PrintWords Go.Proofs.YtodbmagneaiocaaW.PrintLast Go.Proofs.YtodbmagneaiocaaW.PrintMore
attribute [local go_sem] max2_int min2_int max_two min_two max_three min_three max_four min_four
set_option linter.unusedVariables false
set_option linter.unusedSimpArgs false
open Go Go.Shelf Go.Lib Go.Sort
def SymT (P : Program) {α : Type} [Inhabited α] (enc : α → List Value) (k : Nat) (cf : α → α → Int) (g : Nat) (cb : Array Value) (blk off cap N : Nat) : Prop :=
 ∀ (A X Y B : List α) (d : Array α) (w : World) (a m b : Nat), X.length + Y.length ≤ N → X ≠ [] → Y ≠ [] → CmpB P g cb enc k cf blk off d.size w → HoldsK enc k w blk off d → blk < w.heap.size → d.toList = A ++ (X ++ (Y ++ B)) → SortedL (ltOf cf) X → SortedL (ltOf cf) Y → a = A.length → m = A.length + X.length → b = A.length + X.length + Y.length → d.size < 1000000000000 →
  Calls P 47 #[.slice (some ⟨blk, off, none⟩) d.size cap, .int .i64 a, .int .i64 m, .int .i64 b, .func (.func g) #[] cb] w fun e w' =>
   e = .returned (.tuple #[]) ∧ ∃ q os dk, (∃ Z, dk.toList = A ++ (Z ++ B) ∧ StP (ltOf cf) (X ++ Y) Z ∧ SortedL (ltOf cf) Z) ∧ dk.size = d.size ∧ w' = sWB enc k w blk off q dk os
theorem sorted_one {α : Type} {lt : α → α → Bool} {X Y : List α} (h : X = [] ∨ Y = []) (hX : SortedL lt X) (hY : SortedL lt Y) : SortedL lt (X ++ Y) := by
 rcases h with rfl | rfl
 ·exact hY
 ·rw [List.append_nil]
  exact hX
theorem part_sorted {α : Type} {lt : α → α → Bool} {X : List α} (h : SortedL lt X) (s : Nat) : SortedL lt (X.take s) ∧ SortedL lt (X.drop s) := by
 have : SortedL lt (X.take s ++ X.drop s) := by rw [List.take_append_drop]; exact h
 rw [sorted_app] at this
 exact ⟨this.1, this.2.1⟩
def subC : Code → List Bool → Code
 | .seq a b, false :: l => subC a l
 | .seq a b, true :: l => subC b l
 | c, _ => c
set_option maxHeartbeats 8000000 in
set_option maxRecDepth 1000000 in
theorem sym_t41 {P : Program} (L : LS P) {α : Type} [Inhabited α] (enc : α → List Value) (k : Nat) (aE : ∀ w, (isAgg 43).run P w = .ok true w) (zE : ∀ w, (Go.sizeOf 43).run P w = .ok k w) (hk : ∀ x, (enc x).length = k) (h1 : ∀ x, ∀ v ∈ enc x, v.oneCell' = true)
  (cf : α → α → Int) (hS : SWO (ltOf cf)) (g : Nat) (cb : Array Value) (blk off cap N : Nat) (HIH : Aside0 (SymT P enc k cf g cb blk off cap N)) (A X Y B : List α) (d : Array α) (w : World) (a m b s e mid nn : Nat) (HM : Aside0 (a = A.length ∧ m = a + X.length ∧ b = m + Y.length ∧ X.length + Y.length ≤ N + 1)) (HXs : Aside0 (SortedL (ltOf cf) X)) (HYs : Aside0 (SortedL (ltOf cf) Y)) (HH : Hid (HoldsK enc k w blk off d)) (HC : Aside0 (CmpB P g cb enc k cf blk off d.size w)) (hblk : blk < w.heap.size) (hsz : d.size < 1000000000000) (hbd : b ≤ d.size) (hmb : m + 2 ≤ b) (hmid2 : mid < b) (hmid1 : a < mid) (hnn : (mid : Int) + (m : Int) = (nn : Int)) (has : a ≤ s) (hsm : s ≤ m) (hme : m ≤ e) (heb : e ≤ b) (HEE : Aside0 (e = nn - s))
  (HCUT : Aside0 (s - a ≤ X.length ∧ nn - s - m ≤ Y.length ∧ m + s ≤ nn ∧ a ≤ s ∧ s ≤ m ∧ nn - s ≤ b ∧ (∀ x ∈ X.drop (s - a), ∀ y ∈ Y.take (nn - s - m), ltOf cf y x = true) ∧ (∀ x ∈ X.take (s - a), ∀ y ∈ Y.drop (nn - s - m), ltOf cf y x = false)))
  (q2 : Nat) (os2 : Array Obj) (d2 : Array α) (HD2 : Hid (d2.size = d.size ∧ d2.toList = A ++ (X.take (s - a) ++ (Y.take (nn - s - m) ++ (X.drop (s - a) ++ (Y.drop (nn - s - m) ++ B)))))) (t5 t6 t7 t8 t9 t10 t11 t12 t13 t14 t15 t16 t17 t19 t21 t22 t23 t25 t26 t27 t28 t29 t30 t31 t32 t33 t34 t35 t36 t37 t38 t39 t40 t41 t42 t43 t44 t45 t46 t47 t48 t49 t50 t51 t52 t53 t54 t55 t56 t57 t58 t59 t60 t61 t62 t63 t64 t65 t66 t67 t68 t69 t70 t71 t72 t73 t74 t75 t76 t77 t78 t79 t80 t81 t82 t83 t84 t85 t86 t87 t88 t89 t90 t91 t92 t93 t94 t95 t96 t97 t98 t99 t100 t101 t102 t103 t104 t105 t106 t107 t108 t109 t110 t111 t112 t113 t114 t115 t116 t117 t118 t119 t120 t121 t122 t123 t124 t125 t126 t127 t128 t129 t130 t131 t132 t133 t134 t135 t136 t137 t138 t139 t140 t141 t142 t143 t144 t145 t146 t147 t148 t149 t150 t151 t152 t153 t154 t155 t156 t157 t158 t159 t160 t161 t162 t163 t164 t165 t166 t167 t168 t169 t170 t171 t172 t173 t174 t175 t176 t177 t178 t179 t180 t181 t182 t183 t184 t185 t186 t187 t188 t189 t190 t191 t192 t193 t194 t195 t196 t197 t198 t199 t200 t201 t202 t203 t204 t205 t206 t207 t208 t209 t210 t211 t212 t213 t214 t215 t216 t217 t218 t219 : Value)
  (cR cC cN : Code) (hcR : cR = subC (Try.f47.body.getD .skip) [true, true, true, true, true, true, true, true, true, true, false, false]) (hcC : cC = subC (Try.f47.body.getD .skip) [true, true, true, true, true, true, true, true, true, true, false, true]) (hcN : cN = subC (Try.f47.body.getD .skip) [true, true, true, true, true, true, true, true, true, true, true]) (K K1 : Act → World → Prop) (Q : Exit → Act → World → Prop) (hQ : Q = (bodyPost P Try.f47 fun e w' => e = .returned (.tuple #[]) ∧ ∃ q os dk, (∃ Z, dk.toList = A ++ (Z ++ B) ∧ StP (ltOf cf) (X ++ Y) Z ∧ SortedL (ltOf cf) Z) ∧ dk.size = d.size ∧ w' = sWB enc k w blk off q dk os)) (hK : ∀ a w, Code.wp P cC (Exit.then K1 Q) a w → K a w) (hK1 : ∀ a w, Code.wp P cN Q a w → K1 a w) :
  Code.wp P cR (Exit.then K (Exit.then K1 Q)) { tmps := #[.slice (some ⟨blk, off, none⟩) d.size cap, .int .i64 a, .int .i64 m, .int .i64 b, .func (.func g) #[] cb, t5, t6, t7, t8, t9, t10, t11, t12, t13, t14, t15, t16, t17, .int .i64 mid, t19, .int .i64 s, t21, t22, t23, .int .i64 e, t25, t26, t27, t28, t29, t30, t31, t32, t33, t34, t35, t36, t37, t38, t39, t40, t41, t42, t43, t44, t45, t46, t47, t48, t49, t50, t51, t52, t53, t54, t55, t56, t57, t58, t59, t60, t61, t62, t63, t64, t65, t66, t67, t68, t69, t70, t71, t72, t73, t74, t75, t76, t77, t78, t79, t80, t81, t82, t83, t84, t85, t86, t87, t88, t89, t90, t91, t92, t93, t94, t95, t96, t97, t98, t99, t100, t101, t102, t103, t104, t105, t106, t107, t108, t109, t110, t111, t112, t113, t114, t115, t116, t117, t118, t119, t120, t121, t122, t123, t124, t125, t126, t127, t128, t129, t130, t131, t132, t133, t134, t135, t136, t137, t138, t139, t140, t141, t142, t143, t144, t145, t146, t147, t148, t149, t150, t151, t152, t153, t154, t155, t156, t157, t158, t159, t160, t161, t162, t163, t164, t165, t166, t167, t168, t169, t170, t171, t172, t173, t174, t175, t176, t177, t178, t179, t180, t181, t182, t183, t184, t185, t186, t187, t188, t189, t190, t191, t192, t193, t194, t195, t196, t197, t198, t199, t200, t201, t202, t203, t204, t205, t206, t207, t208, t209, t210, t211, t212, t213, t214, t215, t216, t217, t218, t219], defers := [] } (sWB enc k w blk off q2 d2 os2) := by
 have mixed := L.mixed
 have t3 := L.t3; have a3 := L.a3; have z3 := L.z3; have v3 := L.v3; have t4 := L.t4; have a4 := L.a4; have z4 := L.z4; have v4 := L.v4; have t68 := L.t68; have a68 := L.a68; have z68 := L.z68; have v68 := L.v68; have t22 := L.t22; have a22 := L.a22; have z22 := L.z22; have v22 := L.v22
 have ero := L.e48
 have esy := L.e47
 have HSW := Aside0.mk hS
 rw [hcC] at hK
 rw [hcN] at hK1
 rw [hcR]
 dsimp only [subC, Try.f47, Option.getD_some] at hK hK1 ⊢
 subst hQ
 clear hcR hcC hcN hS hk h1
 have hHO2 : Hid (HoldsK enc k (sWB enc k w blk off q2 d2 os2) blk off d2) := sWB_holds enc k w blk off q2 d d2 os2 HH.out hblk HD2.out.1
 have hBK2 : Hid (blk < (sWB enc k w blk off q2 d2 os2).heap.size) := Nat.lt_of_lt_of_le hblk (sWB_size enc k w blk off q2 d2 os2)
 have hON2 : Hid (∀ q' dk' os', dk'.size = d.size → sWB enc k (sWB enc k w blk off q2 d2 os2) blk off q' dk' os' = sWB enc k w blk off q' dk' (os2 ++ os')) := fun q' dk' os' h => sWB_on enc k w blk off q2 q' d2 dk' os2 os' hblk (h.trans HD2.out.1.symm)
 have hCM2 : Hid (CmpB P g cb enc k cf blk off d.size (sWB enc k w blk off q2 d2 os2)) := CmpB.on HC.out hblk q2 d2 os2 HD2.out.1
 obtain ⟨w2, hw2⟩ : ∃ w2, sWB enc k w blk off q2 d2 os2 = w2 := ⟨_, rfl⟩
 have HW2 := Aside0.mk hw2
 rw [hw2] at hHO2 hBK2 hON2 hCM2 ⊢
 clear hw2
 go_cut [199] (fun v199 wd => v199 = .bool (decide (a < s) && decide (s < mid)) ∧ wd = w2)
 case first =>
  by_cases h1 : a < s
  ·have z1 : (a : Int) < (s : Int) := by omega
   by_cases h2 : s < mid
   ·have z2 : (s : Int) < (mid : Int) := by omega
    go_wp2_with fail
    go_meet
    case rel => exact ⟨by rw [decide_eq_true h1, decide_eq_true h2]; rfl, rfl⟩
   ·have z2 : ¬ (s : Int) < (mid : Int) := by omega
    go_wp2_with fail
    go_meet
    case rel => exact ⟨by rw [decide_eq_true h1, decide_eq_false h2]; rfl, rfl⟩
  ·have z1 : ¬ (a : Int) < (s : Int) := by omega
   go_wp2_with fail
   go_meet
   case rel => exact ⟨by rw [decide_eq_false h1]; rfl, rfl⟩
 case rest =>
  obtain ⟨rfl, rfl⟩ := hcut
  obtain ⟨w2, rfl⟩ : ∃ x, x = wc := ⟨_, rfl⟩
  obtain ⟨bb, hbb⟩ : ∃ bb, (decide (a < s) && decide (s < mid)) = bb := ⟨_, rfl⟩
  rw [hbb]
  have HBB := Aside0.mk hbb
  clear hbb
  go_upto_if 199 with fail
  go_cut [205] (fun v205 we => ∃ (q : Nat) (os : Array Obj) (d3 : Array α), we = sWB enc k w blk off q d3 os ∧ Hid (d3.size = d.size ∧ ∃ Z1, d3.toList = A ++ (Z1 ++ (X.drop (s - a) ++ (Y.drop (nn - s - m) ++ B))) ∧ StP (ltOf cf) (X.take (s - a) ++ Y.take (nn - s - m)) Z1 ∧ SortedL (ltOf cf) Z1))
  case first =>
   obtain ⟨qa, qx, qy, qN⟩ := HM.out
   obtain ⟨k1, k2, k3, k4, k5, k6, _⟩ := HCUT.out
   have hge := HEE.out
   have hl1 : (X.take (s - a)).length = s - a := by rw [List.length_take]; omega
   have hl2 : (Y.take (nn - s - m)).length = nn - s - m := by rw [List.length_take]; omega
   have hn2 : nn = mid + m := by omega
   cases bb with
   | false =>
    have hone : X.take (s - a) = [] ∨ Y.take (nn - s - m) = [] := by
     have := HBB.out
     by_cases h1 : a < s
     ·by_cases h2 : s < mid
      ·rw [decide_eq_true h1, decide_eq_true h2] at this
       exact absurd this (by decide)
      ·exact Or.inr (List.length_eq_zero_iff.1 (by omega))
     ·exact Or.inl (List.length_eq_zero_iff.1 (by omega))
    have HONE := Aside0.mk hone
    clear hl1 hl2 hone k1 k2 k3 k4 k5 k6 qa qx qy qN hge hn2
    go_wp2_with fail
    go_meet
    case rel => exact ⟨q2, os2, d2, HW2.out.symm, ⟨HD2.out.1, X.take (s - a) ++ Y.take (nn - s - m), by rw [HD2.out.2]; simp only [List.append_assoc], StP.refl _, sorted_one HONE.out (part_sorted HXs.out _).1 (part_sorted HYs.out _).1⟩⟩
   | true =>
    have hlt2 : a < s ∧ s < mid := by
     have := HBB.out
     rw [Bool.and_eq_true, decide_eq_true_eq, decide_eq_true_eq] at this
     exact this
    have hrec := HIH.out A (X.take (s - a)) (Y.take (nn - s - m)) (X.drop (s - a) ++ (Y.drop (nn - s - m) ++ B)) d2 w2 a s mid (by rw [hl1, hl2]; omega) (fun h => by rw [h] at hl1; simp at hl1; omega) (fun h => by rw [h] at hl2; simp at hl2; omega) (by rw [HD2.out.1]; exact hCM2.out) hHO2.out hBK2.out HD2.out.2 (part_sorted HXs.out _).1 (part_sorted HYs.out _).1 qa (by rw [hl1]; omega) (by rw [hl1, hl2]; omega) (by rw [HD2.out.1]; exact hsz)
    rw [HD2.out.1] at hrec
    clear hl1 hl2 k1 k2 k3 k4 k5 k6 qa qx qy qN hge hlt2 hn2
    go_wp2_with (go_at_call 47; refine hrec.mono ?_; rintro e9 w9 ⟨rfl, q9, os9, d9, hZ9, hs9, rfl⟩)
    go_meet
    case rel => exact ⟨q9, os2 ++ os9, d9, hON2.out _ _ _ hs9, ⟨hs9, hZ9⟩⟩
  case rest =>
   obtain ⟨q3, os3, d3, rfl, HD3⟩ := hcut
   obtain ⟨hs3, Z1, hl3, hst3, hso3⟩ := HD3.out
   have HT3 := Aside0.mk (And.intro hs3 (And.intro hl3 (And.intro hst3 hso3)))
   have hHO3 : Hid (HoldsK enc k (sWB enc k w blk off q3 d3 os3) blk off d3) := sWB_holds enc k w blk off q3 d d3 os3 HH.out hblk hs3
   have hBK3 : Hid (blk < (sWB enc k w blk off q3 d3 os3).heap.size) := Nat.lt_of_lt_of_le hblk (sWB_size enc k w blk off q3 d3 os3)
   have hON3 : Hid (∀ q' dk' os', dk'.size = d.size → sWB enc k (sWB enc k w blk off q3 d3 os3) blk off q' dk' os' = sWB enc k w blk off q' dk' (os3 ++ os')) := fun q' dk' os' h => sWB_on enc k w blk off q3 q' d3 dk' os3 os' hblk (h.trans HT3.out.1.symm)
   have hCM3 : Hid (CmpB P g cb enc k cf blk off d.size (sWB enc k w blk off q3 d3 os3)) := CmpB.on HC.out hblk q3 d3 os3 hs3
   have hfin : Aside0 (∀ Z2, StP (ltOf cf) (X.drop (s - a) ++ Y.drop (nn - s - m)) Z2 → SortedL (ltOf cf) Z2 → StP (ltOf cf) (X ++ Y) (Z1 ++ Z2) ∧ SortedL (ltOf cf) (Z1 ++ Z2)) := ⟨fun Z2 z1 z2 => part3 HSW.out HXs.out HYs.out (s - a) (nn - s - m) HCUT.out.2.2.2.2.2.2 ⟨HT3.out.2.2.1, HT3.out.2.2.2⟩ ⟨z1, z2⟩⟩
   obtain ⟨w3, hw3⟩ : ∃ w3, sWB enc k w blk off q3 d3 os3 = w3 := ⟨_, rfl⟩
   have HW3 := Aside0.mk hw3
   rw [hw3] at hHO3 hBK3 hON3 hCM3 ⊢
   clear hw3 HBB hHO2 hBK2 hON2 hCM2 HW2 HD2 hs3 hl3 hst3 hso3 HD3
   obtain ⟨qa, qx, qy, qN⟩ := HM.out
   obtain ⟨k1, k2, k3, k4, k5, k6, _⟩ := HCUT.out
   have hge := HEE.out
   have hl1 : (X.drop (s - a)).length = m - s := by rw [List.length_drop]; omega
   have hl2 : (Y.drop (nn - s - m)).length = b - e := by rw [List.length_drop]; omega
   have hl4 : Z1.length = mid - a := by rw [HT3.out.2.2.1.len, List.length_append, List.length_take, List.length_take]; omega
   by_cases h1 : mid < e
   ·have z1 : (mid : Int) < (e : Int) := by omega
    by_cases h2 : e < b
    ·have z2 : (e : Int) < (b : Int) := by omega
     have hrec := HIH.out (A ++ Z1) (X.drop (s - a)) (Y.drop (nn - s - m)) B d3 w3 mid e b (by rw [hl1, hl2]; omega) (fun h => by rw [h] at hl1; simp at hl1; omega) (fun h => by rw [h] at hl2; simp at hl2; omega) (by rw [HT3.out.1]; exact hCM3.out) hHO3.out hBK3.out (by rw [HT3.out.2.1]; simp only [List.append_assoc]) (part_sorted HXs.out _).2 (part_sorted HYs.out _).2 (by rw [List.length_append, hl4]; omega) (by rw [List.length_append, hl4, hl1]; omega) (by rw [List.length_append, hl4, hl1, hl2]; omega) (by rw [HT3.out.1]; exact hsz)
     rw [HT3.out.1] at hrec
     clear hl1 hl2 hl4 k1 k2 k3 k4 k5 k6 qa qx qy qN hge
     go_wp2_with (go_at_call 47; refine hrec.mono ?_; rintro e9 w9 ⟨rfl, q9, os9, d9, ⟨Z2, hZ9, hst9, hso9⟩, hs9, rfl⟩)
     go_end0
     have hf := hfin.out Z2 hst9 hso9
     exact ⟨rfl, q9, os3 ++ os9, d9, ⟨Z1 ++ Z2, by rw [hZ9]; simp only [List.append_assoc], hf.1, hf.2⟩, hs9, hON3.out _ _ _ hs9⟩
    ·have z2 : ¬ (e : Int) < (b : Int) := by omega
     have hemp : Y.drop (nn - s - m) = [] := List.length_eq_zero_iff.1 (by omega)
     have hf := Aside0.mk (hfin.out (X.drop (s - a) ++ Y.drop (nn - s - m)) (StP.refl _) (sorted_one (Or.inr hemp) (part_sorted HXs.out _).2 (part_sorted HYs.out _).2))
     clear hl1 hl2 hl4 k1 k2 k3 k4 k5 k6 qa qx qy qN hge hemp
     go_wp2_with fail
     go_end0
     exact ⟨rfl, q3, os3, d3, ⟨Z1 ++ (X.drop (s - a) ++ Y.drop (nn - s - m)), by rw [HT3.out.2.1]; simp only [List.append_assoc], hf.out.1, hf.out.2⟩, HT3.out.1, HW3.out.symm⟩
   ·have z1 : ¬ (mid : Int) < (e : Int) := by omega
    have hemp : X.drop (s - a) = [] := List.length_eq_zero_iff.1 (by omega)
    have hf := Aside0.mk (hfin.out (X.drop (s - a) ++ Y.drop (nn - s - m)) (StP.refl _) (sorted_one (Or.inl hemp) (part_sorted HXs.out _).2 (part_sorted HYs.out _).2))
    clear hl1 hl2 hl4 k1 k2 k3 k4 k5 k6 qa qx qy qN hge hemp
    go_wp2_with fail
    go_end0
    exact ⟨rfl, q3, os3, d3, ⟨Z1 ++ (X.drop (s - a) ++ Y.drop (nn - s - m)), by rw [HT3.out.2.1]; simp only [List.append_assoc], hf.out.1, hf.out.2⟩, HT3.out.1, HW3.out.symm⟩
set_option maxHeartbeats 8000000 in
set_option maxRecDepth 1000000 in
theorem sym_t39 {P : Program} (L : LS P) {α : Type} [Inhabited α] (enc : α → List Value) (k : Nat) (aE : ∀ w, (isAgg 43).run P w = .ok true w) (zE : ∀ w, (Go.sizeOf 43).run P w = .ok k w) (hk : ∀ x, (enc x).length = k) (h1 : ∀ x, ∀ v ∈ enc x, v.oneCell' = true)
  (cf : α → α → Int) (hS : SWO (ltOf cf)) (g : Nat) (cb : Array Value) (blk off cap N : Nat) (HIH : Aside0 (SymT P enc k cf g cb blk off cap N)) (A X Y B : List α) (d : Array α) (w : World) (a m b s e mid nn : Nat) (HM : Aside0 (a = A.length ∧ m = a + X.length ∧ b = m + Y.length ∧ X.length + Y.length ≤ N + 1)) (HXs : Aside0 (SortedL (ltOf cf) X)) (HYs : Aside0 (SortedL (ltOf cf) Y)) (HH : Hid (HoldsK enc k w blk off d)) (HC : Aside0 (CmpB P g cb enc k cf blk off d.size w)) (hblk : blk < w.heap.size) (hsz : d.size < 1000000000000) (hbd : b ≤ d.size) (hmb : m + 2 ≤ b) (hmid2 : mid < b) (hmid1 : a < mid) (hnn : (mid : Int) + (m : Int) = (nn : Int)) (has : a ≤ s) (hsm : s ≤ m) (hme : m ≤ e) (heb : e ≤ b) (HEE : Aside0 (e = nn - s))
  (HCUT : Aside0 (s - a ≤ X.length ∧ nn - s - m ≤ Y.length ∧ m + s ≤ nn ∧ a ≤ s ∧ s ≤ m ∧ nn - s ≤ b ∧ (∀ x ∈ X.drop (s - a), ∀ y ∈ Y.take (nn - s - m), ltOf cf y x = true) ∧ (∀ x ∈ X.take (s - a), ∀ y ∈ Y.drop (nn - s - m), ltOf cf y x = false)))
  (q : Nat) (os : Array Obj) (HD : Aside0 (d.toList = A ++ (X ++ (Y ++ B)))) (wq : World) (HST2 : Aside0 (wq = sWB enc k w blk off q d os)) (t5 t6 t7 t8 t9 t10 t11 t12 t13 t14 t15 t16 t17 t19 t21 t22 t23 t25 t26 t27 t28 t29 t30 t31 t32 t33 t34 t35 t36 t37 t38 t39 t40 t41 t42 t43 t44 t45 t46 t47 t48 t49 t50 t51 t52 t53 t54 t55 t56 t57 t58 t59 t60 t61 t62 t63 t64 t65 t66 t67 t68 t69 t70 t71 t72 t73 t74 t75 t76 t77 t78 t79 t80 t81 t82 t83 t84 t85 t86 t87 t88 t89 t90 t91 t92 t93 t94 t95 t96 t97 t98 t99 t100 t101 t102 t103 t104 t105 t106 t107 t108 t109 t110 t111 t112 t113 t114 t115 t116 t117 t118 t119 t120 t121 t122 t123 t124 t125 t126 t127 t128 t129 t130 t131 t132 t133 t134 t135 t136 t137 t138 t139 t140 t141 t142 t143 t144 t145 t146 t147 t148 t149 t150 t151 t152 t153 t154 t155 t156 t157 t158 t159 t160 t161 t162 t163 t164 t165 t166 t167 t168 t169 t170 t171 t172 t173 t174 t175 t176 t177 t178 t179 t180 t181 t182 t183 t184 t185 t186 t187 t188 t189 t190 t191 t192 t193 t194 t195 t196 t197 t198 t199 t200 t201 t202 t203 t204 t205 t206 t207 t208 t209 t210 t211 t212 t213 t214 t215 t216 t217 t218 t219 : Value)
  (cR cC cN : Code) (hcR : cR = subC (Try.f47.body.getD .skip) [true, true, true, true, true, true, true, true, true, false, false]) (hcC : cC = subC (Try.f47.body.getD .skip) [true, true, true, true, true, true, true, true, true, false, true]) (hcN : cN = subC (Try.f47.body.getD .skip) [true, true, true, true, true, true, true, true, true, true]) (K K1 : Act → World → Prop) (Q : Exit → Act → World → Prop) (hQ : Q = (bodyPost P Try.f47 fun e w' => e = .returned (.tuple #[]) ∧ ∃ q os dk, (∃ Z, dk.toList = A ++ (Z ++ B) ∧ StP (ltOf cf) (X ++ Y) Z ∧ SortedL (ltOf cf) Z) ∧ dk.size = d.size ∧ w' = sWB enc k w blk off q dk os)) (hK : ∀ a w, Code.wp P cC (Exit.then K1 Q) a w → K a w) (hK1 : ∀ a w, Code.wp P cN Q a w → K1 a w) :
  Code.wp P cR (Exit.then K (Exit.then K1 Q)) { tmps := #[.slice (some ⟨blk, off, none⟩) d.size cap, .int .i64 a, .int .i64 m, .int .i64 b, .func (.func g) #[] cb, t5, t6, t7, t8, t9, t10, t11, t12, t13, t14, t15, t16, t17, .int .i64 mid, t19, .int .i64 s, t21, t22, t23, .int .i64 e, t25, t26, t27, t28, t29, t30, t31, t32, t33, t34, t35, t36, t37, t38, t39, t40, t41, t42, t43, t44, t45, t46, t47, t48, t49, t50, t51, t52, t53, t54, t55, t56, t57, t58, t59, t60, t61, t62, t63, t64, t65, t66, t67, t68, t69, t70, t71, t72, t73, t74, t75, t76, t77, t78, t79, t80, t81, t82, t83, t84, t85, t86, t87, t88, t89, t90, t91, t92, t93, t94, t95, t96, t97, t98, t99, t100, t101, t102, t103, t104, t105, t106, t107, t108, t109, t110, t111, t112, t113, t114, t115, t116, t117, t118, t119, t120, t121, t122, t123, t124, t125, t126, t127, t128, t129, t130, t131, t132, t133, t134, t135, t136, t137, t138, t139, t140, t141, t142, t143, t144, t145, t146, t147, t148, t149, t150, t151, t152, t153, t154, t155, t156, t157, t158, t159, t160, t161, t162, t163, t164, t165, t166, t167, t168, t169, t170, t171, t172, t173, t174, t175, t176, t177, t178, t179, t180, t181, t182, t183, t184, t185, t186, t187, t188, t189, t190, t191, t192, t193, t194, t195, t196, t197, t198, t199, t200, t201, t202, t203, t204, t205, t206, t207, t208, t209, t210, t211, t212, t213, t214, t215, t216, t217, t218, t219], defers := [] } wq := by
 have hrot : ∀ (W : World) (A' X' Y' B' : List α) (dk : Array α) (a' m' b' : Nat), HoldsK enc k W blk off dk → blk < W.heap.size → dk.toList = A' ++ X' ++ Y' ++ B' → X' ≠ [] → Y' ≠ [] → a' = A'.length → m' = A'.length + X'.length → b' = A'.length + X'.length + Y'.length → dk.size = d.size → Calls P 48 #[.slice (some ⟨blk, off, none⟩) d.size cap, .int .i64 a', .int .i64 m', .int .i64 b', .func (.func g) #[] cb] W fun e w' => e = .returned (.tuple #[]) ∧ ∃ q os dk', dk'.toList = A' ++ Y' ++ X' ++ B' ∧ dk'.size = d.size ∧ w' = sWB enc k W blk off q dk' os := fun W A' X' Y' B' dk a' m' b' x1 x2 x3 x4 x5 x6 x7 x8 x9 => by
  have := rotate_call L enc k aE zE hk h1 (.func (.func g) #[] cb) blk off cap A' X' Y' B' dk W x1 x2 x3 x4 x5 a' m' b' x6 x7 x8 (by omega)
  rwa [x9] at this
 have HROT := Aside0.mk hrot
 clear hrot
 have HKL := Aside0.mk (And.intro hk h1)
 have mixed := L.mixed
 have t3 := L.t3; have a3 := L.a3; have z3 := L.z3; have v3 := L.v3; have t4 := L.t4; have a4 := L.a4; have z4 := L.z4; have v4 := L.v4; have t68 := L.t68; have a68 := L.a68; have z68 := L.z68; have v68 := L.v68; have t22 := L.t22; have a22 := L.a22; have z22 := L.z22; have v22 := L.v22
 have ero := L.e48
 have esy := L.e47
 have HSW := Aside0.mk hS
 rw [hcC] at hK
 rw [hcN] at hK1
 rw [hcR]
 dsimp only [subC, Try.f47, Option.getD_some] at hK hK1 ⊢
 subst hQ
 clear hcR hcC hcN hS hk h1
 go_cut [185] (fun v185 wd => v185 = .bool (decide (s < m) && decide (m < e)) ∧ wd = wq)
 case first =>
  by_cases h1 : s < m
  ·have z1 : (s : Int) < (m : Int) := by omega
   by_cases h2 : m < e
   ·have z2 : (m : Int) < (e : Int) := by omega
    go_wp2_with fail
    go_meet
    case rel => exact ⟨by rw [decide_eq_true h1, decide_eq_true h2]; rfl, rfl⟩
   ·have z2 : ¬ (m : Int) < (e : Int) := by omega
    go_wp2_with fail
    go_meet
    case rel => exact ⟨by rw [decide_eq_true h1, decide_eq_false h2]; rfl, rfl⟩
  ·have z1 : ¬ (s : Int) < (m : Int) := by omega
   go_wp2_with fail
   go_meet
   case rel => exact ⟨by rw [decide_eq_false h1]; rfl, rfl⟩
 case rest =>
  obtain ⟨rfl, rfl⟩ := hcut
  obtain ⟨wq, rfl⟩ : ∃ x, x = wc := ⟨_, rfl⟩
  obtain ⟨bb, hbb⟩ : ∃ bb, (decide (s < m) && decide (m < e)) = bb := ⟨_, rfl⟩
  rw [hbb]
  have HBB := Aside0.mk hbb
  clear hbb
  go_upto_if 185 with fail
  go_cut [191] (fun v191 wd => ∃ (q : Nat) (os : Array Obj) (d2 : Array α), wd = sWB enc k w blk off q d2 os ∧ Hid (d2.size = d.size ∧ d2.toList = A ++ (X.take (s - a) ++ (Y.take (nn - s - m) ++ (X.drop (s - a) ++ (Y.drop (nn - s - m) ++ B))))))
  case first =>
   obtain ⟨qa, qx, qy, _⟩ := HM.out
   obtain ⟨k1, k2, k3, k4, k5, k6, _⟩ := HCUT.out
   have hge := HEE.out
   have hXd := List.take_append_drop (s - a) X
   have hYd := List.take_append_drop (nn - s - m) Y
   have hl1 : (X.take (s - a)).length = s - a := by rw [List.length_take]; omega
   have hl2 : (Y.take (nn - s - m)).length = nn - s - m := by rw [List.length_take]; omega
   have hl3 : (X.drop (s - a)).length = X.length - (s - a) := List.length_drop
   cases bb with
   | false =>
    have hone : X.drop (s - a) = [] ∨ Y.take (nn - s - m) = [] := by
     have := HBB.out
     by_cases h1 : s < m
     ·by_cases h2 : m < e
      ·rw [decide_eq_true h1, decide_eq_true h2] at this
       exact absurd this (by decide)
      ·exact Or.inr (List.length_eq_zero_iff.1 (by omega))
     ·exact Or.inl (List.length_eq_zero_iff.1 (by omega))
    have HL : Hid (d.toList = A ++ (X.take (s - a) ++ (Y.take (nn - s - m) ++ (X.drop (s - a) ++ (Y.drop (nn - s - m) ++ B))))) := by
     show _ = _
     rw [HD.out]
     (conv => lhs; rw [← hXd, ← hYd])
     rcases hone with h | h <;> rw [h] <;> simp only [List.append_assoc, List.nil_append, List.append_nil]
    have HL2 := Aside0.mk HL
    clear HL hXd hYd hl1 hl2 hl3 hone k1 k2 k3 k4 k5 k6 qa qx qy hge
    go_wp2_with fail
    go_meet
    case rel => exact ⟨q, os, d, HST2.out, ⟨rfl, HL2.out⟩⟩
   | true =>
    have hlt2 : s < m ∧ m < e := by
     have := HBB.out
     rw [Bool.and_eq_true, decide_eq_true_eq, decide_eq_true_eq] at this
     exact this
    have hdd : d.toList = (A ++ X.take (s - a)) ++ X.drop (s - a) ++ Y.take (nn - s - m) ++ (Y.drop (nn - s - m) ++ B) := by
     rw [HD.out]
     (conv => lhs; rw [← hXd, ← hYd])
     simp only [List.append_assoc]
    have hrot2 := HROT.out wq (A ++ X.take (s - a)) (X.drop (s - a)) (Y.take (nn - s - m)) (Y.drop (nn - s - m) ++ B) d s m e (by rw [HST2.out]; exact sWB_holds enc k w blk off q d d _ HH.out hblk rfl) (by rw [HST2.out]; exact Nat.lt_of_lt_of_le hblk (sWB_size enc k w blk off q d os)) hdd (fun h => by rw [h] at hl3; simp at hl3; omega) (fun h => by rw [h] at hl2; simp at hl2; omega) (by rw [List.length_append, hl1]; omega) (by rw [List.length_append, hl1, hl3]; omega) (by rw [List.length_append, hl1, hl3, hl2]; omega) rfl
    clear hdd
    clear hXd hYd hl1 hl2 hl3 k1 k2 k3 k4 k5 k6 qa qx qy hge hlt2
    go_wp2_with (go_at_call 48; refine hrot2.mono ?_; rintro e9 w9 ⟨rfl, q9, os9, d9, hd9, hs9, rfl⟩)
    go_meet
    case rel => exact ⟨q9, os ++ os9, d9, by rw [HST2.out]; exact sWB_on enc k w blk off q q9 d d9 os os9 hblk hs9, ⟨hs9, by rw [hd9]; simp only [List.append_assoc]⟩⟩
  case rest =>
   obtain ⟨q2, os2, d2, rfl, HD2⟩ := hcut
   clear HST2 HBB
   go_upto_region 41 with fail
   exact sym_t41 L enc k aE zE HKL.out.1 HKL.out.2 cf HSW.out g cb blk off cap N HIH A X Y B d w a m b s e mid nn HM HXs HYs HH HC hblk hsz hbd hmb hmid2 hmid1 hnn has hsm hme heb HEE HCUT q2 os2 d2 HD2 _ _ _ _ _ _ _ _ _ _ _ _ _ _ _ _ _ _ _ _ _ _ _ _ _ _ _ _ _ _ _ _ _ _ _ _ _ _ _ _ _ _ _ _ _ _ _ _ _ _ _ _ _ _ _ _ _ _ _ _ _ _ _ _ _ _ _ _ _ _ _ _ _ _ _ _ _ _ _ _ _ _ _ _ _ _ _ _ _ _ _ _ _ _ _ _ _ _ _ _ _ _ _ _ _ _ _ _ _ _ _ _ _ _ _ _ _ _ _ _ _ _ _ _ _ _ _ _ _ _ _ _ _ _ _ _ _ _ _ _ _ _ _ _ _ _ _ _ _ _ _ _ _ _ _ _ _ _ _ _ _ _ _ _ _ _ _ _ _ _ _ _ _ _ _ _ _ _ _ _ _ _ _ _ _ _ _ _ _ _ _ _ _ _ _ _ _ _ _ _ _ _ _ _ _ _ _ _ _ _ _ _ _ _ _ (by kernel_rfl) (by kernel_rfl) (by kernel_rfl) _ _ _ rfl (by assumption) (by assumption)
set_option maxHeartbeats 8000000 in
set_option maxRecDepth 1000000 in
theorem sym3_call {P : Program} (L : LS P) {α : Type} [Inhabited α] (enc : α → List Value) (k : Nat) (aE : ∀ w, (isAgg 43).run P w = .ok true w) (zE : ∀ w, (Go.sizeOf 43).run P w = .ok k w) (hk : ∀ x, (enc x).length = k) (h1 : ∀ x, ∀ v ∈ enc x, v.oneCell' = true)
  (cf : α → α → Int) (hS : SWO (ltOf cf)) (g : Nat) (cb : Array Value) (eg : ∀ args w, (callFunc g args).run P w = .ok (.enter g args) w) (blk off cap N : Nat) (IH : SymT P enc k cf g cb blk off cap N) (A X Y B : List α) (d : Array α) (w : World) (a m b : Nat) (hN : X.length + Y.length ≤ N + 1) (hX2 : 2 ≤ X.length) (hY2 : 2 ≤ Y.length) (hcmp : CmpB P g cb enc k cf blk off d.size w) (hH : HoldsK enc k w blk off d) (hblk : blk < w.heap.size) (hd : d.toList = A ++ (X ++ (Y ++ B))) (hX : SortedL (ltOf cf) X) (hY : SortedL (ltOf cf) Y) (ha : a = A.length) (hm : m = A.length + X.length) (hb : b = A.length + X.length + Y.length) (hsz : d.size < 1000000000000) :
  Calls P 47 #[.slice (some ⟨blk, off, none⟩) d.size cap, .int .i64 a, .int .i64 m, .int .i64 b, .func (.func g) #[] cb] w fun e w' =>
   e = .returned (.tuple #[]) ∧ ∃ q os dk, (∃ Z, dk.toList = A ++ (Z ++ B) ∧ StP (ltOf cf) (X ++ Y) Z ∧ SortedL (ltOf cf) Z) ∧ dk.size = d.size ∧ w' = sWB enc k w blk off q dk os := by
 have mixed := L.mixed
 have t3 := L.t3; have a3 := L.a3; have z3 := L.z3; have v3 := L.v3; have t4 := L.t4; have a4 := L.a4; have z4 := L.z4; have v4 := L.v4; have t68 := L.t68; have a68 := L.a68; have z68 := L.z68; have v68 := L.v68; have t22 := L.t22; have a22 := L.a22; have z22 := L.z22; have v22 := L.v22
 have F := L.f47
 have ero := L.e48
 have esy := L.e47
 have hsl : d.size = A.length + (X.length + (Y.length + B.length)) := by
  rw [← Array.length_toList, hd]
  simp
 have hdx : ∀ t (h : t < X.length), d[a + t]! = X[t] := fun t h => by
  rw [ha, ← Array.getElem!_toList, hd]
  simp [h, List.getElem?_append]
  try rw [if_neg (by omega)]
  try rfl
 have hdy : ∀ t (h : t < Y.length), d[m + t]! = Y[t] := fun t h => by
  rw [hm, ← Array.getElem!_toList, hd, ← List.append_assoc, ← List.length_append]
  simp [h, List.getElem?_append]
  rw [show A.length + X.length + t - A.length - X.length = t by omega, if_pos h, List.getElem?_eq_getElem h, if_neg (by omega), if_neg (by omega)]
  rfl
 have HIH := Aside0.mk IH
 have HD := Aside0.mk hd
 have HDX := Aside0.mk hdx
 have HDY := Aside0.mk hdy
 have HXs := Aside0.mk hX
 have HYs := Aside0.mk hY
 have HSW := Aside0.mk hS
 have HST : Hid (w = sWB enc k w blk off w.drawn d #[]) := (sWB_start enc k w blk off d hH).symm
 have HH : Hid (HoldsK enc k w blk off d) := hH
 have HC := Aside0.mk hcmp
 have HK : Hid (∀ x, (enc x).length = k) := hk
 have H1 : Hid (∀ x, ∀ v ∈ enc x, v.oneCell' = true) := h1
 have hmx : m = a + X.length := by omega
 have hby : b = m + Y.length := by omega
 have hma : ((m : Int) - (a : Int) == 1) = false := beq_eq_false_iff_ne.mpr (by omega)
 have hmz : ((b : Int) - (m : Int) == 1) = false := beq_eq_false_iff_ne.mpr (by omega)
 have ham : a + 2 ≤ m := by omega
 have hmb : m + 2 ≤ b := by omega
 have hbd : b ≤ d.size := by omega
 have HM := Aside0.mk (And.intro ha (And.intro hmx (And.intro hby hN)))
 obtain ⟨mid, hmid⟩ : ∃ mid : Nat, ((a : Int) + (b : Int)) / 2 = (mid : Int) := ⟨(a + b) / 2, by omega⟩
 obtain ⟨nn, hnn⟩ : ∃ nn : Nat, (mid : Int) + (m : Int) = (nn : Int) := ⟨mid + m, by omega⟩
 obtain ⟨p, hp⟩ : ∃ p : Nat, (nn : Int) - 1 = (p : Int) := ⟨nn - 1, by omega⟩
 have hmid1 : a < mid := by omega
 have hmid2 : mid < b := by omega
 have hnn2 : nn < 1000000000000 + 1000000000000 := by omega
 have hRng : ∀ s0 r0 : Nat, ((mid < m ∧ s0 + b = nn ∧ r0 = mid) ∨ (m ≤ mid ∧ s0 = a ∧ r0 = m)) → s0 ≤ r0 ∧ a ≤ s0 ∧ r0 ≤ m ∧ ∀ c, s0 ≤ c → c < r0 → a ≤ c ∧ c < m ∧ m + c < nn ∧ nn - 1 - c < b := fun s0 r0 h => by
  refine ⟨by omega, by omega, by omega, fun c h1 h2 => by omega⟩
 have HRNG := Aside0.mk hRng
 clear hsl hdx hdy hd hX hY hX2 hY2 hS hH hcmp hk h1 ha hm hb hmx hby hN IH hRng
 go_enter F, Try.ntmps47
 go_upto_if 140 with fail
 (try rw [hma])
 (try rw [hmz])
 go_cut [20, 21] (fun v20 v21 wc => ∃ (s0 r0 : Nat), v20 = .int .i64 s0 ∧ v21 = .int .i64 r0 ∧ Aside0 ((mid < m ∧ s0 + b = nn ∧ r0 = mid) ∨ (m ≤ mid ∧ s0 = a ∧ r0 = m)) ∧ wc = w)
 case first =>
  by_cases hmm : mid < m
  ·obtain ⟨s0, hs0⟩ : ∃ s0 : Nat, (nn : Int) - (b : Int) = (s0 : Int) := ⟨nn - b, by omega⟩
   have hq : s0 + b = nn := by omega
   have hz : (mid : Int) < (m : Int) := by omega
   go_wp2_with fail
   go_meet
   case rel => exact ⟨s0, mid, rfl, rfl, ⟨Or.inl ⟨hmm, hq, rfl⟩⟩, rfl⟩
  ·have hz : ¬ (mid : Int) < (m : Int) := by omega
   go_wp2_with fail
   go_meet
   case rel => exact ⟨a, m, rfl, rfl, ⟨Or.inr ⟨by omega, rfl, rfl⟩⟩, rfl⟩
 case rest =>
  obtain ⟨s0, r0, rfl, rfl, HS0, rfl⟩ := hcut
  obtain ⟨w, rfl⟩ : ∃ x, x = wc := ⟨_, rfl⟩
  obtain ⟨hsr, has0, hr0m, _⟩ := HRNG.out s0 r0 HS0.out
  go_wp2_with fail
  go_loopg [20, 21] (r0 - s0) (fun gg vi vj wr => ∃ (s r q : Nat) (os : Array Obj), vi = .int .i64 s ∧ vj = .int .i64 r ∧ s0 ≤ s ∧ s ≤ r ∧ r ≤ r0 ∧ r - s ≤ gg ∧ wr = sWB enc k w blk off q d os ∧ Hid ((s = s0 ∨ ltOf cf d[nn - s]! d[s - 1]! = false) ∧ (r = r0 ∨ ltOf cf d[nn - 1 - r]! d[r]! = true)))
  case atStart => exact ⟨s0, r0, _, #[], rfl, rfl, Nat.le_refl _, hsr, Nat.le_refl _, Nat.le_refl _, HST.out, ⟨Or.inl rfl, Or.inl rfl⟩⟩
  case round =>
   obtain ⟨s, r, q, os, rfl, rfl, hs, hsr2, hr, hg, rfl, HI⟩ := hrel
   obtain ⟨wq, hwq⟩ : ∃ wq, sWB enc k w blk off q d os = wq := ⟨_, rfl⟩
   have HWQ := Aside0.mk hwq
   rw [hwq]
   by_cases hlt : s < r
   ·have hltz : (s : Int) < (r : Int) := by omega
    obtain ⟨h, hh⟩ : ∃ h : Nat, ((s : Int) + (r : Int)) / 2 = (h : Int) := ⟨(s + r) / 2, by omega⟩
    have hsh : s ≤ h := by omega
    have hhr : h < r := by omega
    obtain ⟨hR1, hR2, hR3, hR4⟩ := (HRNG.out s0 r0 HS0.out).2.2.2 h (by omega) (by omega)
    obtain ⟨e, he⟩ : ∃ e : Nat, (p : Int) - (h : Int) = (e : Int) := ⟨p - h, by omega⟩
    have hee : e = nn - 1 - h := by omega
    have hwe : IntKind.i64.wrap (e : Int) = (e : Int) := by rw [IntKind.wrap_i64]; omega
    have hez : (e : Int) < (d.size : Int) := by omega
    have hhz : (h : Int) < (d.size : Int) := by omega
    have hed : e < d.size := by omega
    have hhd : h < d.size := by omega
    obtain ⟨xh, hxh⟩ : ∃ z, d[h]! = z := ⟨_, rfl⟩
    obtain ⟨ye, hye⟩ : ∃ z, d[e]! = z := ⟨_, rfl⟩
    have HXY := Aside0.mk (And.intro hxh hye)
    have hHc : ∀ q' os', HoldsK enc k (grow (redrawn wq q') os') blk off d := fun q' os' => by
     rw [← HWQ.out, sWB_regrown]
     exact sWB_holds enc k w blk off q' d d _ HH.out hblk rfl
    have lh : ∀ q' os', Sem.run P (loadCellsFrom ⟨blk, off + h * k, none⟩ 0 k #[]) (grow (redrawn wq q') os') = .ok (enc xh).toArray (grow (redrawn wq q') os') := fun q' os' => by
     rw [← hxh]; exact run_loadCellsFrom_list P _ _ _ k (HK.out _) (HoldsK.cells (hHc q' os') HK.out hhd)
    have le : ∀ q' os', Sem.run P (loadCellsFrom ⟨blk, off + e * k, none⟩ 0 k #[]) (grow (redrawn wq q') os') = .ok (enc ye).toArray (grow (redrawn wq q') os') := fun q' os' => by
     rw [← hye]; exact run_loadCellsFrom_list P _ _ _ k (HK.out _) (HoldsK.cells (hHc q' os') HK.out hed)
    have hcg : ∀ q' os', Calls P g (#[.agg (enc ye).toArray, .agg (enc xh).toArray] ++ cb) (grow (redrawn wq q') os') fun e w' => e = .returned (.int .i64 (cf ye xh)) ∧ Below (grow (redrawn wq q') os').heap.size (grow (redrawn wq q') os') w' := fun q' os' => by
     rw [← HWQ.out, sWB_regrown]
     exact HC.out q' _ d rfl ye xh
    have HEE := Aside0.mk hee
    clear hHc hxh hye hwq hee
    by_cases hlv : ¬ cf ye xh < 0
    ·have HLV := Aside0.mk (show ltOf cf ye xh = false from decide_eq_false hlv)
     have hdl : decide (cf ye xh < 0) = false := decide_eq_false hlv
     go_wp2_with fail
     refine wp_region_quiet_below (by assumption) (by kernel_rfl) ?_
     repeat (quiet_step ((go_at_fn g; refine Calls.regrown_of (hcg _ _))))
     refine wpQuiet_nil ?_
     intro _ hw'
     obtain ⟨⟨dq, osq⟩, hw''⟩ := hw'
     subst hw''
     go_wp2_with fail
     go_roundg (r - (h + 1))
     case measure => omega
     case rel =>
      refine ⟨h + 1, r, dq, os ++ osq, by go_num, rfl, by omega, by omega, hr, Nat.le_refl _, by rw [← HWQ.out, sWB_regrown], ⟨Or.inr ?_, HI.out.2⟩⟩
      rw [show nn - (h + 1) = e by have := HEE.out; omega, Nat.add_sub_cancel, HXY.out.1, HXY.out.2]
      exact HLV.out
    ·have hlv2 : cf ye xh < 0 := Classical.not_not.1 hlv
     have HLV := Aside0.mk (show ltOf cf ye xh = true from decide_eq_true hlv2)
     have hdl : decide (cf ye xh < 0) = true := decide_eq_true hlv2
     go_wp2_with fail
     refine wp_region_quiet_below (by assumption) (by kernel_rfl) ?_
     repeat (quiet_step ((go_at_fn g; refine Calls.regrown_of (hcg _ _))))
     refine wpQuiet_nil ?_
     intro _ hw'
     obtain ⟨⟨dq, osq⟩, hw''⟩ := hw'
     subst hw''
     go_wp2_with fail
     go_roundg (h - s)
     case measure => omega
     case rel =>
      refine ⟨s, h, dq, os ++ osq, rfl, rfl, hs, hsh, by omega, Nat.le_refl _, by rw [← HWQ.out, sWB_regrown], ⟨HI.out.1, Or.inr ?_⟩⟩
      rw [← HEE.out, HXY.out.1, HXY.out.2]
      exact HLV.out
   ·have hltz : ¬ (s : Int) < (r : Int) := by omega
    obtain rfl : s = r := by omega
    have HCUT : Aside0 (s - a ≤ X.length ∧ nn - s - m ≤ Y.length ∧ m + s ≤ nn ∧ a ≤ s ∧ s ≤ m ∧ nn - s ≤ b ∧ (∀ x ∈ X.drop (s - a), ∀ y ∈ Y.take (nn - s - m), ltOf cf y x = true) ∧ (∀ x ∈ X.take (s - a), ∀ y ∈ Y.drop (nn - s - m), ltOf cf y x = false)) := by
     obtain ⟨qa, qx, qy, _⟩ := HM.out
     have h0 := HS0.out
     have hsX : s - a ≤ X.length := by omega
     have htY : nn - s - m ≤ Y.length := by omega
     have hms : m + s ≤ nn := by omega
     refine ⟨⟨hsX, htY, hms, by omega, by omega, by omega, cut3 HSW.out HXs.out HYs.out (s - a) (nn - s - m) hsX htY ?_ ?_⟩⟩
     ·rcases HI.out.1 with e | e
      ·rcases h0 with ⟨h1, h2, h3⟩ | ⟨h1, h2, h3⟩
       ·exact Or.inr (Or.inl (by omega))
       ·exact Or.inl (by omega)
      ·by_cases z1 : s - a = 0
       ·exact Or.inl z1
       ·by_cases z2 : nn - s - m = Y.length
        ·exact Or.inr (Or.inl z2)
        ·refine Or.inr (Or.inr ⟨by omega, by omega, ?_⟩)
         rw [← HDX.out (s - a - 1) (by omega), ← HDY.out (nn - s - m) (by omega), show a + (s - a - 1) = s - 1 by omega, show m + (nn - s - m) = nn - s by omega]
         exact e
     ·rcases HI.out.2 with e | e
      ·rcases h0 with ⟨h1, h2, h3⟩ | ⟨h1, h2, h3⟩
       ·exact Or.inr (Or.inl (by omega))
       ·exact Or.inl (by omega)
      ·by_cases z1 : s - a = X.length
       ·exact Or.inl z1
       ·by_cases z2 : nn - s - m = 0
        ·exact Or.inr (Or.inl z2)
        ·refine Or.inr (Or.inr ⟨by omega, by omega, ?_⟩)
         rw [← HDX.out (s - a) (by omega), ← HDY.out (nn - s - m - 1) (by omega), show a + (s - a) = s by omega, show m + (nn - s - m - 1) = nn - 1 - s by omega]
         exact e
    have hst0 : wq = sWB enc k w blk off q d os := HWQ.out.symm
    have HST2 := Aside0.mk hst0
    obtain ⟨hsX, htY, hms, has, hsm, hnsb, _⟩ := HCUT.out
    obtain ⟨e, hez⟩ : ∃ e : Nat, (nn : Int) - (s : Int) = (e : Int) := ⟨nn - s, by omega⟩
    have hee : e = nn - s := by omega
    have hme : m ≤ e := by omega
    have heb : e ≤ b := by omega
    have HEE := Aside0.mk hee
    clear hst0 hwq HWQ HI HS0 HRNG hee hsX htY hms hnsb
    go_upto_region 39 with fail
    exact sym_t39 L enc k aE zE HK.out H1.out cf HSW.out g cb blk off cap N HIH A X Y B d w a m b s e mid nn HM HXs HYs HH HC hblk hsz hbd hmb hmid2 hmid1 hnn has hsm hme heb HEE HCUT q os HD wq HST2 _ _ _ _ _ _ _ _ _ _ _ _ _ _ _ _ _ _ _ _ _ _ _ _ _ _ _ _ _ _ _ _ _ _ _ _ _ _ _ _ _ _ _ _ _ _ _ _ _ _ _ _ _ _ _ _ _ _ _ _ _ _ _ _ _ _ _ _ _ _ _ _ _ _ _ _ _ _ _ _ _ _ _ _ _ _ _ _ _ _ _ _ _ _ _ _ _ _ _ _ _ _ _ _ _ _ _ _ _ _ _ _ _ _ _ _ _ _ _ _ _ _ _ _ _ _ _ _ _ _ _ _ _ _ _ _ _ _ _ _ _ _ _ _ _ _ _ _ _ _ _ _ _ _ _ _ _ _ _ _ _ _ _ _ _ _ _ _ _ _ _ _ _ _ _ _ _ _ _ _ _ _ _ _ _ _ _ _ _ _ _ _ _ _ _ _ _ _ _ _ _ _ _ _ _ _ _ _ _ _ _ _ _ _ _ (by kernel_rfl) (by kernel_rfl) (by kernel_rfl) _ _ _ rfl (by assumption) (by assumption)
theorem symMerge_call {P : Program} (L : LS P) {α : Type} [Inhabited α] (enc : α → List Value) (k : Nat) (aE : ∀ w, (isAgg 43).run P w = .ok true w) (zE : ∀ w, (Go.sizeOf 43).run P w = .ok k w) (hk : ∀ x, (enc x).length = k) (h1 : ∀ x, ∀ v ∈ enc x, v.oneCell' = true)
  (cf : α → α → Int) (hS : SWO (ltOf cf)) (g : Nat) (cb : Array Value) (eg : ∀ args w, (callFunc g args).run P w = .ok (.enter g args) w) (blk off cap : Nat) : ∀ N, SymT P enc k cf g cb blk off cap N := by
 intro N
 induction N with
 | zero =>
  intro A X Y B d w a m b hN hX0 hY0
  have := List.length_pos_iff.2 hX0
  omega
 | succ N ih =>
  intro A X Y B d w a m b hN hX0 hY0 hcmp hH hblk hd hX hY ha hm hb hsz
  have p1 := List.length_pos_iff.2 hX0
  have p2 := List.length_pos_iff.2 hY0
  by_cases e1 : X.length = 1
  ·obtain ⟨x, rfl⟩ := List.length_eq_one_iff.1 e1
   exact sym1_call L enc k aE zE hk h1 cf hS g cb eg blk off cap A x Y B d w hcmp hH hblk (by rw [hd]; rfl) hY a m b ha (by rw [hm, e1]) (by rw [hb, e1]) hsz
  ·by_cases e2 : Y.length = 1
   ·obtain ⟨y, rfl⟩ := List.length_eq_one_iff.1 e2
    exact sym2_call L enc k aE zE hk h1 cf hS g cb eg blk off cap A X y B d w hcmp hH hblk (by rw [hd]; rfl) hX e1 a m b ha hm (by rw [hb, e2]) hsz
   ·exact sym3_call L enc k aE zE hk h1 cf hS g cb eg blk off cap N ih A X Y B d w a m b hN (by omega) (by omega) hcmp hH hblk hd hX hY ha hm hb hsz
end Go.Proofs.Ytodbmagneaiocaa.PA
namespace Go.Proofs.Ytodbmagneaiocaa.PA
open Go.RowKit Go.Proofs.YtodbmagneaiocaaW.PrintWords Go.Proofs.YtodbmagneaiocaaW.PrintLast Go.Proofs.YtodbmagneaiocaaW.PrintMore
attribute [local go_sem] max2_int min2_int max_two min_two max_three min_three max_four min_four
set_option linter.unusedVariables false
set_option linter.unusedSimpArgs false
open Go Go.Shelf Go.Lib Go.Sort
inductive Blk {α : Type} (lt : α → α → Bool) (bs : Nat) : List α → Prop
 | last (Z : List α) : Z.length ≤ bs → SortedL lt Z → Blk lt bs Z
 | more (Z L : List α) : Z.length = bs → SortedL lt Z → Blk lt bs L → Blk lt bs (Z ++ L)
inductive Full {α : Type} (lt : α → α → Bool) (bs : Nat) : List α → Prop
 | none : Full lt bs []
 | more (P Z : List α) : Full lt bs P → Z.length = bs → SortedL lt Z → Full lt bs (P ++ Z)
theorem Full.blk {α : Type} {lt : α → α → Bool} {bs : Nat} {P : List α} (h : Full lt bs P) : ∀ R, Blk lt bs R → Blk lt bs (P ++ R) := by
 induction h with
 | none => intro R hR; exact hR
 | more P Z _ h1 h2 ih =>
  intro R hR
  rw [List.append_assoc]
  exact ih _ (Blk.more Z R h1 h2 hR)
theorem Blk.small {α : Type} {lt : α → α → Bool} {bs : Nat} {R : List α} (h : Blk lt bs R) : R.length ≤ bs → SortedL lt R := by
 induction h with
 | last Z h1 h2 => intro _; exact h2
 | more Z L h1 h2 _ _ =>
  intro h
  rw [List.length_append] at h
  rw [List.length_eq_zero_iff.1 (show L.length = 0 by omega), List.append_nil]
  exact h2
theorem Blk.one {α : Type} {lt : α → α → Bool} {bs : Nat} {R : List α} (h : Blk lt bs R) (h1 : bs < R.length) : ∃ Z L, R = Z ++ L ∧ Z.length = bs ∧ SortedL lt Z ∧ Blk lt bs L := by
 cases h with
 | last Z h2 _ => exact absurd h2 (by omega)
 | more Z L h2 h3 h4 => exact ⟨Z, L, rfl, h2, h3, h4⟩
theorem Blk.two {α : Type} {lt : α → α → Bool} {bs : Nat} {R : List α} (hb : 0 < bs) (h : Blk lt bs R) (h1 : 2 * bs ≤ R.length) : ∃ Z1 Z2 L, R = Z1 ++ (Z2 ++ L) ∧ Z1.length = bs ∧ Z2.length = bs ∧ SortedL lt Z1 ∧ SortedL lt Z2 ∧ Blk lt bs L := by
 obtain ⟨Z, L, rfl, h2, h3, h4⟩ := h.one (by omega)
 rw [List.length_append] at h1
 by_cases e : L.length = bs
 ·exact ⟨Z, L, [], by simp, h2, e, h3, h4.small (by omega), Blk.last [] (by simp) List.Pairwise.nil⟩
 ·obtain ⟨Z2, L2, rfl, h5, h6, h7⟩ := h4.one (by omega)
  exact ⟨Z, Z2, L2, rfl, h2, h5, h3, h6, h7⟩
set_option maxHeartbeats 8000000 in
set_option maxRecDepth 1000000 in
theorem stable_call {P : Program} (L : LS P) {α : Type} [Inhabited α] (enc : α → List Value) (k : Nat) (aE : ∀ w, (isAgg 43).run P w = .ok true w) (zE : ∀ w, (Go.sizeOf 43).run P w = .ok k w) (hk : ∀ x, (enc x).length = k) (h1 : ∀ x, ∀ v ∈ enc x, v.oneCell' = true)
  (cf : α → α → Int) (hS : SWO (ltOf cf)) (g : Nat) (cb : Array Value) (eg : ∀ args w, (callFunc g args).run P w = .ok (.enter g args) w) (blk off cap : Nat) (d : Array α) (w : World) (hcmp : CmpB P g cb enc k cf blk off d.size w) (hH : HoldsK enc k w blk off d) (hblk : blk < w.heap.size) (n : Nat) (hn : n = d.size) (hsz : d.size < 1000000000000) :
  Calls P 44 #[.slice (some ⟨blk, off, none⟩) d.size cap, .int .i64 n, .func (.func g) #[] cb] w fun e w' =>
   e = .returned (.tuple #[]) ∧ ∃ q os dk, StP (ltOf cf) d.toList dk.toList ∧ SortedL (ltOf cf) dk.toList ∧ dk.size = d.size ∧ w' = sWB enc k w blk off q dk os := by
 have mixed := L.mixed
 have t3 := L.t3; have a3 := L.a3; have z3 := L.z3; have v3 := L.v3; have t4 := L.t4; have a4 := L.a4; have z4 := L.z4; have v4 := L.v4; have t68 := L.t68; have a68 := L.a68; have z68 := L.z68; have v68 := L.v68; have t22 := L.t22; have a22 := L.a22; have z22 := L.z22; have v22 := L.v22
 have F := L.f44
 have eins := L.e46
 have esy := L.e47
 have HST : Hid (w = sWB enc k w blk off w.drawn d #[]) := (sWB_start enc k w blk off d hH).symm
 have HN := Aside0.mk hn
 have hin : Aside0 (∀ (q : Nat) (os : Array Obj) (dk : Array α) (A X B : List α) (a b : Nat), dk.size = d.size → dk.toList = A ++ (X ++ B) → a = A.length → b = A.length + X.length → Calls P 46 #[.slice (some ⟨blk, off, none⟩) d.size cap, .int .i64 a, .int .i64 b, .func (.func g) #[] cb] (sWB enc k w blk off q dk os) fun e w' => e = .returned (.tuple #[]) ∧ ∃ q' os' dk', (∃ Z, dk'.toList = A ++ (Z ++ B) ∧ StP (ltOf cf) X Z ∧ SortedL (ltOf cf) Z) ∧ dk'.size = d.size ∧ w' = sWB enc k w blk off q' dk' os') := ⟨fun q os dk A X B a b x1 x2 x3 x4 => by
  have h := ins_call L enc k aE zE hk h1 cf hS g cb eg blk off cap A X B dk (sWB enc k w blk off q dk os) (by rw [x1]; exact CmpB.on hcmp hblk q dk os x1) (sWB_holds enc k w blk off q d dk os hH hblk x1) (Nat.lt_of_lt_of_le hblk (sWB_size enc k w blk off q dk os)) x2 a b x3 x4 (by omega)
  rw [x1] at h
  refine h.mono ?_
  rintro e w' ⟨he, q', os', dk', hz, hs, rfl⟩
  exact ⟨he, q', _, dk', hz, hs, sWB_on enc k w blk off q q' dk dk' os os' hblk (hs.trans x1.symm)⟩⟩
 have hme : Aside0 (∀ (q : Nat) (os : Array Obj) (dk : Array α) (A X Y B : List α) (a m b : Nat), dk.size = d.size → dk.toList = A ++ (X ++ (Y ++ B)) → X ≠ [] → Y ≠ [] → SortedL (ltOf cf) X → SortedL (ltOf cf) Y → a = A.length → m = A.length + X.length → b = A.length + X.length + Y.length → Calls P 47 #[.slice (some ⟨blk, off, none⟩) d.size cap, .int .i64 a, .int .i64 m, .int .i64 b, .func (.func g) #[] cb] (sWB enc k w blk off q dk os) fun e w' => e = .returned (.tuple #[]) ∧ ∃ q' os' dk', (∃ Z, dk'.toList = A ++ (Z ++ B) ∧ StP (ltOf cf) (X ++ Y) Z ∧ SortedL (ltOf cf) Z) ∧ dk'.size = d.size ∧ w' = sWB enc k w blk off q' dk' os') := ⟨fun q os dk A X Y B a m b x1 x2 x3 x4 x5 x6 x7 x8 x9 => by
  have h := symMerge_call L enc k aE zE hk h1 cf hS g cb eg blk off cap (X.length + Y.length) A X Y B dk (sWB enc k w blk off q dk os) a m b (Nat.le_refl _) x3 x4 (by rw [x1]; exact CmpB.on hcmp hblk q dk os x1) (sWB_holds enc k w blk off q d dk os hH hblk x1) (Nat.lt_of_lt_of_le hblk (sWB_size enc k w blk off q dk os)) x2 x5 x6 x7 x8 x9 (by omega)
  rw [x1] at h
  refine h.mono ?_
  rintro e w' ⟨he, q', os', dk', hz, hs, rfl⟩
  exact ⟨he, q', _, dk', hz, hs, sWB_on enc k w blk off q q' dk dk' os os' hblk (hs.trans x1.symm)⟩⟩
 have hnz : n < 1000000000000 := by omega
 have HSZ : Aside0 (d.toList.length = n) := ⟨by rw [Array.length_toList, hn]⟩
 clear hcmp hH hk h1 hn hS eg
 go_enter F, Try.ntmps44
 go_wp2
 go_loopg [7, 8] n (fun gg v7 v8 wr => ∃ (a b q : Nat) (os : Array Obj) (dk : Array α), v7 = .int .i64 a ∧ v8 = .int .i64 b ∧ a < b ∧ a ≤ n ∧ n - a ≤ gg ∧ wr = sWB enc k w blk off q dk os ∧ Hid (b = a + 20 ∧ dk.size = d.size ∧ ∃ Pp, dk.toList = Pp ++ d.toList.drop a ∧ Pp.length = a ∧ StP (ltOf cf) (d.toList.take a) Pp ∧ Full (ltOf cf) 20 Pp))
 case atStart => exact ⟨0, 20, _, #[], d, rfl, rfl, by omega, by omega, by omega, HST.out, ⟨rfl, rfl, [], by simp, rfl, by simp; exact StP.refl _, Full.none⟩⟩
 case round =>
  obtain ⟨a, b, q, os, dk, rfl, rfl, hab, han, hg, rfl, HP⟩ := hrel
  by_cases hbn : b ≤ n
  ·have hz : (b : Int) ≤ (n : Int) := by omega
   obtain ⟨q1, q2, Pp0, q3, q4, q5, q6⟩ := HP.out
   have hs := HSZ.out
   have hc := hin.out q os dk Pp0 ((d.toList.drop a).take 20) ((d.toList.drop a).drop 20) a b q2 (by rw [q3, List.take_append_drop]) q4.symm (by rw [List.length_take, List.length_drop]; omega)
   have HQ5 := Aside0.mk (And.intro q1 (And.intro q2 (And.intro q3 (And.intro q4 (And.intro q5 q6)))))
   clear q1 q2 q3 q4 q5 q6 hs
   go_wp2_with (go_at_call 46; refine hc.mono ?_; rintro e9 w9 ⟨rfl, q9, os9, d9, hZ9, hs9, rfl⟩)
   go_roundg (n - b)
   case measure => omega
   case rel =>
    obtain ⟨q1, q2, q3, q4, q5, q6⟩ := HQ5.out
    obtain ⟨Z, z1, z2, z3⟩ := hZ9
    have hs := HSZ.out
    have hlz : Z.length = 20 := by rw [z2.len, List.length_take, List.length_drop]; omega
    refine ⟨b, b + 20, q9, os9, d9, rfl, by go_num, by omega, hbn, Nat.le_refl _, rfl, ⟨rfl, hs9, Pp0 ++ Z, ?_, by rw [List.length_append]; omega, ?_, Full.more Pp0 Z q6 hlz z3⟩⟩
    ·rw [z1, List.drop_drop, ← q1, List.append_assoc]
    ·rw [q1, List.take_add]
     exact q5.app z2
  ·have hz : ¬ (b : Int) ≤ (n : Int) := by omega
   obtain ⟨q1, q2, Pp0, q3, q4, q5, q6⟩ := HP.out
   have hs := HSZ.out
   have hc := hin.out q os dk Pp0 (d.toList.drop a) [] a n q2 (by rw [q3, List.append_nil]) q4.symm (by rw [List.length_drop]; omega)
   have HQ5 := Aside0.mk (And.intro q1 (And.intro q2 (And.intro q3 (And.intro q4 (And.intro q5 q6)))))
   clear q1 q2 q3 q4 q5 q6 hs
   go_wp2_with (go_at_call 46; refine hc.mono ?_; rintro e9 w9 ⟨rfl, q9, os9, d9, hZ9, hs9, rfl⟩)
   have hst : Hid (d9.size = d.size ∧ StP (ltOf cf) d.toList d9.toList ∧ Blk (ltOf cf) 20 d9.toList) := by
    obtain ⟨q1, q2, q3, q4, q5, q6⟩ := HQ5.out
    obtain ⟨Z, z1, z2, z3⟩ := hZ9
    have hs := HSZ.out
    refine ⟨hs9, ?_, ?_⟩
    ·rw [z1, List.append_nil]
     have := q5.app z2
     rwa [List.take_append_drop] at this
    ·rw [z1, List.append_nil]
     exact q6.blk Z (Blk.last Z (by rw [z2.len, List.length_drop]; omega) z3)
   clear hZ9 HP hin hc
   go_loopg [6, 7, 8, 9] n (fun gg v6 v7 v8 v9 wr => ∃ (bs q : Nat) (os : Array Obj) (dk : Array α), v6 = .int .i64 bs ∧ 0 < bs ∧ bs < 10000000000000 ∧ n - bs ≤ gg ∧ wr = sWB enc k w blk off q dk os ∧ Hid (dk.size = d.size ∧ StP (ltOf cf) d.toList dk.toList ∧ Blk (ltOf cf) bs dk.toList))
   case atStart => exact ⟨20, q9, os9, d9, rfl, by omega, by omega, by omega, rfl, hst⟩
   case round =>
    obtain ⟨bs, q2, os2, dk2, rfl, hbs0, hbs1, hg2, rfl, HB⟩ := hrel
    by_cases hbn2 : bs < n
    ·have hz2 : (bs : Int) < (n : Int) := by omega
     go_wp2_with fail
     go_loopg [7, 8] n (fun gg v7 v8 wr => ∃ (a b q : Nat) (os : Array Obj) (dk : Array α), v7 = .int .i64 a ∧ v8 = .int .i64 b ∧ a + bs < b ∧ a ≤ n ∧ n - a ≤ gg ∧ wr = sWB enc k w blk off q dk os ∧ Hid (b = a + 2 * bs ∧ dk.size = d.size ∧ StP (ltOf cf) d.toList dk.toList ∧ ∃ Pp Rr, dk.toList = Pp ++ Rr ∧ Pp.length = a ∧ Full (ltOf cf) (2 * bs) Pp ∧ Blk (ltOf cf) bs Rr))
     case atStart => exact ⟨0, 2 * bs, q2, os2, dk2, rfl, by go_num, by omega, by omega, by omega, rfl, ⟨by omega, HB.out.1, HB.out.2.1, [], _, rfl, rfl, Full.none, HB.out.2.2⟩⟩
     case round =>
      obtain ⟨a, b, q3, os3, dk, rfl, rfl, hab3, han3, hg3, rfl, HQ⟩ := hrel
      by_cases hbn3 : b ≤ n
      ·have hz3 : (b : Int) ≤ (n : Int) := by omega
       have hsp : Aside0 (∃ Pp Z1 Z2 Rr, dk.toList = Pp ++ (Z1 ++ (Z2 ++ Rr)) ∧ Pp.length = a ∧ Full (ltOf cf) (2 * bs) Pp ∧ Z1.length = bs ∧ Z2.length = bs ∧ SortedL (ltOf cf) Z1 ∧ SortedL (ltOf cf) Z2 ∧ Blk (ltOf cf) bs Rr) := by
        obtain ⟨u1, u2, u3, Pp, Rr, u4, u5, u6, u7⟩ := HQ.out
        have hs := HSZ.out
        have hl : Pp.length + Rr.length = n := by rw [← List.length_append, ← u4, Array.length_toList, u2, ← HN.out]
        obtain ⟨Z1, Z2, L2, rfl, y1, y2, y3, y4, y5⟩ := u7.two hbs0 (by omega)
        exact ⟨Pp, Z1, Z2, L2, u4, u5, u6, y1, y2, y3, y4, y5⟩
       obtain ⟨Pp, Z1, Z2, Rr, y0, y1, y2, y3, y4, y5, y6, y7⟩ := hsp.out
       obtain ⟨mm, hmm⟩ : ∃ mm : Nat, (a : Int) + (bs : Int) = (mm : Int) := ⟨a + bs, by omega⟩
       have hc := hme.out q3 os3 dk Pp Z1 Z2 Rr a mm b HQ.out.2.1 y0 (fun h => by rw [h] at y3; simp at y3; omega) (fun h => by rw [h] at y4; simp at y4; omega) y5 y6 y1.symm (by omega) (by have := HQ.out.1; omega)
       have HY := Aside0.mk (And.intro y0 (And.intro y1 (And.intro y2 (And.intro y3 (And.intro y4 y7)))))
       clear y0 y1 y2 y3 y4 y5 y6 y7 hsp
       go_wp2_with (go_at_call 47; refine hc.mono ?_; rintro e8 w8 ⟨rfl, q8, os8, d8, hZ8, hs8, rfl⟩)
       go_roundg (n - b)
       case measure => omega
       case rel =>
        obtain ⟨u1, u2, u3, _⟩ := HQ.out
        obtain ⟨y0, y1, y2, y3, y4, y7⟩ := HY.out
        obtain ⟨Z, z1, z2, z3⟩ := hZ8
        have hlz : Z.length = 2 * bs := by rw [z2.len, List.length_append]; omega
        refine ⟨b, b + 2 * bs, q8, os8, d8, rfl, by go_num, by omega, hbn3, Nat.le_refl _, rfl, ⟨rfl, hs8, ?_, Pp ++ Z, Rr, by rw [z1, List.append_assoc], by rw [List.length_append]; omega, Full.more Pp Z y2 hlz z3, y7⟩⟩
        refine u3.trans ?_
        rw [y0, z1, ← List.append_assoc Z1]
        exact (StP.refl _).app (z2.app (StP.refl _))
      ·have hz3 : ¬ (b : Int) ≤ (n : Int) := by omega
       obtain ⟨mm, hmm⟩ : ∃ mm : Nat, (a : Int) + (bs : Int) = (mm : Int) := ⟨a + bs, by omega⟩
       have hmm2 : mm = a + bs := by omega
       by_cases hmn : mm < n
       ·have hz4 : (mm : Int) < (n : Int) := by omega
        have hsp : Aside0 (∃ Pp Z1 Z2, dk.toList = Pp ++ (Z1 ++ (Z2 ++ [])) ∧ Pp.length = a ∧ Full (ltOf cf) (2 * bs) Pp ∧ Z1.length = bs ∧ 0 < Z2.length ∧ a + bs + Z2.length = n ∧ SortedL (ltOf cf) Z1 ∧ SortedL (ltOf cf) Z2) := by
         obtain ⟨u1, u2, u3, Pp, Rr, u4, u5, u6, u7⟩ := HQ.out
         have hl : Pp.length + Rr.length = n := by rw [← List.length_append, ← u4, Array.length_toList, u2, ← HN.out]
         obtain ⟨Z1, Z2, rfl, y1, y2, y3⟩ := u7.one (by omega)
         rw [List.length_append] at hl
         exact ⟨Pp, Z1, Z2, by rw [List.append_nil]; exact u4, u5, u6, y1, by omega, by omega, y2, y3.small (by omega)⟩
        obtain ⟨Pp, Z1, Z2, y0, y1, y2, y3, y4, y5, y6, y7⟩ := hsp.out
        have hc := hme.out q3 os3 dk Pp Z1 Z2 [] a mm n HQ.out.2.1 y0 (fun h => by rw [h] at y3; simp at y3; omega) (fun h => by rw [h] at y4; simp at y4) y6 y7 y1.symm (by omega) (by omega)
        have HY := Aside0.mk (And.intro y0 (And.intro y1 (And.intro y2 (And.intro y3 (And.intro y4 y5)))))
        have HMM := Aside0.mk hmm2
        clear y0 y1 y2 y3 y4 y5 y6 y7 hsp hmm2
        go_wp2_with (go_at_call 47; refine hc.mono ?_; rintro e8 w8 ⟨rfl, q8, os8, d8, hZ8, hs8, rfl⟩)
        go_roundg (n - 2 * bs)
        case measure => omega
        case rel =>
         obtain ⟨u1, u2, u3, _⟩ := HQ.out
         obtain ⟨y0, y1, y2, y3, y4, y5⟩ := HY.out
         obtain ⟨Z, z1, z2, z3⟩ := hZ8
         refine ⟨2 * bs, q8, os8, d8, by first | go_num | (congr 1; omega), by omega, by omega, Nat.le_refl _, rfl, ⟨hs8, ?_, ?_⟩⟩
         ·refine u3.trans ?_
          rw [y0, z1, ← List.append_assoc Z1]
          exact (StP.refl _).app (z2.app (StP.refl _))
         ·rw [z1, List.append_nil]
          exact y2.blk Z (Blk.last Z (by rw [z2.len, List.length_append]; omega) z3)
       ·have hz4 : ¬ (mm : Int) < (n : Int) := by omega
        have HMM := Aside0.mk hmm2
        clear hmm2
        go_wp2_with fail
        go_roundg (n - 2 * bs)
        case measure => omega
        case rel =>
         obtain ⟨u1, u2, u3, Pp, Rr, u4, u5, u6, u7⟩ := HQ.out
         have hl : Pp.length + Rr.length = n := by rw [← List.length_append, ← u4, Array.length_toList, u2, ← HN.out]
         have hm := HMM.out
         refine ⟨2 * bs, q3, os3, dk, by first | go_num | (congr 1; omega), by omega, by omega, Nat.le_refl _, rfl, ⟨u2, u3, ?_⟩⟩
         rw [u4]
         exact u6.blk Rr (Blk.last Rr (by omega) (u7.small (by omega)))
    ·have hz2 : ¬ (bs : Int) < (n : Int) := by omega
     go_wp2_with fail
     go_end0
     have hs := HSZ.out
     exact ⟨rfl, q2, os2, dk2, HB.out.2.1, HB.out.2.2.small (by rw [Array.length_toList, HB.out.1, ← HN.out]; omega), HB.out.1, rfl⟩
end Go.Proofs.Ytodbmagneaiocaa.PA
namespace Go.Proofs.Ytodbmagneaiocaa.PA
open Go.RowKit Go.Proofs.YtodbmagneaiocaaW.PrintWords Go.Proofs.YtodbmagneaiocaaW.PrintLast Go.Proofs.YtodbmagneaiocaaW.PrintMore
attribute [local go_sem] max2_int min2_int max_two min_two max_three min_three max_four min_four
set_option linter.unusedVariables false
set_option linter.unusedSimpArgs false
theorem split_same20 (a b : ByteArray) (h : splitL a = splitL b) : a = b := by
 rw [← joinB_split a, ← joinB_split b, h]
end Go.Proofs.Ytodbmagneaiocaa.PA
namespace Go.Proofs.Ytodbmagneaiocaa.PA
open Go.RowKit Go.Proofs.YtodbmagneaiocaaW.PrintWords Go.Proofs.YtodbmagneaiocaaW.PrintLast Go.Proofs.YtodbmagneaiocaaW.PrintMore
attribute [local go_sem] max2_int min2_int max_two min_two max_three min_three max_four min_four
set_option linter.unusedVariables false
set_option linter.unusedSimpArgs false
theorem made_none {α : Type} (d : Kd α) (e : Nat) (W : World) {b : Nat} (hb : b ≤ W.heap.size) : d.R e (W.alloc (.cells #[] e)) b (fun _ => True) (.slice (some ⟨W.heap.size, 0, none⟩) 0 0) [] :=
 ⟨fun _ _ => trivial, [], ⟨by simp, Or.inr ⟨W.heap.size, 0, #[], rfl, hb, blk_new W _, Nat.le_refl _, by simp [maxLen], by simp, by simp⟩⟩, Reps.none _ _⟩
set_option maxHeartbeats 2000000 in
set_option maxRecDepth 100000 in
theorem clone_call (A0 : Option Addr) (c0 : Nat) (l : List S43) (w : World) (hr : Kd.C k43 w A0 l.length l) (hl : l.length < 1000000000) :
  Calls Try.prog 39 #[.slice A0 l.length c0] w fun e w' => ∃ v, e = .returned v ∧ Kd.R k43 43 w' w.heap.size (fun _ => True) v l ∧ Below w.heap.size w w' := by
 have hu := Try.underlying43
 have HR := Aside0.mk hr
 have HL := Aside0.mk hl
 have HB := Aside0.mk (Below.refl w.heap.size w)
 cases A0 with
 | none =>
  have hnil : l = [] := by
   cases l with
   | nil => rfl
   | cons x t =>
    obtain ⟨ad, h, _⟩ := hr.2.2 (by simp)
    exact absurd h (by simp)
  subst hnil
  clear hr hl
  have hq : ∀ W, (binOp .eql 22 (.slice none 0 c0) (.slice none 0 0)).run Try.prog W = .ok (.bool true) W := fun W => (run_eql_nil_slice W 22 43 none 0 c0 0 0 Try.underlying22)
  go_enter Try.func39, Try.ntmps39
  go_wp2
  go_ret
  exact ⟨_, rfl, Kd.R_nil _ _ _ _ _, HB.out⟩
 | some ad =>
  clear hr hl
  have hq : ∀ W, (binOp .eql 22 (.slice (some ad) l.length c0) (.slice none 0 0)).run Try.prog W = .ok (.bool false) W := fun W => (run_eql_nil_slice W 22 43 (some ad) l.length c0 0 0 Try.underlying22)
  go_enter Try.func39, Try.ntmps39
  go_wp2_with (first | ((with_reducible refine gate_builtin (b := .append) (xs := #[.tmp 5, .tmp 6]) rfl ?_); at_builtin; refine Kd.R_append_rows k43 (Rr := k43.K (w.alloc (.cells #[] 43))) (w0 := w) w.heap.size rfl (.tmp 5) (.tmp 6) 22 43 (.agg #[(.string ⟨#[]⟩), (.int .i64 0), (.int .i64 0), (.int .i64 0), (.int .i64 0), (.int .i64 0), (.int .i64 0), (.int .i64 0), (.string ⟨#[]⟩), (.string ⟨#[]⟩), (.int .i64 0)]) 112 rfl Try.underlying22 info43 rfl (by decide) (by omega) (.slice (some ⟨w.heap.size, 0, none⟩) 0 0) ([] : List S43) l _ _ _ (fun _ => True) (fun _ => False) rfl rfl ?aO ?aR (fun x cs h => by rw [k43_open h]; exact k43_mkM _ _ _ x) (fun _ h => h.elim) ?aF ?aB ?aS ?aL ?_; (case aR => exact (Kd.C_below HR.out (by repeat (first | (with_reducible first | exact HB.out | apply below_alloc | apply pw_below_drewN | apply below_drew1) | exact HB.out)))); (case aB => exact (by repeat (first | (with_reducible first | exact HB.out | apply below_alloc | apply pw_below_drewN | apply below_drew1) | exact HB.out))); (case aF => exact (fun _ _ => trivial)); (case aO => exact made_none k43 43 w (Nat.le_refl _)); (case aS => exact below_size (by repeat (first | (with_reducible first | exact HB.out | apply below_alloc | apply pw_below_drewN | apply below_drew1) | exact HB.out))); (case aL => have := HL.out; simp; omega); intro v5 w5 ho hb hg hat; have n0_ := Aside0.mk hb; have n1_ := Aside0.mk ho; clear HB; have HB := n0_; have HO := n1_; clear n0_ n1_ ho hb hg hat))
  go_ret
  exact ⟨_, rfl, HO.out, HB.out⟩
end Go.Proofs.Ytodbmagneaiocaa.PA
namespace Go.Proofs.Ytodbmagneaiocaa.PA
open Go.RowKit Go.Proofs.YtodbmagneaiocaaW.PrintWords Go.Proofs.YtodbmagneaiocaaW.PrintLast Go.Proofs.YtodbmagneaiocaaW.PrintMore
attribute [local go_sem] max2_int min2_int max_two min_two max_three min_three max_four min_four
set_option linter.unusedVariables false
set_option linter.unusedSimpArgs false
open Go Go.Shelf Go.Lib Go.Sort
theorem ltS_irr (x : S43) : ltS x x = false := decide_eq_false (cmp_irr _)
theorem ltS_trans (x y z : S43) (h : ltS x y = true) (h2 : ltS y z = true) : ltS x z = true := decide_eq_true (cmp_trans _ _ _ (of_decide_eq_true h) (of_decide_eq_true h2))
theorem ltS_ntrans (x y z : S43) (h : ltS x y = false) (h2 : ltS y z = false) : ltS x z = false := by
 refine decide_eq_false (fun hn => ?_)
 have h := of_decide_eq_false h
 have h2 := of_decide_eq_false h2
 by_cases e : cmpL (splitL y.f0) (splitL x.f0) < 0
 ·exact h2 (cmp_trans _ _ _ e hn)
 ·rw [cmp_tri _ _ h e] at hn
  exact h2 hn
theorem swoS : SWO ltS := ⟨ltS_irr, ltS_trans, ltS_ntrans⟩
theorem swo43 : SWO (ltOf cf43) := ⟨fun x => by rw [ltOf_cf43]; exact ltS_irr _, fun x y z h h2 => by rw [ltOf_cf43] at *; exact ltS_trans _ _ _ h h2, fun x y z h h2 => by rw [ltOf_cf43] at *; exact ltS_ntrans _ _ _ h h2⟩
theorem sorted_map43 (m : List E43) (h : SortedL (ltOf cf43) m) : SortedL ltS (m.map (·.1)) := by
 unfold SortedL at *
 rw [List.pairwise_map]
 exact h.imp (fun {a b} h => by rwa [ltOf_cf43] at h)
theorem stp_map43 (m r : List E43) (h : StP (ltOf cf43) m r) : StP ltS (m.map (·.1)) (r.map (·.1)) := by
 refine ⟨h.1.map _, fun c => ?_⟩
 rw [List.filter_map, List.filter_map]
 by_cases hc : sml c.f0
 ·have := h.2 ⟨c, hc⟩
  have e : (eqvB ltS c ∘ fun x : E43 => x.1) = eqvB (ltOf cf43) ⟨c, hc⟩ := by
   funext y
   unfold eqvB
   rw [ltOf_cf43, ltOf_cf43]
   rfl
  rw [e, this]
 ·have e : ∀ l : List E43, l.filter (eqvB ltS c ∘ fun x : E43 => x.1) = [] := fun l => by
   rw [List.filter_eq_nil_iff]
   intro y _ hy
   simp only [Function.comp, eqvB, Bool.and_eq_true, Bool.not_eq_true'] at hy
   have := cmp_tri _ _ (of_decide_eq_false hy.1) (of_decide_eq_false hy.2)
   have := split_same20 _ _ this
   exact hc (this ▸ y.2)
  rw [e, e]
theorem ins_nil (fv : Value) (w : World) : Calls Try.prog 46 #[.slice none 0 0, .int .i64 0, .int .i64 0, fv] w fun e w' => e = .returned (.tuple #[]) ∧ Below w.heap.size w w' := by
 go_enter Try.func46, Try.ntmps46
 go_wp2
 go_loopw [8] (fun v8 wr => v8 = .int .i64 1 ∧ wr = w) (fun _ _ => 0)
 case atStart => exact ⟨rfl, rfl⟩
 case round =>
  obtain ⟨rfl, rfl⟩ := hrel
  go_wp2
  go_end0
  exact ⟨rfl, Below.refl _ _⟩
theorem stable_nil (fv : Value) (w : World) : Calls Try.prog 44 #[.slice none 0 0, .int .i64 0, fv] w fun e w' => e = .returned (.tuple #[]) ∧ Below w.heap.size w w' := by
 have hi := fun W => ins_nil fv W
 have HB := Aside0.mk (Below.refl w.heap.size w)
 go_enter Try.func44, Try.ntmps44
 go_wp2
 go_loopw [7, 8] (fun v7 v8 wr => v7 = .int .i64 0 ∧ v8 = .int .i64 20 ∧ wr = w) (fun _ _ _ => 0)
 case atStart => exact ⟨rfl, rfl, rfl⟩
 case round =>
  obtain ⟨rfl, rfl, rfl⟩ := hrel
  go_wp2_with (go_at_call 46; (with_reducible refine (hi _).mono ?_); rintro e w1 ⟨rfl, hb⟩; have n0_ := Aside0.mk (below_step HB.out hb); clear HB hb; have HB := n0_; clear n0_)
  go_loopw [6, 7, 8, 9] (fun v6 v7 v8 v9 wr2 => v6 = .int .i64 20 ∧ Aside0 (Below wr.heap.size wr wr2)) (fun _ _ _ _ _ => 0)
  case atStart => exact ⟨rfl, HB⟩
  case round =>
   obtain ⟨rfl, HB⟩ := hrel
   go_wp2
   go_end0
   exact ⟨rfl, HB.out⟩
theorem below_pt {w w' : World} {g : Nat} {v : Value} (h : Below (g + 1) w w') (hg : w.cell? ⟨g, 0, none⟩ = some v) : w'.cell? ⟨g, 0, none⟩ = some v := by
 have := h.block g (Nat.lt_succ_self g)
 rw [← hg]
 unfold World.cell?
 rw [this]
set_option maxHeartbeats 2000000 in
set_option maxRecDepth 100000 in
theorem ssf_row (gl base : Nat) (w : World) (hgl : w.cell? ⟨gl, 0, none⟩ = some (.func (.func 35) #[] #[])) (v : Value) (m : List E43) (hR : Kd.R k43 43 w base (fun _ => True) v (m.map (·.1))) (hlt : gl < base) (hbw : base ≤ w.heap.size) (hm : m.length < 1000000000000) :
  Calls Try.prog 40 #[v, .func (.func 41) #[] #[.pointer (some ⟨gl, 0, none⟩)]] w fun e w' => e = .returned (.tuple #[]) ∧ ∃ r : List E43, Kd.R k43 43 w' base (fun _ => True) v (r.map (·.1)) ∧ StP (ltOf cf43) m r ∧ SortedL (ltOf cf43) r ∧ Below base w w' := by
 rcases row_holds m hR with ⟨rfl, rfl⟩ | ⟨g, cap, cur, rfl, hb, hh, h1, h2, h3, hH⟩
 ·have hc := stable_nil (.func (.func 41) #[] #[.pointer (some ⟨gl, 0, none⟩)]) w
  have HBW := Aside0.mk hbw
  go_enter Try.func40, Try.ntmps40
  go_wp2_with (go_at_call 44; refine hc.mono ?_; rintro e9 w9 ⟨rfl, hb⟩; have HB := Aside0.mk hb; clear hb)
  go_end0
  exact ⟨rfl, [], Kd.R_nil _ _ _ _ _, StP.refl _, List.Pairwise.nil, HB.out.mono HBW.out⟩
 ·have hg : g < w.heap.size := (Array.getElem?_eq_some_iff.1 hh).1
  have hcmp : CmpB Try.prog 41 #[.pointer (some ⟨gl, 0, none⟩)] enc43 11 cf43 g 0 m.toArray.size w := fun q os dk _ x y =>
   cmpE_call x y gl _ (below_pt (sWB_below w g q (gl + 1) dk os (by omega) hg) hgl)
  have hc := stable_call LS.here enc43 11 Try.isAgg43 Try.sizeOf43 enc43_len enc43_one cf43 swo43 41 #[.pointer (some ⟨gl, 0, none⟩)] (enters_of Try.func41 (by kernel_rfl) rfl) g 0 cap m.toArray w hcmp hH hg m.length (by simp) (by simpa using hm)
  rw [List.size_toArray] at hc
  have HCALL := Aside0.mk hc
  have HF := Aside0.mk (And.intro hb (And.intro hh (And.intro h1 (And.intro h2 (And.intro h3 (And.intro hH hg))))))
  clear hc hcmp hH hh h1 h2 h3 hg hb hR hgl
  go_enter Try.func40, Try.ntmps40
  go_wp2_with (go_at_call 44; refine HCALL.out.mono ?_; rintro e9 w9 ⟨rfl, q9, os9, d9, z1, z2, z3, rfl⟩)
  go_end0
  obtain ⟨hb, hh, h1, h2, h3, hH, hg⟩ := HF.out
  obtain ⟨cur', c1, c2⟩ := sWB_row w g q9 d9 os9 cur hh
  have z3' : d9.size = m.length := z3
  refine ⟨rfl, d9.toList, ?_, z1, z2, sWB_below w g q9 base d9 os9 hb hg⟩
  have := holds_row (base := base) (cap := cap) d9 hb c1 (by omega) h2 (by rw [c2]; exact h3) (sWB_holds enc43 11 w g 0 q9 m.toArray d9 os9 hH hg z3)
  rwa [z3'] at this
set_option maxHeartbeats 2000000 in
set_option maxRecDepth 100000 in
theorem ordered_call (A0 : Option Addr) (c0 : Nat) (l : List S43) (w : World) (hr : Kd.C k43 w A0 l.length l) (hl : l.length < 1000000000) (hs : ∀ x ∈ l, sml x.f0) :
  Calls Try.prog 34 #[.slice A0 l.length c0, .func (.func 35) #[] #[]] w fun e w' => ∃ v r, e = .returned v ∧ Kd.R k43 43 w' w.heap.size (fun _ => True) v r ∧ StP ltS l r ∧ SortedL ltS r ∧ Below w.heap.size w w' := by
 obtain ⟨m, rfl⟩ := lift43 l hs
 have hml : m.length < 1000000000 := by rwa [List.length_map] at hl
 have hb0 := below_alloc (Below.refl w.heap.size w) (.cells #[.func (.func 35) #[] #[]] 58 (0, 0))
 have hcl := clone_call A0 c0 (m.map (·.1)) (w.alloc (.cells #[.func (.func 35) #[] #[]] 58 (0, 0))) (Kd.C_below hr hb0) hl
 rw [List.length_map] at hcl ⊢
 have HB := Aside0.mk hb0
 have HCL := Aside0.mk hcl
 have HM := Aside0.mk hml
 clear hr hl hs hb0 hcl hml
 go_enter Try.func34, Try.ntmps34
 go_wp2_with (go_at_call 39; refine HCL.out.mono ?_; rintro e1 w1 ⟨v1, rfl, ho, hb⟩)
 have hcell : w1.cell? ⟨w.heap.size, 0, none⟩ = some (.func (.func 35) #[] #[]) := (blk_cell (blk_below (blk_new w (.cells #[.func (.func 35) #[] #[]] 58 (0, 0))) hb) 0).trans rfl
 have hss := ssf_row w.heap.size (w.alloc (.cells #[.func (.func 35) #[] #[]] 58 (0, 0))).heap.size w1 hcell v1 m ho (by rw [World.size_alloc]; exact Nat.lt_succ_self _) hb.size (by have := HM.out; omega)
 have HSS := Aside0.mk hss
 have HB1 := Aside0.mk hb
 clear hss hcell ho hb
 go_wp2_with (go_at_call 40; refine HSS.out.mono ?_; rintro e2 w2 ⟨rfl, r, ho2, z1, z2, hb2⟩)
 go_ret
 have hsz : w.heap.size ≤ (w.alloc (.cells #[.func (.func 35) #[] #[]] 58 (0, 0))).heap.size := HB.out.size
 have hbb : Below w.heap.size w1 w2 := hb2.mono hsz
 have hb01 : Below w.heap.size w w1 := below_step HB.out HB1.out
 exact ⟨_, _, rfl, Kd.R_lower ho2 hsz, stp_map43 m r z1, sorted_map43 r z2, hb01.trans hbb⟩
set_option maxHeartbeats 2000000 in
set_option maxRecDepth 100000 in
theorem sortE_call (A0 : Option Addr) (c0 : Nat) (l : List S43) (w : World) (hr : Kd.C k43 w A0 l.length l) (hl : l.length < 1000000000) (hs : ∀ x ∈ l, sml x.f0) :
  Calls Try.prog 31 #[.slice A0 l.length c0] w fun e w' => ∃ v r, e = .returned v ∧ Kd.R k43 43 w' w.heap.size (fun _ => True) v r ∧ StP ltS l r ∧ SortedL ltS r ∧ Below w.heap.size w w' := by
 have hc := ordered_call A0 c0 l w hr hl hs
 clear hr hl hs
 go_enter Try.func31, Try.ntmps31
 go_wp2_with (go_at_call 34; refine hc.mono ?_; rintro e1 w1 ⟨v, r, rfl, ho, z1, z2, hb⟩)
 go_ret
 exact ⟨_, r, rfl, ho, z1, z2, hb⟩
end Go.Proofs.Ytodbmagneaiocaa.PA
namespace Go.Proofs.Ytodbmagneaiocaa.PA
open Go.RowKit Go.Proofs.YtodbmagneaiocaaW.PrintWords Go.Proofs.YtodbmagneaiocaaW.PrintLast Go.Proofs.YtodbmagneaiocaaW.PrintMore
attribute [local go_sem] max2_int min2_int max_two min_two max_three min_three max_four min_four
set_option linter.unusedVariables false
set_option linter.unusedSimpArgs false
open Go.Sort
theorem StP.symm {α : Type} {lt : α → α → Bool} {a b : List α} (h : StP lt a b) : StP lt b a := ⟨h.1.symm, fun c => (h.2 c).symm⟩
def insB (acc : List S43) (x : S43) : List S43 := acc.filter (fun a => !ltS x a) ++ x :: acc.filter (fun a => ltS x a)
def sortS (l : List S43) : List S43 := l.foldl insB []
theorem insB_parts (x : S43) : ∀ acc : List S43, SortedL ltS acc → acc.filter (fun a => !ltS x a) ++ acc.filter (fun a => ltS x a) = acc
 | [], _ => rfl
 | a :: t, h => by
  have hc := List.pairwise_cons.1 h
  by_cases e : ltS x a = true
  ·have hall : ∀ b ∈ a :: t, ltS x b = true := fun b hb => by
    rcases List.mem_cons.1 hb with rfl | hb
    ·exact e
    ·apply Classical.byContradiction
     intro hn
     have := swoS.ntrans x b a (by simpa using hn) (hc.1 b hb)
     rw [this] at e
     exact absurd e (by decide)
   rw [List.filter_eq_nil_iff.2 (fun b hb => by rw [hall b hb]; decide), List.filter_eq_self.2 hall]
   rfl
  ·have e' : ltS x a = false := by simpa using e
   rw [List.filter_cons, if_pos (by rw [e']; rfl), List.filter_cons, if_neg e, List.cons_append, insB_parts x t hc.2]
theorem insB_ok (acc : List S43) (x : S43) (h : SortedL ltS acc) : StP ltS (acc ++ [x]) (insB acc x) ∧ SortedL ltS (insB acc x) := by
 have hp := insB_parts x acc h
 have hs : SortedL ltS (acc.filter (fun a => !ltS x a) ++ acc.filter (fun a => ltS x a)) := by rw [hp]; exact h
 rw [sorted_app] at hs
 have m1 : ∀ a ∈ acc.filter (fun a => !ltS x a), ltS x a = false := fun a ha => by simpa using (List.mem_filter.1 ha).2
 have m2 : ∀ a ∈ acc.filter (fun a => ltS x a), ltS x a = true := fun a ha => (List.mem_filter.1 ha).2
 unfold insB
 constructor
 ·have := StP.app (StP.refl (lt := ltS) (acc.filter (fun a => !ltS x a))) (StP.swap (acc.filter (fun a => ltS x a)) [x] swoS (fun a ha y hy => by rw [List.mem_singleton.1 hy]; exact m2 a ha))
  rw [← List.append_assoc, hp] at this
  exact this
 ·rw [show ∀ (F G : List S43), F ++ x :: G = F ++ ([x] ++ G) from fun F G => by simp, sorted_app, sorted_app]
  refine ⟨hs.1, ⟨List.pairwise_singleton _ _, hs.2.1, fun a ha b hb => by rw [List.mem_singleton.1 ha]; exact anti swoS (m2 b hb)⟩, fun a ha b hb => ?_⟩
  rcases List.mem_append.1 hb with hb | hb
  ·rw [List.mem_singleton.1 hb]
   exact m1 a ha
  ·exact hs.2.2 a ha b hb
theorem sortS_fold : ∀ (l acc : List S43), SortedL ltS acc → StP ltS (acc ++ l) (l.foldl insB acc) ∧ SortedL ltS (l.foldl insB acc)
 | [], acc, h => ⟨by rw [List.append_nil]; exact StP.refl _, h⟩
 | x :: l, acc, h => by
  have h1 := insB_ok acc x h
  have h2 := sortS_fold l (insB acc x) h1.2
  refine ⟨?_, h2.2⟩
  have := (h1.1.app (StP.refl (lt := ltS) l)).trans h2.1
  rwa [List.append_assoc] at this
theorem sortS_ok (l : List S43) : StP ltS l (sortS l) ∧ SortedL ltS (sortS l) := sortS_fold l [] List.Pairwise.nil
def flist_Sort.f (l0 : List S43) : Option (List S43) := if l0.length < 1000000000 ∧ (∀ y ∈ l0, y.f0.size ≤ 1048576) then some (sortS l0) else none
theorem flist_Sort.calls (A0 : Option Addr) (c0 : Nat) (l0 : List S43) (r : List S43) (w : World) (hr0 : Kd.C k43 w A0 l0.length l0) (hc0 : l0.length ≤ c0) (h : flist_Sort.f l0 = some r) :
  Calls Try.prog 31 #[.slice A0 l0.length c0] w fun e w' => ∃ v0_ : Value, e = .returned v0_ ∧ Kd.R k43 43 w' w.heap.size (fun _ => True) v0_ r ∧ Below w.heap.size w w' := by
 unfold flist_Sort.f at h
 split at h
 ·rename_i hs
  obtain rfl := Option.some.inj h
  refine (sortE_call A0 c0 l0 w hr0 hs.1 hs.2).mono ?_
  rintro e w' ⟨v, r, rfl, ho, z1, z2, hb⟩
  have := stp_unique swoS r (sortS l0) z2 (sortS_ok l0).2 (z1.symm.trans (sortS_ok l0).1)
  subst this
  exact ⟨v, rfl, ho, hb⟩
 ·exact absurd h (by simp)
end Go.Proofs.Ytodbmagneaiocaa.PA
namespace Go.Proofs.Ytodbmagneaiocaa.PA
open Go.RowKit Go.Proofs.YtodbmagneaiocaaW.PrintWords Go.Proofs.YtodbmagneaiocaaW.PrintLast Go.Proofs.YtodbmagneaiocaaW.PrintMore
attribute [local go_sem] max2_int min2_int max_two min_two max_three min_three max_four min_four
set_option linter.unusedVariables false
set_option linter.unusedSimpArgs false
theorem rdE_get (L : List S43) (i : Nat) (h : i < L.length) : rd_T43 L (i : Int) = L[i] := by simp [rd_T43, rdOf, h]
def entA (x : S43) : List Value := [.string x.f0, .int .i64 x.f1, .int .i64 x.f2, .int .i64 x.f3.f0, .int .i64 x.f3.f1, .int .i64 x.f3.f2, .int .i64 x.f3.f3, .int .i64 x.f3.f4, .string x.f4, .string x.f5, .int .i64 x.f6]
def mEq (a b : S41) : Bool := a.f0 == b.f0 && (a.f1 == b.f1 && (a.f2 == b.f2 && (a.f3 == b.f3 && a.f4 == b.f4)))
def becameI : Option S43 → Option S43 → Int
 | none, _ => 1
 | some _, none => 2
 | some x, some y => if x.f1 ≠ y.f1 ∨ (x.f1 = 1 ∧ (x.f2 ≠ y.f2 ∨ x.f5 ≠ y.f5)) ∨ (x.f1 = 3 ∧ x.f4 ≠ y.f4) then 3 else if mEq x.f3 y.f3 = true then 0 else 4
theorem became_eq (x y : S43) : becameI (some x) (some y) = if x.f1 ≠ y.f1 ∨ (x.f1 = 1 ∧ (x.f2 ≠ y.f2 ∨ x.f5 ≠ y.f5)) ∨ (x.f1 = 3 ∧ x.f4 ≠ y.f4) then 3 else if mEq x.f3 y.f3 = true then 0 else 4 := rfl
theorem wrapE (i : Nat) (h : i < 9223372036854775807) : wrap64 ((i : Int) + 1) = ((i + 1 : Nat) : Int) := by
 rw [wr64 _ (by omega) (by omega)]
 rfl
def EP (W : World) : Option Addr → Option S43 → Prop
 | p, none => p = none
 | p, some x => ∃ g o, p = some ⟨g, o, none⟩ ∧ ∀ j u, (entA x)[j]? = some u → W.cell? ⟨g, o + j, none⟩ = some u
def bothL : List S43 → List S43 → List (Option S43 × Option S43)
 | [], [] => []
 | x :: a, [] => (some x, none) :: bothL a []
 | [], y :: b => (none, some y) :: bothL [] b
 | x :: a, y :: b => if ltS x y = true then (some x, none) :: bothL a (y :: b) else if x.f0 ≠ y.f0 then (none, some y) :: bothL (x :: a) b else (some x, some y) :: bothL a b
termination_by a b => a.length + b.length
def firstG (acc : List S43) (y : S43) : List S43 := if acc = [] ∨ (acc.getLastD z43).f0 ≠ y.f0 then acc ++ [y] else acc
def firstL (l : List S43) : List S43 := l.foldl firstG []
def pathE : Option S43 × Option S43 → ByteArray
 | (some x, _) => x.f0
 | (none, some y) => y.f0
 | (none, none) => ByteArray.empty
def sinceE (p : Option S43 × Option S43) : List S28 := if becameI p.1 p.2 = 0 then [] else [⟨pathE p, becameI p.1 p.2⟩]
def commonE (p : Option S43 × Option S43) : List S43 := if becameI p.1 p.2 = 0 then p.1.toList else []
def applyE (l : List S28) (p : Option S43 × Option S43) : List S43 := if l.any (fun c => decide (c.f0 = pathE p)) = true then p.2.toList else p.1.toList
def sinceL (was is : List S43) : List S28 := (bothL (firstL (sortS was)) (firstL (sortS is))).flatMap sinceE
def commonL (was is : List S43) : List S43 := (bothL (firstL (sortS was)) (firstL (sortS is))).flatMap commonE
def applyL (was is : List S43) (l : List S28) : List S43 := (bothL (firstL (sortS was)) (firstL (sortS is))).flatMap (applyE l)
end Go.Proofs.Ytodbmagneaiocaa.PA
namespace Go.Proofs.Ytodbmagneaiocaa.PA
open Go.RowKit Go.Proofs.YtodbmagneaiocaaW.PrintWords Go.Proofs.YtodbmagneaiocaaW.PrintLast Go.Proofs.YtodbmagneaiocaaW.PrintMore
attribute [local go_sem] max2_int min2_int max_two min_two max_three min_three max_four min_four   -- for this text's walks alone
set_option linter.unusedVariables false
set_option linter.unusedSimpArgs false
def arch_before.f (k : Nat) (a0 : ByteArray) (a1 : ByteArray) : Option (Bool) := (path_Less.f k a0 a1).bind fun t101 => (some t101)
set_option maxHeartbeats 8000000 in
set_option maxRecDepth 100000 in
theorem arch_before.calls (k : Nat) (a0 : ByteArray) (a1 : ByteArray) (r : Bool) (w : World) (h : arch_before.f k a0 a1 = some r) :
  Calls Try.prog 30 #[.string a0, .string a1] w fun e w' => e = .returned (.bool r) ∧ Below w.heap.size w w' := by
 have HB := Aside0.mk (Below.refl w.heap.size w)
 have H : ((path_Less.f k a0 a1).bind fun t101 => (some t101)) = some r := h
 clear h
 replace H := Option.bind_eq_some_iff.mp H
 obtain ⟨t101, A30, H⟩ := H
 replace H : (some t101) = some r := H
 have A3 := Aside0.mk A30
 clear A30
 obtain rfl := Option.some.inj H
 go_enter Try.func30, Try.ntmps30
 go_wp2_with (first | ((with_reducible refine gate_callee (f := 33) rfl ?_); refine goesL_ (some 7) rfl rfl Try.func33 (by kernel_rfl) rfl #[.string a0, .string a1] rfl (by (try simp only [List.map_toArray, List.map_cons, List.map_nil]); first | done | rfl | (simp only [List.length_drop, List.length_take]; rfl)) ?_; (with_reducible refine (path_Less.calls k a0 a1 t101 _ A3.out).mono ?_); rintro e w4 ⟨rfl, hb⟩; refine ⟨_, rfl, ?_⟩; have n0_ := Aside0.mk (below_step (by repeat (first | (with_reducible first | exact HB.out | apply below_alloc | apply pw_below_drewN | apply below_drew1) | exact HB.out)) hb); clear HB; have HB := n0_; clear n0_; (try clear hb); (try clear hb2); (try clear hk); (try clear hi)))
 go_ret
 exact ⟨by first | rfl | (simp [errW_none, errW_some] <;> rfl) | (simp [*, errW_none, errW_some] <;> rfl), by repeat (first | (with_reducible first | exact HB.out | apply below_alloc | apply pw_below_drewN | apply below_drew1) | exact HB.out)⟩
end Go.Proofs.Ytodbmagneaiocaa.PA
namespace Go.Proofs.Ytodbmagneaiocaa.PA
open Go.RowKit Go.Proofs.YtodbmagneaiocaaW.PrintWords Go.Proofs.YtodbmagneaiocaaW.PrintLast Go.Proofs.YtodbmagneaiocaaW.PrintMore
attribute [local go_sem] max2_int min2_int max_two min_two max_three min_three max_four min_four   -- for this text's walks alone
set_option linter.unusedVariables false
set_option linter.unusedSimpArgs false
def arch_pathOf.f (a0_0 : ByteArray) (a0_1 : Int) (a0_2 : Int) (a0_3 : Int) (a0_4 : Int) (a0_5 : Int) (a0_6 : Int) (a0_7 : Int) (a0_8 : ByteArray) (a0_9 : ByteArray) (a0_10 : Int) : Option (ByteArray) := some a0_0
set_option maxHeartbeats 8000000 in
set_option maxRecDepth 100000 in
theorem arch_pathOf.calls (a0_0 : ByteArray) (a0_1 : Int) (a0_2 : Int) (a0_3 : Int) (a0_4 : Int) (a0_5 : Int) (a0_6 : Int) (a0_7 : Int) (a0_8 : ByteArray) (a0_9 : ByteArray) (a0_10 : Int) (r : ByteArray) (w : World) (h : arch_pathOf.f a0_0 a0_1 a0_2 a0_3 a0_4 a0_5 a0_6 a0_7 a0_8 a0_9 a0_10 = some r) :
  Calls Try.prog 23 #[.agg #[.string a0_0, .int .i64 a0_1, .int .i64 a0_2, .int .i64 a0_3, .int .i64 a0_4, .int .i64 a0_5, .int .i64 a0_6, .int .i64 a0_7, .string a0_8, .string a0_9, .int .i64 a0_10]] w fun e w' => e = .returned (.string r) ∧ Below w.heap.size w w' := by
 have hu43 := Try.underlying43
 have HB := Aside0.mk (Below.refl w.heap.size w)
 have H : (some a0_0) = some r := h
 clear h
 obtain rfl := Option.some.inj H
 go_enter Try.func23, Try.ntmps23
 go_wp2_with (first | ((with_reducible refine gate_dst (N := 1) rfl ?_); refine box_event ?hg (N := 1) ?hd (cs := #[.string a0_0, .int .i64 a0_1, .int .i64 a0_2, .int .i64 a0_3, .int .i64 a0_4, .int .i64 a0_5, .int .i64 a0_6, .int .i64 a0_7, .string a0_8, .string a0_9, .int .i64 a0_10]) (t := 43) ?hr ?_; (case hd => rfl); (case hg => rfl); (case hr => first | (go_simp; done) | (go_simp; rfl)); intro gb101 hg w2 hbox hb; have n0_ := Aside0.mk (below_step (by repeat (first | (with_reducible first | exact HB.out | apply below_alloc | apply pw_below_drewN | apply below_drew1) | exact HB.out)) hb); have n1_ := Aside0.mk (hbox); have n2_ := Aside0.mk ((by rw [hg]; exact (below_size (by repeat (first | (with_reducible first | exact HB.out | apply below_alloc | apply pw_below_drewN | apply below_drew1) | exact HB.out))) : w.heap.size ≤ gb101)); have n3_ := Aside0.mk ((by rw [hg]; exact (below_size (by repeat (first | (with_reducible first | exact HB.out | apply below_alloc | apply pw_below_drewN | apply below_drew1) | exact HB.out))) : w.heap.size ≤ gb101)); clear HB; have HB := n0_; have BK101 := n1_; have GW101 := n2_; have GE101 := n3_; clear n0_ n1_ n2_ n3_; clear hb hbox hg; have hcz3_0 : w2.cell? ⟨gb101, 0, none⟩ = some (.string a0_0) := (blk_cell BK101.out 0).trans rfl; have hcz3_1 : w2.cell? ⟨gb101, 1, none⟩ = some (.int .i64 a0_1) := (blk_cell BK101.out 1).trans rfl; have hcz3_2 : w2.cell? ⟨gb101, 2, none⟩ = some (.int .i64 a0_2) := (blk_cell BK101.out 2).trans rfl; have hcz3_3 : w2.cell? ⟨gb101, 3, none⟩ = some (.int .i64 a0_3) := (blk_cell BK101.out 3).trans rfl; have hcz3_4 : w2.cell? ⟨gb101, 4, none⟩ = some (.int .i64 a0_4) := (blk_cell BK101.out 4).trans rfl; have hcz3_5 : w2.cell? ⟨gb101, 5, none⟩ = some (.int .i64 a0_5) := (blk_cell BK101.out 5).trans rfl; have hcz3_6 : w2.cell? ⟨gb101, 6, none⟩ = some (.int .i64 a0_6) := (blk_cell BK101.out 6).trans rfl; have hcz3_7 : w2.cell? ⟨gb101, 7, none⟩ = some (.int .i64 a0_7) := (blk_cell BK101.out 7).trans rfl; have hcz3_8 : w2.cell? ⟨gb101, 8, none⟩ = some (.string a0_8) := (blk_cell BK101.out 8).trans rfl; have hcz3_9 : w2.cell? ⟨gb101, 9, none⟩ = some (.string a0_9) := (blk_cell BK101.out 9).trans rfl; have hcz3_10 : w2.cell? ⟨gb101, 10, none⟩ = some (.int .i64 a0_10) := (blk_cell BK101.out 10).trans rfl; have hfz3_0 := blk_frozen BK101.out 0; have hfz3_1 := blk_frozen BK101.out 1; have hfz3_2 := blk_frozen BK101.out 2; have hfz3_3 := blk_frozen BK101.out 3; have hfz3_4 := blk_frozen BK101.out 4; have hfz3_5 := blk_frozen BK101.out 5; have hfz3_6 := blk_frozen BK101.out 6; have hfz3_7 := blk_frozen BK101.out 7; have hfz3_8 := blk_frozen BK101.out 8; have hfz3_9 := blk_frozen BK101.out 9; have hfz3_10 := blk_frozen BK101.out 10))
 go_ret
 exact ⟨by first | rfl | (simp [errW_none, errW_some] <;> rfl) | (simp [*, errW_none, errW_some] <;> rfl), by repeat (first | (with_reducible first | exact HB.out | apply below_alloc | apply pw_below_drewN | apply below_drew1 | refine below_set ?_ GE101.out) | exact HB.out)⟩
end Go.Proofs.Ytodbmagneaiocaa.PA
