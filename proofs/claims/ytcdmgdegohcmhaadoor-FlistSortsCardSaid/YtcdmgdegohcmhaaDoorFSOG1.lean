/- crc.Seal by its contract: the table is laid. -/
import Derived.Test.YtcdmgdegohcmhaaDoorProg
import Derived.Below
import Derived.Deep.Draws
import Derived.Deep.AppendLies
import Derived.Maps.AppendAt
import Derived.OwnWalk
import Derived.Laws.BytesArg
import Derived.Laws.MakeOwn
import Derived.Laws.OwnMore
import Derived.Deep.OwnRows
import Derived.Tactics
import Derived.Lib.ConvBytes
import Derived.Laws.Slices
import Derived.WalkKit
import Derived.KernelRfl
import Derived.RowKit3
import Derived.Deep.LoopGhost
import Derived.Deep.QuietTactic
import Derived.BigQuiet
import Derived.WideLaws
import Derived.Deep.DeepCutAuto
import Derived.Deep.CutBlock
import Derived.Deep.RegionHeld3
import Derived.Laws.Rows
import Derived.Lib.AppendStr
import Derived.ArgAppend
import Derived.Laws.IdiomCopy
import Derived.OrdersHeld
import Derived.Laws.BitsLemmas
import Derived.RowKit
import Derived.Test.YtcdmgdegohcmhaaDoorFSOWWords
import Derived.Test.YtcdmgdegohcmhaaDoorFSOWLast
import Derived.Test.YtcdmgdegohcmhaaDoorFSOWTab
import Derived.Test.YtcdmgdegohcmhaaDoorFSOWFour
import Derived.Test.YtcdmgdegohcmhaaDoorFSOWQPut
import Derived.Test.YtcdmgdegohcmhaaDoorFSOWApart
import Derived.Test.YtcdmgdegohcmhaaDoorFSOWArr
import Derived.Test.YtcdmgdegohcmhaaDoorFSOWZeros
import Derived.Test.YtcdmgdegohcmhaaDoorFSOWFoot
import Derived.Test.YtcdmgdegohcmhaaDoorFSOWKept
import Derived.Test.YtcdmgdegohcmhaaDoorFSOWShare
import Derived.Test.YtcdmgdegohcmhaaDoorFSOWN
import Derived.Test.YtcdmgdegohcmhaaDoorFSOWFootNe
import Derived.Test.YtcdmgdegohcmhaaDoorFSOWAt
import Derived.Test.YtcdmgdegohcmhaaDoorFSOWEqStruct
import Derived.Test.YtcdmgdegohcmhaaDoorFSOWRepsOne
import Derived.Test.YtcdmgdegohcmhaaDoorFSOWInv
import Derived.Test.YtcdmgdegohcmhaaDoorFSOWInvWords
import Derived.Test.YtcdmgdegohcmhaaDoorFSOWGuard
import Derived.Test.YtcdmgdegohcmhaaDoorFSOWNEv
import Derived.Test.YtcdmgdegohcmhaaDoorFSOWMore
import Derived.Laws.Cover1
import Derived.Lib.OthersKept
import Derived.Lib.Bytealg
import Derived.Lib.Strings
import Derived.Lib.Walk
import Derived.Lib.Join
import Derived.Lib.QuietBelow
import Derived.Shelf.SlSortCmp.InsertionK
import Derived.Laws.NewBlocks
import Derived.Outline
import Derived.Laws.Bits128
import Derived.Laws.BitsAllLaws
import Derived.OpenShut
import Derived.Great.BuildSlice
import Derived.Laws.CopyOwn
import Derived.Laws.CopyRow
namespace Go.Proofs.YtcdmgdegohcmhaaDoor.PA
open Go.RowKit Go.Proofs.YtcdmgdegohcmhaaDoorW.PrintWords Go.Proofs.YtcdmgdegohcmhaaDoorW.PrintLast Go.Proofs.YtcdmgdegohcmhaaDoorW.PrintMore
attribute [local go_sem] max2_int min2_int max_two min_two max_three min_three max_four min_four   -- for this text's walks alone
set_option linter.unusedVariables false
set_option linter.unusedSimpArgs false
def errW : Option Int → Value
 | none => .nilIface
 | some c => .iface 0 (.int .i64 c)
theorem errW_none : errW none = .nilIface := rfl
theorem errW_some (c : Int) : errW (some c) = .iface 0 (.int .i64 c) := rfl
theorem info5 : (Tryd.prog.info? 5).map (fun i => (i.zero, i.size, i.bytes)) = some (some (.int .u8 0), 1, 1) := by kernel_rfl
theorem info9 : (Tryd.prog.info? 9).map (fun i => (i.zero, i.size, i.bytes)) = some (some (.string ⟨#[]⟩), 1, 16) := by kernel_rfl
theorem info35 : (Tryd.prog.info? 35).map (fun i => (i.zero, i.size, i.bytes)) = some (some (.agg #[(.string ⟨#[]⟩), (.int .i64 0), (.int .i64 0), (.int .i64 0), (.int .i64 0), (.int .i64 0), (.int .i64 0), (.int .i64 0), (.string ⟨#[]⟩), (.string ⟨#[]⟩), (.int .i64 0)]), 11, 112) := by kernel_rfl
structure S33 where
 f0 : Int
 f1 : Int
 f2 : Int
 f3 : Int
 f4 : Int
def z33 : S33 := ⟨(0 : Int), (0 : Int), (0 : Int), (0 : Int), (0 : Int)⟩
def k33 : Kd S33 := Kd.iso (Kd.pair (Kd.int .i64) (Kd.pair (Kd.int .i64) (Kd.pair (Kd.int .i64) (Kd.pair (Kd.int .i64) (Kd.int .i64))))) (fun x : S33 => (x.f0, x.f1, x.f2, x.f3, x.f4))
theorem k33_open {w : World} {x : S33} {cs : List Value} (h : k33.K w x cs) : cs = [.int .i64 x.f0, .int .i64 x.f1, .int .i64 x.f2, .int .i64 x.f3, .int .i64 x.f4] := by
 obtain ⟨_, _, rfl, rfl, ⟨_, _, rfl, rfl, ⟨_, _, rfl, rfl, ⟨_, _, rfl, rfl, rfl⟩⟩⟩⟩ := h
 exact rfl
theorem k33_openM {w : World} {base : Nat} {ok : Nat → Prop} {x : S33} {cs : List Value} (h : k33.M w base ok x cs) : cs = [.int .i64 x.f0, .int .i64 x.f1, .int .i64 x.f2, .int .i64 x.f3, .int .i64 x.f4] := by
 obtain ⟨_, _, rfl, rfl, ⟨_, _, rfl, rfl, ⟨_, _, rfl, rfl, ⟨_, _, rfl, rfl, rfl⟩⟩⟩⟩ := h
 exact rfl
theorem k33_mkM (w : World) (base : Nat) (ok : Nat → Prop) (x : S33)  : k33.M w base ok x [.int .i64 x.f0, .int .i64 x.f1, .int .i64 x.f2, .int .i64 x.f3, .int .i64 x.f4] := ⟨[.int .i64 x.f0], [.int .i64 x.f1, .int .i64 x.f2, .int .i64 x.f3, .int .i64 x.f4], rfl, rfl, ⟨[.int .i64 x.f1], [.int .i64 x.f2, .int .i64 x.f3, .int .i64 x.f4], rfl, rfl, ⟨[.int .i64 x.f2], [.int .i64 x.f3, .int .i64 x.f4], rfl, rfl, ⟨[.int .i64 x.f3], [.int .i64 x.f4], rfl, rfl, rfl⟩⟩⟩⟩
structure S35 where
 f0 : ByteArray
 f1 : Int
 f2 : Int
 f3 : S33
 f4 : ByteArray
 f5 : ByteArray
 f6 : Int
def z35 : S35 := ⟨(⟨#[]⟩ : ByteArray), (0 : Int), (0 : Int), z33, (⟨#[]⟩ : ByteArray), (⟨#[]⟩ : ByteArray), (0 : Int)⟩
def k35 : Kd S35 := Kd.iso (Kd.pair Kd.string (Kd.pair (Kd.int .i64) (Kd.pair (Kd.int .i64) (Kd.pair k33 (Kd.pair Kd.string (Kd.pair Kd.string (Kd.int .i64))))))) (fun x : S35 => (x.f0, x.f1, x.f2, x.f3, x.f4, x.f5, x.f6))
theorem k35_open {w : World} {x : S35} {cs : List Value} (h : k35.K w x cs) : cs = [.string x.f0, .int .i64 x.f1, .int .i64 x.f2, .int .i64 x.f3.f0, .int .i64 x.f3.f1, .int .i64 x.f3.f2, .int .i64 x.f3.f3, .int .i64 x.f3.f4, .string x.f4, .string x.f5, .int .i64 x.f6] := by
 obtain ⟨_, _, rfl, rfl, ⟨_, _, rfl, rfl, ⟨_, _, rfl, rfl, ⟨_, _, rfl, s3, ⟨_, _, rfl, rfl, ⟨_, _, rfl, rfl, rfl⟩⟩⟩⟩⟩⟩ := h
 obtain rfl := k33_open s3
 exact rfl
theorem k35_openM {w : World} {base : Nat} {ok : Nat → Prop} {x : S35} {cs : List Value} (h : k35.M w base ok x cs) : cs = [.string x.f0, .int .i64 x.f1, .int .i64 x.f2, .int .i64 x.f3.f0, .int .i64 x.f3.f1, .int .i64 x.f3.f2, .int .i64 x.f3.f3, .int .i64 x.f3.f4, .string x.f4, .string x.f5, .int .i64 x.f6] := by
 obtain ⟨_, _, rfl, rfl, ⟨_, _, rfl, rfl, ⟨_, _, rfl, rfl, ⟨_, _, rfl, s3, ⟨_, _, rfl, rfl, ⟨_, _, rfl, rfl, rfl⟩⟩⟩⟩⟩⟩ := h
 obtain rfl := k33_openM s3
 exact rfl
theorem k35_mkM (w : World) (base : Nat) (ok : Nat → Prop) (x : S35)  : k35.M w base ok x [.string x.f0, .int .i64 x.f1, .int .i64 x.f2, .int .i64 x.f3.f0, .int .i64 x.f3.f1, .int .i64 x.f3.f2, .int .i64 x.f3.f3, .int .i64 x.f3.f4, .string x.f4, .string x.f5, .int .i64 x.f6] := ⟨[.string x.f0], [.int .i64 x.f1, .int .i64 x.f2, .int .i64 x.f3.f0, .int .i64 x.f3.f1, .int .i64 x.f3.f2, .int .i64 x.f3.f3, .int .i64 x.f3.f4, .string x.f4, .string x.f5, .int .i64 x.f6], rfl, rfl, ⟨[.int .i64 x.f1], [.int .i64 x.f2, .int .i64 x.f3.f0, .int .i64 x.f3.f1, .int .i64 x.f3.f2, .int .i64 x.f3.f3, .int .i64 x.f3.f4, .string x.f4, .string x.f5, .int .i64 x.f6], rfl, rfl, ⟨[.int .i64 x.f2], [.int .i64 x.f3.f0, .int .i64 x.f3.f1, .int .i64 x.f3.f2, .int .i64 x.f3.f3, .int .i64 x.f3.f4, .string x.f4, .string x.f5, .int .i64 x.f6], rfl, rfl, ⟨[.int .i64 x.f3.f0, .int .i64 x.f3.f1, .int .i64 x.f3.f2, .int .i64 x.f3.f3, .int .i64 x.f3.f4], [.string x.f4, .string x.f5, .int .i64 x.f6], rfl, (k33_mkM w base ok x.f3 ), ⟨[.string x.f4], [.string x.f5, .int .i64 x.f6], rfl, rfl, ⟨[.string x.f5], [.int .i64 x.f6], rfl, rfl, rfl⟩⟩⟩⟩⟩⟩
def rd_T35 (xs : List S35) (i : Int) : S35 := xs.getD i.toNat z35
theorem at_T35 {w : World} {A : Option Addr} {n : Nat} {xs : List S35} (h : Kd.C k35 w A n xs) (i : Int) (h0 : 0 ≤ i) (h1 : i < n) : ∃ ad , A = some ad ∧ w.cell? (ad.add (i.toNat * 11)) = some (.string (rd_T35 xs i).f0) ∧ w.cell? ⟨(ad.add (i.toNat * 11)).block, (ad.add (i.toNat * 11)).off + 1, none⟩ = some (.int .i64 (rd_T35 xs i).f1) ∧ w.cell? ⟨(ad.add (i.toNat * 11)).block, (ad.add (i.toNat * 11)).off + 2, none⟩ = some (.int .i64 (rd_T35 xs i).f2) ∧ w.cell? ⟨(ad.add (i.toNat * 11)).block, (ad.add (i.toNat * 11)).off + 3, none⟩ = some (.int .i64 (rd_T35 xs i).f3.f0) ∧ w.cell? ⟨(ad.add (i.toNat * 11)).block, (ad.add (i.toNat * 11)).off + 4, none⟩ = some (.int .i64 (rd_T35 xs i).f3.f1) ∧ w.cell? ⟨(ad.add (i.toNat * 11)).block, (ad.add (i.toNat * 11)).off + 5, none⟩ = some (.int .i64 (rd_T35 xs i).f3.f2) ∧ w.cell? ⟨(ad.add (i.toNat * 11)).block, (ad.add (i.toNat * 11)).off + 6, none⟩ = some (.int .i64 (rd_T35 xs i).f3.f3) ∧ w.cell? ⟨(ad.add (i.toNat * 11)).block, (ad.add (i.toNat * 11)).off + 7, none⟩ = some (.int .i64 (rd_T35 xs i).f3.f4) ∧ w.cell? ⟨(ad.add (i.toNat * 11)).block, (ad.add (i.toNat * 11)).off + 8, none⟩ = some (.string (rd_T35 xs i).f4) ∧ w.cell? ⟨(ad.add (i.toNat * 11)).block, (ad.add (i.toNat * 11)).off + 9, none⟩ = some (.string (rd_T35 xs i).f5) ∧ w.cell? ⟨(ad.add (i.toNat * 11)).block, (ad.add (i.toNat * 11)).off + 10, none⟩ = some (.int .i64 (rd_T35 xs i).f6) := by
 obtain ⟨ad, c, e, _, hK, hc0⟩ := Kd.C_get h z35 i h0 h1
 have hc : ∀ j u, c[j]? = some u → w.cell? (ad.add (i.toNat * 11 + j)) = some u := hc0
 obtain rfl := k35_open hK
 exact ⟨ad, e, hc 0 _ rfl, by rw [← add_field _ _ 1 (by omega)]; exact hc 1 _ rfl, by rw [← add_field _ _ 2 (by omega)]; exact hc 2 _ rfl, by rw [← add_field _ _ 3 (by omega)]; exact hc 3 _ rfl, by rw [← add_field _ _ 4 (by omega)]; exact hc 4 _ rfl, by rw [← add_field _ _ 5 (by omega)]; exact hc 5 _ rfl, by rw [← add_field _ _ 6 (by omega)]; exact hc 6 _ rfl, by rw [← add_field _ _ 7 (by omega)]; exact hc 7 _ rfl, by rw [← add_field _ _ 8 (by omega)]; exact hc 8 _ rfl, by rw [← add_field _ _ 9 (by omega)]; exact hc 9 _ rfl, by rw [← add_field _ _ 10 (by omega)]; exact hc 10 _ rfl⟩
end Go.Proofs.YtcdmgdegohcmhaaDoor.PA
namespace Go.Proofs.YtcdmgdegohcmhaaDoor.PA
open Go.RowKit Go.Proofs.YtcdmgdegohcmhaaDoorW.PrintWords Go.Proofs.YtcdmgdegohcmhaaDoorW.PrintLast Go.Proofs.YtcdmgdegohcmhaaDoorW.PrintMore
attribute [local go_sem] max2_int min2_int max_two min_two max_three min_three max_four min_four   -- for this text's walks alone
set_option linter.unusedVariables false
set_option linter.unusedSimpArgs false
theorem eqA33 (d : Nat) (w : World) (x0 y0 : Int) (x1 y1 : Int) (x2 y2 : Int) (x3 y3 : Int) (x4 y4 : Int) :
  (Op.equalIn (d + 2) 33 (.agg #[.int .i64 x0, .int .i64 x1, .int .i64 x2, .int .i64 x3, .int .i64 x4]) (.agg #[.int .i64 y0, .int .i64 y1, .int .i64 y2, .int .i64 y3, .int .i64 y4])).run Tryd.prog w = .ok (x0 == y0 && (x1 == y1 && (x2 == y2 && (x3 == y3 && (x4 == y4))))) w := by
 refine eqA_of Tryd.underlying33 (by kernel_rfl) ?_
 refine eqf_cons (by rfl) (by go_simp; rfl) (by go_simp; rfl) (by go_simp) ?_
 refine eqf_cons (by rfl) (by go_simp; rfl) (by go_simp; rfl) (by go_simp) ?_
 refine eqf_cons (by rfl) (by go_simp; rfl) (by go_simp; rfl) (by go_simp) ?_
 refine eqf_cons (by rfl) (by go_simp; rfl) (by go_simp; rfl) (by go_simp) ?_
 exact eqf_last (by rfl) (by go_simp; rfl) (by go_simp; rfl) (by go_simp)
theorem eqA35 (d : Nat) (w : World) (x0 y0 : ByteArray) (x1 y1 : Int) (x2 y2 : Int) (x3 y3 : Int) (x4 y4 : Int) (x5 y5 : Int) (x6 y6 : Int) (x7 y7 : Int) (x8 y8 : ByteArray) (x9 y9 : ByteArray) (x10 y10 : Int) :
  (Op.equalIn (d + 3) 35 (.agg #[.string x0, .int .i64 x1, .int .i64 x2, .int .i64 x3, .int .i64 x4, .int .i64 x5, .int .i64 x6, .int .i64 x7, .string x8, .string x9, .int .i64 x10]) (.agg #[.string y0, .int .i64 y1, .int .i64 y2, .int .i64 y3, .int .i64 y4, .int .i64 y5, .int .i64 y6, .int .i64 y7, .string y8, .string y9, .int .i64 y10])).run Tryd.prog w = .ok (x0.toList == y0.toList && (x1 == y1 && (x2 == y2 && ((x3 == y3 && (x4 == y4 && (x5 == y5 && (x6 == y6 && (x7 == y7))))) && (x8.toList == y8.toList && (x9.toList == y9.toList && (x10 == y10))))))) w := by
 refine eqA_of Tryd.underlying35 (by kernel_rfl) ?_
 refine eqf_cons (by rfl) (by go_simp; rfl) (by go_simp; rfl) (by go_simp) ?_
 refine eqf_cons (by rfl) (by go_simp; rfl) (by go_simp; rfl) (by go_simp) ?_
 refine eqf_cons (by rfl) (by go_simp; rfl) (by go_simp; rfl) (by go_simp) ?_
 refine eqf_cons (by rfl) (by go_simp) (by go_simp) (eqA33 (d + 0) w _ _ _ _ _ _ _ _ _ _) ?_
 refine eqf_cons (by rfl) (by go_simp; rfl) (by go_simp; rfl) (by go_simp) ?_
 refine eqf_cons (by rfl) (by go_simp; rfl) (by go_simp; rfl) (by go_simp) ?_
 exact eqf_last (by rfl) (by go_simp; rfl) (by go_simp; rfl) (by go_simp)
end Go.Proofs.YtcdmgdegohcmhaaDoor.PA
namespace Go.Proofs.YtcdmgdegohcmhaaDoor.PA
open Go.RowKit Go.Proofs.YtcdmgdegohcmhaaDoorW.PrintWords Go.Proofs.YtcdmgdegohcmhaaDoorW.PrintLast Go.Proofs.YtcdmgdegohcmhaaDoorW.PrintMore
attribute [local go_sem] max2_int min2_int max_two min_two max_three min_three max_four min_four   -- for this text's walks alone
set_option linter.unusedVariables false
set_option linter.unusedSimpArgs false
attribute [local go_sem high] eqA35
def api_Entry_45.l0 : Nat → List (S35) → List (S35) → Int → Int → Option (Bool)
 | 0, _, _, _, _ => none
 | k + 1, x0, x1, x12, x13 => if x13 < x12 then (if 0 ≤ x13 then (if x13 < (x0.length : Int) then (if x13 < (x1.length : Int) then (if (!((((rd_T35 x0 x13).f0).toList) == (((rd_T35 x1 x13).f0).toList)) || (!(((rd_T35 x0 x13).f1) == ((rd_T35 x1 x13).f1)) || (!(((rd_T35 x0 x13).f2) == ((rd_T35 x1 x13).f2)) || ((!(((rd_T35 x0 x13).f3.f0) == ((rd_T35 x1 x13).f3.f0)) || (!(((rd_T35 x0 x13).f3.f1) == ((rd_T35 x1 x13).f3.f1)) || (!(((rd_T35 x0 x13).f3.f2) == ((rd_T35 x1 x13).f3.f2)) || (!(((rd_T35 x0 x13).f3.f3) == ((rd_T35 x1 x13).f3.f3)) || (!(((rd_T35 x0 x13).f3.f4) == ((rd_T35 x1 x13).f3.f4))))))) || (!((((rd_T35 x0 x13).f4).toList) == (((rd_T35 x1 x13).f4).toList)) || (!((((rd_T35 x0 x13).f5).toList) == (((rd_T35 x1 x13).f5).toList)) || (!(((rd_T35 x0 x13).f6) == ((rd_T35 x1 x13).f6))))))))) = true then (some false) else (api_Entry_45.l0 k x0 x1 x12 (wrap64 (x13 + 1)))) else (none)) else (none)) else (none)) else (some true)
def api_Entry_45.f (k : Nat) (l0 : List (S35)) (l1 : List (S35)) : Option (Bool) := if (l0.length : Int) = (l1.length : Int) then (api_Entry_45.l0 k l0 l1 (l0.length : Int) 0) else (some false)
set_option maxHeartbeats 8000000 in
set_option maxRecDepth 100000 in
theorem api_Entry_45.calls (k : Nat) (A0 : Option Addr) (c0 : Nat) (l0 : List (S35)) (A1 : Option Addr) (c1 : Nat) (l1 : List (S35)) (r : Bool) (w : World) (hr0 : Kd.C k35 w A0 l0.length l0) (hc0 : l0.length ≤ c0) (hr1 : Kd.C k35 w A1 l1.length l1) (hc1 : l1.length ≤ c1) (h : api_Entry_45.f k l0 l1 = some r) :
  Calls Tryd.prog 45 #[.slice A0 l0.length c0, .slice A1 l1.length c1] w fun e w' => e = .returned (.bool r) ∧ Drawn0 w w' := by
 have hu35 := Tryd.underlying35
 have HR0 := Aside0.mk hr0
 have HC0 := Aside0.mk hc0
 clear hr0 hc0
 have HR1 := Aside0.mk hr1
 have HC1 := Aside0.mk hc1
 clear hr1 hc1
 have H : (if (l0.length : Int) = (l1.length : Int) then (api_Entry_45.l0 k l0 l1 (l0.length : Int) 0) else (some false)) = some r := h
 clear h
 by_cases c3 : (l0.length : Int) = (l1.length : Int)
 ·rw [if_pos c3] at H
  have c3b0 : ((l0.length : Int) == (l1.length : Int)) = true := beq_iff_eq.mpr c3
  have c3b1 : ((l0.length : Int) != (l1.length : Int)) = false := bne_eq_false_iff_eq.mpr c3
  have c3b2 : (l0.length == l1.length) = true := by first | simpa using c3 | (simp at c3 ⊢; omega)
  clear c3
  have H' := Aside0.mk H
  clear H
  go_enter Tryd.func45, Tryd.ntmps45
  go_wp2
  repeat (go_quiet (fail); try go_wp2)
  go_loopg [13] k (fun kq v13 w' => ∃ (x13_1 : Int), v13 = .int .i64 x13_1 ∧ Aside0 (api_Entry_45.l0 kq l0 l1 (l0.length : Int) x13_1 = some r) ∧ Aside0 (kq ≤ k) ∧ Drawn0 w w')
  case atStart => exact ⟨(0), (by first | rfl | (simp; done) | (simp [*]; done)), H', ⟨Nat.le_refl _⟩, by repeat (first | exact Drawn0.refl _ | apply Drawn0.step)⟩
  case round =>
   clear H'
   try clear c1
   try clear p2
   try clear c3
   try clear c3b0
   try clear c3b1
   try clear c3b2
   obtain ⟨x13_1, rfl, HA, HK1, ⟨m1, rfl⟩⟩ := hrel
   cases gk with
   | zero => exact absurd HA.out (by simp [api_Entry_45.l0])
   | succ k1 =>
    have H := HA.out
    clear HA
    simp only [api_Entry_45.l0] at H
    by_cases c4 : x13_1 < (l0.length : Int)
    ·rw [if_pos c4] at H
     have c4b0 : decide (x13_1 < (l0.length : Int)) = true := decide_eq_true c4
     clear c4
     by_cases c5 : 0 ≤ x13_1
     ·rw [if_pos c5] at H
      have c5b0 : decide (0 ≤ x13_1) = true := decide_eq_true c5
      clear c5
      by_cases c6 : x13_1 < (l0.length : Int)
      ·rw [if_pos c6] at H
       have c6b0 : decide (x13_1 < (l0.length : Int)) = true := decide_eq_true c6
       clear c6
       by_cases c7 : x13_1 < (l1.length : Int)
       ·rw [if_pos c7] at H
        have c7b0 : decide (x13_1 < (l1.length : Int)) = true := decide_eq_true c7
        clear c7
        by_cases c8 : (!((((rd_T35 l0 x13_1).f0).toList) == (((rd_T35 l1 x13_1).f0).toList)) || (!(((rd_T35 l0 x13_1).f1) == ((rd_T35 l1 x13_1).f1)) || (!(((rd_T35 l0 x13_1).f2) == ((rd_T35 l1 x13_1).f2)) || ((!(((rd_T35 l0 x13_1).f3.f0) == ((rd_T35 l1 x13_1).f3.f0)) || (!(((rd_T35 l0 x13_1).f3.f1) == ((rd_T35 l1 x13_1).f3.f1)) || (!(((rd_T35 l0 x13_1).f3.f2) == ((rd_T35 l1 x13_1).f3.f2)) || (!(((rd_T35 l0 x13_1).f3.f3) == ((rd_T35 l1 x13_1).f3.f3)) || (!(((rd_T35 l0 x13_1).f3.f4) == ((rd_T35 l1 x13_1).f3.f4))))))) || (!((((rd_T35 l0 x13_1).f4).toList) == (((rd_T35 l1 x13_1).f4).toList)) || (!((((rd_T35 l0 x13_1).f5).toList) == (((rd_T35 l1 x13_1).f5).toList)) || (!(((rd_T35 l0 x13_1).f6) == ((rd_T35 l1 x13_1).f6))))))))) = true
        ·rw [if_pos c8] at H
         have c8b0 : (!((((rd_T35 l0 x13_1).f0).toList) == (((rd_T35 l1 x13_1).f0).toList)) || (!(((rd_T35 l0 x13_1).f1) == ((rd_T35 l1 x13_1).f1)) || (!(((rd_T35 l0 x13_1).f2) == ((rd_T35 l1 x13_1).f2)) || ((!(((rd_T35 l0 x13_1).f3.f0) == ((rd_T35 l1 x13_1).f3.f0)) || (!(((rd_T35 l0 x13_1).f3.f1) == ((rd_T35 l1 x13_1).f3.f1)) || (!(((rd_T35 l0 x13_1).f3.f2) == ((rd_T35 l1 x13_1).f3.f2)) || (!(((rd_T35 l0 x13_1).f3.f3) == ((rd_T35 l1 x13_1).f3.f3)) || (!(((rd_T35 l0 x13_1).f3.f4) == ((rd_T35 l1 x13_1).f3.f4))))))) || (!((((rd_T35 l0 x13_1).f4).toList) == (((rd_T35 l1 x13_1).f4).toList)) || (!((((rd_T35 l0 x13_1).f5).toList) == (((rd_T35 l1 x13_1).f5).toList)) || (!(((rd_T35 l0 x13_1).f6) == ((rd_T35 l1 x13_1).f6))))))))) = true := c8
         clear c8
         obtain rfl := Option.some.inj H
         have p101 : 0 ≤ (x13_1 : Int) := of_decide_eq_true (by first | (with_reducible assumption) | assumption)
         have q101 : x13_1 < (l0.length : Int) := of_decide_eq_true (by first | (with_reducible assumption) | assumption)
         obtain ⟨ad101, e101, hx101_0, hx101_1, hx101_2, hx101_3, hx101_4, hx101_5, hx101_6, hx101_7, hx101_8, hx101_9, hx101_10⟩ := at_T35 HR0.out x13_1 p101 q101
         cases e101
         replace p101 := eq_true p101
         replace q101 := eq_true q101
         have p102 : 0 ≤ (x13_1 : Int) := of_decide_eq_true (by first | (with_reducible assumption) | assumption)
         have q102 : x13_1 < (l1.length : Int) := of_decide_eq_true (by first | (with_reducible assumption) | assumption)
         obtain ⟨ad102, e102, hx102_0, hx102_1, hx102_2, hx102_3, hx102_4, hx102_5, hx102_6, hx102_7, hx102_8, hx102_9, hx102_10⟩ := at_T35 HR1.out x13_1 p102 q102
         cases e102
         replace p102 := eq_true p102
         replace q102 := eq_true q102
         go_wp2
         repeat (go_quiet (fail); try go_wp2)
         go_ret
         exact ⟨by first | rfl | (simp; done) | (simp [*]; done), by repeat (first | exact Drawn0.refl _ | apply Drawn0.step)⟩
        ·rw [if_neg c8] at H
         have c8b0 : (!((((rd_T35 l0 x13_1).f0).toList) == (((rd_T35 l1 x13_1).f0).toList)) || (!(((rd_T35 l0 x13_1).f1) == ((rd_T35 l1 x13_1).f1)) || (!(((rd_T35 l0 x13_1).f2) == ((rd_T35 l1 x13_1).f2)) || ((!(((rd_T35 l0 x13_1).f3.f0) == ((rd_T35 l1 x13_1).f3.f0)) || (!(((rd_T35 l0 x13_1).f3.f1) == ((rd_T35 l1 x13_1).f3.f1)) || (!(((rd_T35 l0 x13_1).f3.f2) == ((rd_T35 l1 x13_1).f3.f2)) || (!(((rd_T35 l0 x13_1).f3.f3) == ((rd_T35 l1 x13_1).f3.f3)) || (!(((rd_T35 l0 x13_1).f3.f4) == ((rd_T35 l1 x13_1).f3.f4))))))) || (!((((rd_T35 l0 x13_1).f4).toList) == (((rd_T35 l1 x13_1).f4).toList)) || (!((((rd_T35 l0 x13_1).f5).toList) == (((rd_T35 l1 x13_1).f5).toList)) || (!(((rd_T35 l0 x13_1).f6) == ((rd_T35 l1 x13_1).f6))))))))) = false := by simpa using c8
         clear c8
         have H' := Aside0.mk H
         clear H
         have p101 : 0 ≤ (x13_1 : Int) := of_decide_eq_true (by first | (with_reducible assumption) | assumption)
         have q101 : x13_1 < (l0.length : Int) := of_decide_eq_true (by first | (with_reducible assumption) | assumption)
         obtain ⟨ad101, e101, hx101_0, hx101_1, hx101_2, hx101_3, hx101_4, hx101_5, hx101_6, hx101_7, hx101_8, hx101_9, hx101_10⟩ := at_T35 HR0.out x13_1 p101 q101
         cases e101
         replace p101 := eq_true p101
         replace q101 := eq_true q101
         have p102 : 0 ≤ (x13_1 : Int) := of_decide_eq_true (by first | (with_reducible assumption) | assumption)
         have q102 : x13_1 < (l1.length : Int) := of_decide_eq_true (by first | (with_reducible assumption) | assumption)
         obtain ⟨ad102, e102, hx102_0, hx102_1, hx102_2, hx102_3, hx102_4, hx102_5, hx102_6, hx102_7, hx102_8, hx102_9, hx102_10⟩ := at_T35 HR1.out x13_1 p102 q102
         cases e102
         replace p102 := eq_true p102
         replace q102 := eq_true q102
         go_wp2
         repeat (go_quiet (fail); try go_wp2)
         go_roundg k1
         case measure => have := HK1.out; omega
         case rel => exact ⟨(wrap64 (x13_1 + 1)), (by first | rfl | (simp; done) | (simp [*]; done)), H', ⟨by have := HK1.out; omega⟩, by repeat (first | exact Drawn0.refl _ | apply Drawn0.step)⟩
       ·rw [if_neg c7] at H
        exact absurd H (by simp)
      ·rw [if_neg c6] at H
       exact absurd H (by simp)
     ·rw [if_neg c5] at H
      exact absurd H (by simp)
    ·rw [if_neg c4] at H
     have c4b0 : decide (x13_1 < (l0.length : Int)) = false := decide_eq_false c4
     clear c4
     obtain rfl := Option.some.inj H
     go_wp2
     repeat (go_quiet (fail); try go_wp2)
     go_ret
     exact ⟨by first | rfl | (simp; done) | (simp [*]; done), by repeat (first | exact Drawn0.refl _ | apply Drawn0.step)⟩
 ·rw [if_neg c3] at H
  have c3b0 : ((l0.length : Int) == (l1.length : Int)) = false := beq_eq_false_iff_ne.mpr c3
  have c3b1 : ((l0.length : Int) != (l1.length : Int)) = true := bne_iff_ne.mpr c3
  have c3b2 : (l0.length == l1.length) = false := by first | simpa using c3 | (simp at c3 ⊢; omega)
  obtain rfl := Option.some.inj H
  go_enter Tryd.func45, Tryd.ntmps45
  go_wp2
  repeat (go_quiet (fail); try go_wp2)
  go_ret
  exact ⟨by first | rfl | (simp; done) | (simp [*]; done), by repeat (first | exact Drawn0.refl _ | apply Drawn0.step)⟩
end Go.Proofs.YtcdmgdegohcmhaaDoor.PA
namespace Go.Proofs.YtcdmgdegohcmhaaDoor.PA
open Go.RowKit Go.Proofs.YtcdmgdegohcmhaaDoorW.PrintWords Go.Proofs.YtcdmgdegohcmhaaDoorW.PrintLast Go.Proofs.YtcdmgdegohcmhaaDoorW.PrintMore
attribute [local go_sem] max2_int min2_int max_two min_two max_three min_three max_four min_four   -- for this text's walks alone
set_option linter.unusedVariables false
set_option linter.unusedSimpArgs false
def flist_Same.f (k : Nat) (l0 : List (S35)) (l1 : List (S35)) : Option (Bool) := (api_Entry_45.f k l0 l1).bind fun t101 => (some t101)
set_option maxHeartbeats 8000000 in
set_option maxRecDepth 100000 in
theorem flist_Same.calls (k : Nat) (A0 : Option Addr) (c0 : Nat) (l0 : List (S35)) (A1 : Option Addr) (c1 : Nat) (l1 : List (S35)) (r : Bool) (w : World) (hr0 : Kd.C k35 w A0 l0.length l0) (hc0 : l0.length ≤ c0) (hr1 : Kd.C k35 w A1 l1.length l1) (hc1 : l1.length ≤ c1) (h : flist_Same.f k l0 l1 = some r) :
  Calls Tryd.prog 18 #[.slice A0 l0.length c0, .slice A1 l1.length c1] w fun e w' => e = .returned (.bool r) ∧ Drawn0 w w' := by
 have HR0 := Aside0.mk hr0
 have HC0 := Aside0.mk hc0
 clear hr0 hc0
 have HR1 := Aside0.mk hr1
 have HC1 := Aside0.mk hc1
 clear hr1 hc1
 have H : ((api_Entry_45.f k l0 l1).bind fun t101 => (some t101)) = some r := h
 clear h
 replace H := Option.bind_eq_some_iff.mp H
 obtain ⟨t101, A30, H⟩ := H
 replace H : (some t101) = some r := H
 have A3 := Aside0.mk A30
 clear A30
 obtain rfl := Option.some.inj H
 go_enter Tryd.func18, Tryd.ntmps18
 go_wp2_with (first | ((with_reducible refine gate_callee (f := 45) rfl ?_); refine goesL_ (some 7) rfl rfl Tryd.func45 (by kernel_rfl) rfl #[.slice A0 l0.length c0, .slice A1 l1.length c1] rfl (by (try simp only [List.map_toArray, List.map_cons, List.map_nil]); first | done | rfl | (simp only [List.length_drop, List.length_take]; rfl)) ?_; (with_reducible refine (api_Entry_45.calls k _ _ l0 _ _ l1 t101 _ ?side1 ?side2 ?side3 ?side4 A3.out).mono ?_); (case side1 => repeat (first | exact HR0.out | (with_reducible refine Kd.C_alloc ?_ _) | (with_reducible refine Kd.C_drewN ?_ _) | (with_reducible refine Kd.C_drew ?_))); (case side2 => exact HC0.out); (case side3 => repeat (first | exact HR1.out | (with_reducible refine Kd.C_alloc ?_ _) | (with_reducible refine Kd.C_drewN ?_ _) | (with_reducible refine Kd.C_drew ?_))); (case side4 => exact HC1.out); rintro e w' ⟨rfl, ⟨nd, rfl⟩⟩; refine ⟨_, rfl, ?_⟩))
 go_ret
 exact ⟨by first | rfl | (simp; done) | (simp [*]; done), by repeat (first | exact Drawn0.refl _ | apply Drawn0.step)⟩
end Go.Proofs.YtcdmgdegohcmhaaDoor.PA
namespace Go.Proofs.YtcdmgdegohcmhaaDoor.PA
open Go.RowKit Go.Proofs.YtcdmgdegohcmhaaDoorW.PrintWords Go.Proofs.YtcdmgdegohcmhaaDoorW.PrintLast Go.Proofs.YtcdmgdegohcmhaaDoorW.PrintMore
attribute [local go_sem] max2_int min2_int max_two min_two max_three min_three max_four min_four   -- for this text's walks alone
set_option linter.unusedVariables false
set_option linter.unusedSimpArgs false
def num_Size.l0 : Nat → Int → Int → Option (Int)
 | 0, _, _ => none
 | k + 1, x0, x3 => if x0 > 127 then (num_Size.l0 k (x0 / 128) (wrap64 (x3 + 1))) else (some x3)
def num_Size.f (k : Nat) (a0 : Int) : Option (Int) := num_Size.l0 k (mn (mx a0 0) 4611686018427387903) 1
set_option maxHeartbeats 8000000 in
set_option maxRecDepth 100000 in
theorem num_Size.calls (k : Nat) (a0 : Int) (r : Int) (w : World) (h : num_Size.f k a0 = some r) :
  Calls Tryd.prog 68 #[.int .i64 a0] w fun e w' => e = .returned (.int .i64 r) ∧ Below w.heap.size w w' := by
 have HB := Aside0.mk (Below.refl w.heap.size w)
 have H : (num_Size.l0 k (mn (mx a0 0) 4611686018427387903) 1) = some r := h
 clear h
 obtain ⟨ji2, hji2⟩ : ∃ j_ : Int, (mx a0 0) = j_ := ⟨_, rfl⟩
 replace H : (num_Size.l0 k (mn (ji2) 4611686018427387903) 1) = some r := by first | (rw [hji2] at H; exact H) | (simp only [hji2] at H ⊢; exact H)
 (try (have hji2l : 0 ≤ ji2 := by (rw [← hji2]; unfold mx; (repeat' split) <;> omega)))
 (try (have hji2m : 0 ≤ ji2 := by omega))
 have hji2_ : (if a0 < 0 then 0 else a0) = ji2 := hji2
 obtain ⟨ji3, hji3⟩ : ∃ j_ : Int, (mn (ji2) 4611686018427387903) = j_ := ⟨_, rfl⟩
 replace H : (num_Size.l0 k ji3 1) = some r := by first | (rw [hji3] at H; exact H) | (simp only [hji3] at H ⊢; exact H)
 have hji3_ : (if 4611686018427387903 < (ji2) then 4611686018427387903 else (ji2)) = ji3 := hji3
 have H' := Aside0.mk H
 clear H
 go_enter Tryd.func68, Tryd.ntmps68
 go_wp2
 go_loopg [0, 3] k (fun kq v0 v3 w' => ∃ (x0_1 : Int) (x3_1 : Int), v0 = .int .i64 x0_1 ∧ v3 = .int .i64 x3_1 ∧ Aside0 (num_Size.l0 kq x0_1 x3_1 = some r) ∧ Aside0 (kq ≤ k) ∧ Aside0 (Below w.heap.size w w'))
 case atStart => exact ⟨(ji3), (1), (by first | rfl | (simp; done) | (simp only [← hji3] <;> (first | rfl | simp)) | (simp [*]; done)), (by first | rfl | (simp; done) | (simp [*]; done)), H', ⟨Nat.le_refl _⟩, ⟨by repeat (first | (with_reducible first | exact HB.out | apply below_alloc | apply pw_below_drewN | apply below_drew1) | exact HB.out)⟩⟩
 case round =>
  clear H'
  try clear p2
  obtain ⟨x0_1, x3_1, rfl, rfl, HA, HK1, HB⟩ := hrel
  cases gk with
  | zero => exact absurd HA.out (by simp [num_Size.l0])
  | succ k1 =>
   have H := HA.out
   clear HA
   simp only [num_Size.l0] at H
   by_cases c4 : x0_1 > 127
   ·rw [if_pos c4] at H
    have c4b0 : decide (127 < x0_1) = true := decide_eq_true c4
    clear c4
    have H' := Aside0.mk H
    clear H
    go_wp2
    go_roundg k1
    case measure => have := HK1.out; omega
    case rel => exact ⟨(x0_1 / 128), (wrap64 (x3_1 + 1)), (by first | rfl | (simp; done) | (simp [*]; done)), (by first | rfl | (simp; done) | (simp [*]; done)), H', ⟨by have := HK1.out; omega⟩, ⟨by repeat (first | (with_reducible first | exact HB.out | apply below_alloc | apply pw_below_drewN | apply below_drew1) | exact HB.out)⟩⟩
   ·rw [if_neg c4] at H
    have c4b0 : decide (127 < x0_1) = false := decide_eq_false c4
    clear c4
    obtain rfl := Option.some.inj H
    go_wp2
    go_ret
    exact ⟨by first | rfl | (simp [errW_none, errW_some] <;> rfl) | (simp only [← hji2, ← hji3]; first | rfl | (simp [errW_none, errW_some] <;> rfl)) | (simp [*, errW_none, errW_some] <;> rfl), by repeat (first | (with_reducible first | exact HB.out | apply below_alloc | apply pw_below_drewN | apply below_drew1) | exact HB.out)⟩
end Go.Proofs.YtcdmgdegohcmhaaDoor.PA
namespace Go.Proofs.YtcdmgdegohcmhaaDoor.PA
open Go.RowKit Go.Proofs.YtcdmgdegohcmhaaDoorW.PrintWords Go.Proofs.YtcdmgdegohcmhaaDoorW.PrintLast Go.Proofs.YtcdmgdegohcmhaaDoorW.PrintMore
attribute [local go_sem] max2_int min2_int max_two min_two max_three min_three max_four min_four
set_option linter.unusedVariables false
set_option linter.unusedSimpArgs false
def cmp_Compare_string.f (a0 : ByteArray) (a1 : ByteArray) : Option Int := some (if Op.bytesLess a0.toList a1.toList = true then (-1) else if (a0.toList == a1.toList) = true then 0 else 1)
set_option maxHeartbeats 1000000 in
set_option maxRecDepth 100000 in
theorem cmp_nan (a : ByteArray) (w : World) : Calls Tryd.prog 102 #[.string a] w fun e w' => e = .returned (.bool false) ∧ w' = w := by
 have q : (a.toList != a.toList) = false := bne_self_eq_false _
 go_enter Tryd.func102, Tryd.ntmps102
 go_wp2
 go_ret
 exact ⟨rfl, rfl⟩
set_option maxHeartbeats 1000000 in
set_option maxRecDepth 100000 in
theorem cmp_Compare_string.calls (a0 : ByteArray) (a1 : ByteArray) (r : Int) (w : World) (h : cmp_Compare_string.f a0 a1 = some r) :
  Calls Tryd.prog 90 #[.string a0, .string a1] w fun e w' => e = .returned (.int .i64 r) ∧ Drawn0 w w' := by
 obtain rfl := Option.some.inj h
 clear h
 cases h1 : Op.bytesLess a0.toList a1.toList with
 | true =>
  go_enter Tryd.func90, Tryd.ntmps90
  go_wp2_with (go_at_call 102; refine (cmp_nan _ _).mono ?_; rintro e w' ⟨rfl, rfl⟩)
  go_ret
  exact ⟨rfl, Drawn0.refl _⟩
 | false =>
  cases h2 : (a0.toList == a1.toList) with
  | true =>
   go_enter Tryd.func90, Tryd.ntmps90
   go_wp2_with (go_at_call 102; refine (cmp_nan _ _).mono ?_; rintro e w' ⟨rfl, rfl⟩)
   go_ret
   exact ⟨rfl, Drawn0.refl _⟩
  | false =>
   go_enter Tryd.func90, Tryd.ntmps90
   go_wp2_with (go_at_call 102; refine (cmp_nan _ _).mono ?_; rintro e w' ⟨rfl, rfl⟩)
   go_ret
   exact ⟨rfl, Drawn0.refl _⟩
end Go.Proofs.YtcdmgdegohcmhaaDoor.PA
namespace Go.Proofs.YtcdmgdegohcmhaaDoor.PA
open Go.RowKit Go.Proofs.YtcdmgdegohcmhaaDoorW.PrintWords Go.Proofs.YtcdmgdegohcmhaaDoorW.PrintLast Go.Proofs.YtcdmgdegohcmhaaDoorW.PrintMore
attribute [local go_sem] max2_int min2_int max_two min_two max_three min_three max_four min_four   -- for this text's walks alone
set_option linter.unusedVariables false
set_option linter.unusedSimpArgs false
def slices_Compare_string_string.l0 : Nat → List ByteArray → List ByteArray → List ByteArray → Int → Int → Option (Int)
 | 0, _, _, _, _, _ => none
 | k + 1, x0, x1, x9, x10, x11 => if x11 < x10 then (if 0 ≤ x11 then (if x11 < (x9.length : Int) then (if x11 ≥ (x1.length : Int) then (some 1) else (if x11 < (x1.length : Int) then ((cmp_Compare_string.f (rdOf ByteArray.empty x9 x11) (rdOf ByteArray.empty x1 x11)).bind fun t103 => (if t103 = 0 then (slices_Compare_string_string.l0 k x0 x1 x9 x10 (wrap64 (x11 + 1))) else (some t103))) else (none))) else (none)) else (none)) else (if (x0.length : Int) < (x1.length : Int) then (some (-1)) else (some 0))
def slices_Compare_string_string.f (k : Nat) (l0 : List ByteArray) (l1 : List ByteArray) : Option (Int) := slices_Compare_string_string.l0 k l0 l1 l0 (l0.length : Int) 0
set_option maxHeartbeats 8000000 in
set_option maxRecDepth 100000 in
theorem slices_Compare_string_string.calls (k : Nat) (A0 : Option Addr) (c0 : Nat) (l0 : List ByteArray) (A1 : Option Addr) (c1 : Nat) (l1 : List ByteArray) (r : Int) (w : World) (hr0 : Kd.C Kd.string w A0 l0.length l0) (hc0 : l0.length ≤ c0) (hr1 : Kd.C Kd.string w A1 l1.length l1) (hc1 : l1.length ≤ c1) (h : slices_Compare_string_string.f k l0 l1 = some r) :
  Calls Tryd.prog 62 #[.slice A0 l0.length c0, .slice A1 l1.length c1] w fun e w' => e = .returned (.int .i64 r) ∧ Drawn0 w w' := by
 have HR0 := Aside0.mk hr0
 have HC0 := Aside0.mk hc0
 clear hr0 hc0
 have HR1 := Aside0.mk hr1
 have HC1 := Aside0.mk hc1
 clear hr1 hc1
 have H : (slices_Compare_string_string.l0 k l0 l1 l0 (l0.length : Int) 0) = some r := h
 clear h
 have H' := Aside0.mk H
 clear H
 go_enter Tryd.func62, Tryd.ntmps62
 go_wp2
 go_loopg [11] k (fun kq v11 w' => ∃ (x11_1 : Int), v11 = .int .i64 x11_1 ∧ Aside0 (slices_Compare_string_string.l0 kq l0 l1 l0 (l0.length : Int) x11_1 = some r) ∧ Aside0 (kq ≤ k) ∧ Drawn0 w w')
 case atStart => exact ⟨(0), (by first | rfl | (simp; done) | (simp [*]; done)), H', ⟨Nat.le_refl _⟩, by repeat (first | exact Drawn0.refl _ | apply Drawn0.step)⟩
 case round =>
  clear H'
  try clear c1
  try clear p2
  obtain ⟨x11_1, rfl, HA, HK1, ⟨m1, rfl⟩⟩ := hrel
  cases gk with
  | zero => exact absurd HA.out (by simp [slices_Compare_string_string.l0])
  | succ k1 =>
   have H := HA.out
   clear HA
   simp only [slices_Compare_string_string.l0] at H
   by_cases c3 : x11_1 < (l0.length : Int)
   ·rw [if_pos c3] at H
    have c3b0 : decide (x11_1 < (l0.length : Int)) = true := decide_eq_true c3
    clear c3
    by_cases c4 : 0 ≤ x11_1
    ·rw [if_pos c4] at H
     have c4b0 : decide (0 ≤ x11_1) = true := decide_eq_true c4
     clear c4
     by_cases c5 : x11_1 < (l0.length : Int)
     ·rw [if_pos c5] at H
      have c5b0 : decide (x11_1 < (l0.length : Int)) = true := decide_eq_true c5
      clear c5
      by_cases c6 : x11_1 ≥ (l1.length : Int)
      ·rw [if_pos c6] at H
       have c6b0 : decide ((l1.length : Int) ≤ x11_1) = true := decide_eq_true c6
       clear c6
       obtain rfl := Option.some.inj H
       have p101 : 0 ≤ (x11_1 : Int) := of_decide_eq_true (by first | (with_reducible assumption) | assumption)
       have q101 : x11_1 < (l0.length : Int) := of_decide_eq_true (by first | (with_reducible assumption) | assumption)
       obtain ⟨ad101, e101, hx101_0⟩ := Kd.at_string HR0.out x11_1 p101 q101
       cases e101
       replace p101 := eq_true p101
       replace q101 := eq_true q101
       go_wp2
       go_ret
       exact ⟨by first | rfl | (simp; done) | (simp [*]; done), by repeat (first | exact Drawn0.refl _ | apply Drawn0.step)⟩
      ·rw [if_neg c6] at H
       have c6b0 : decide ((l1.length : Int) ≤ x11_1) = false := decide_eq_false c6
       clear c6
       by_cases c7 : x11_1 < (l1.length : Int)
       ·rw [if_pos c7] at H
        have c7b0 : decide (x11_1 < (l1.length : Int)) = true := decide_eq_true c7
        clear c7
        replace H := Option.bind_eq_some_iff.mp H
        obtain ⟨t103, A80, H⟩ := H
        replace H : (if t103 = 0 then (slices_Compare_string_string.l0 k1 l0 l1 l0 (l0.length : Int) (wrap64 (x11_1 + 1))) else (some t103)) = some r := H
        have A8 := Aside0.mk A80
        clear A80
        by_cases c9 : t103 = 0
        ·rw [if_pos c9] at H
         have c9b0 : (t103 == 0) = true := beq_iff_eq.mpr c9
         have c9b1 : (t103 != 0) = false := bne_eq_false_iff_eq.mpr c9
         clear c9
         have H' := Aside0.mk H
         clear H
         have p101 : 0 ≤ (x11_1 : Int) := of_decide_eq_true (by first | (with_reducible assumption) | assumption)
         have q101 : x11_1 < (l0.length : Int) := of_decide_eq_true (by first | (with_reducible assumption) | assumption)
         obtain ⟨ad101, e101, hx101_0⟩ := Kd.at_string HR0.out x11_1 p101 q101
         cases e101
         replace p101 := eq_true p101
         replace q101 := eq_true q101
         have p102 : 0 ≤ (x11_1 : Int) := of_decide_eq_true (by first | (with_reducible assumption) | assumption)
         have q102 : x11_1 < (l1.length : Int) := of_decide_eq_true (by first | (with_reducible assumption) | assumption)
         obtain ⟨ad102, e102, hx102_0⟩ := Kd.at_string HR1.out x11_1 p102 q102
         cases e102
         replace p102 := eq_true p102
         replace q102 := eq_true q102
         go_wp2_with (first | ((with_reducible refine gate_callee (f := 90) rfl ?_); refine goesL_ (some 26) rfl rfl Tryd.func90 (by kernel_rfl) rfl #[.string (rdOf ByteArray.empty l0 x11_1), .string (rdOf ByteArray.empty l1 x11_1)] rfl (by (try simp only [List.map_toArray, List.map_cons, List.map_nil]); first | done | rfl | (simp only [List.length_drop, List.length_take]; rfl)) ?_; (with_reducible refine (cmp_Compare_string.calls (rdOf ByteArray.empty l0 x11_1) (rdOf ByteArray.empty l1 x11_1) t103 _ A8.out).mono ?_); rintro e w' ⟨rfl, ⟨nd, rfl⟩⟩; refine ⟨_, rfl, ?_⟩))
         go_roundg k1
         case measure => have := HK1.out; omega
         case rel => exact ⟨(wrap64 (x11_1 + 1)), (by first | rfl | (simp; done) | (simp [*]; done)), H', ⟨by have := HK1.out; omega⟩, by repeat (first | exact Drawn0.refl _ | apply Drawn0.step)⟩
        ·rw [if_neg c9] at H
         have c9b0 : (t103 == 0) = false := beq_eq_false_iff_ne.mpr c9
         have c9b1 : (t103 != 0) = true := bne_iff_ne.mpr c9
         obtain rfl := Option.some.inj H
         have p101 : 0 ≤ (x11_1 : Int) := of_decide_eq_true (by first | (with_reducible assumption) | assumption)
         have q101 : x11_1 < (l0.length : Int) := of_decide_eq_true (by first | (with_reducible assumption) | assumption)
         obtain ⟨ad101, e101, hx101_0⟩ := Kd.at_string HR0.out x11_1 p101 q101
         cases e101
         replace p101 := eq_true p101
         replace q101 := eq_true q101
         have p102 : 0 ≤ (x11_1 : Int) := of_decide_eq_true (by first | (with_reducible assumption) | assumption)
         have q102 : x11_1 < (l1.length : Int) := of_decide_eq_true (by first | (with_reducible assumption) | assumption)
         obtain ⟨ad102, e102, hx102_0⟩ := Kd.at_string HR1.out x11_1 p102 q102
         cases e102
         replace p102 := eq_true p102
         replace q102 := eq_true q102
         go_wp2_with (first | ((with_reducible refine gate_callee (f := 90) rfl ?_); refine goesL_ (some 26) rfl rfl Tryd.func90 (by kernel_rfl) rfl #[.string (rdOf ByteArray.empty l0 x11_1), .string (rdOf ByteArray.empty l1 x11_1)] rfl (by (try simp only [List.map_toArray, List.map_cons, List.map_nil]); first | done | rfl | (simp only [List.length_drop, List.length_take]; rfl)) ?_; (with_reducible refine (cmp_Compare_string.calls (rdOf ByteArray.empty l0 x11_1) (rdOf ByteArray.empty l1 x11_1) t103 _ A8.out).mono ?_); rintro e w' ⟨rfl, ⟨nd, rfl⟩⟩; refine ⟨_, rfl, ?_⟩))
         go_ret
         exact ⟨by first | rfl | (simp; done) | (simp [*]; done), by repeat (first | exact Drawn0.refl _ | apply Drawn0.step)⟩
       ·rw [if_neg c7] at H
        exact absurd H (by simp)
     ·rw [if_neg c5] at H
      exact absurd H (by simp)
    ·rw [if_neg c4] at H
     exact absurd H (by simp)
   ·rw [if_neg c3] at H
    have c3b0 : decide (x11_1 < (l0.length : Int)) = false := decide_eq_false c3
    clear c3
    by_cases c10 : (l0.length : Int) < (l1.length : Int)
    ·rw [if_pos c10] at H
     have c10b0 : decide ((l0.length : Int) < (l1.length : Int)) = true := decide_eq_true c10
     have c10b1 : decide (l0.length < l1.length) = true := decide_eq_true (Int.ofNat_lt.mp c10)
     clear c10
     obtain rfl := Option.some.inj H
     go_wp2
     go_ret
     exact ⟨by first | rfl | (simp; done) | (simp [*]; done), by repeat (first | exact Drawn0.refl _ | apply Drawn0.step)⟩
    ·rw [if_neg c10] at H
     have c10b0 : decide ((l0.length : Int) < (l1.length : Int)) = false := decide_eq_false c10
     have c10b1 : decide (l0.length < l1.length) = false := decide_eq_false (fun h => c10 (Int.ofNat_lt.mpr h))
     clear c10
     obtain rfl := Option.some.inj H
     go_wp2
     go_ret
     exact ⟨by first | rfl | (simp; done) | (simp [*]; done), by repeat (first | exact Drawn0.refl _ | apply Drawn0.step)⟩
end Go.Proofs.YtcdmgdegohcmhaaDoor.PA
namespace Go.Proofs.YtcdmgdegohcmhaaDoor.PA
open Go.RowKit Go.Proofs.YtcdmgdegohcmhaaDoorW.PrintWords Go.Proofs.YtcdmgdegohcmhaaDoorW.PrintLast Go.Proofs.YtcdmgdegohcmhaaDoorW.PrintMore
attribute [local go_sem] max2_int min2_int max_two min_two max_three min_three max_four min_four
set_option linter.unusedVariables false
set_option linter.unusedSimpArgs false
theorem wr64 (x : Int) (h1 : -9223372036854775808 ≤ x) (h2 : x < 9223372036854775808) : wrap64 x = x := by
 unfold wrap64
 omega
def splitTo (s : ByteArray) : Nat → List ByteArray × Nat
 | 0 => ([], 0)
 | k + 1 => if bt s (k : Int) = 47 then ((splitTo s k).1 ++ [s.extract (splitTo s k).2 k], k + 1) else splitTo s k
def splitL (s : ByteArray) : List ByteArray := if s.size = 0 then [] else (splitTo s s.size).1 ++ [s.extract (splitTo s s.size).2 s.size]
theorem splitTo_hit (s : ByteArray) (k : Nat) (h : bt s (k : Int) = 47) : splitTo s (k + 1) = ((splitTo s k).1 ++ [s.extract (splitTo s k).2 k], k + 1) := by
 rw [splitTo, if_pos h]
theorem splitTo_miss (s : ByteArray) (k : Nat) (h : ¬ bt s (k : Int) = 47) : splitTo s (k + 1) = splitTo s k := by
 rw [splitTo, if_neg h]
theorem splitTo_le (s : ByteArray) : ∀ k, (splitTo s k).2 ≤ k
 | 0 => Nat.le_refl _
 | k + 1 => by
  have := splitTo_le s k
  unfold splitTo
  split
  ·exact Nat.le_refl _
  ·omega
theorem splitTo_len (s : ByteArray) : ∀ k, (splitTo s k).1.length ≤ k
 | 0 => Nat.le_refl _
 | k + 1 => by
  have := splitTo_len s k
  unfold splitTo
  split
  ·simp
   omega
  ·omega
theorem splitTo_skip (s : ByteArray) (p : Nat) : ∀ m, (∀ j, j < m → ¬ bt s ((p + j : Nat) : Int) = 47) → splitTo s (p + m) = splitTo s p
 | 0, _ => rfl
 | m + 1, h => by
  rw [← Nat.add_assoc, splitTo_miss s (p + m) (h m (by omega))]
  exact splitTo_skip s p m (fun j hj => h j (by omega))
theorem bt_get (s : ByteArray) (k : Nat) (h : k < s.size) : bt s (k : Int) = ((s.get! k).toNat : Int) := by
 have e : s.get! k = s[k]'h := by
  simp [ByteArray.get!, getElem!_pos, h]
  rfl
 rw [e, bt, dif_pos (by simpa using h)]
 rfl
theorem dec47 (s : ByteArray) (p : Nat) (h : p < s.size) : 1 ≤ (Utf8.decode s p).2 ∧ p + (Utf8.decode s p).2 ≤ s.size ∧ (Utf8.decode s p).1 < 4294967296 ∧ (bt s (p : Int) = 47 → (Utf8.decode s p) = (47, 1)) ∧ (¬ bt s (p : Int) = 47 → ¬ (Utf8.decode s p).1 = 47 ∧ splitTo s (p + (Utf8.decode s p).2) = splitTo s p) := by
 have hb := bt_get s p h
 have key : 1 ≤ (Utf8.decode s p).2 ∧ p + (Utf8.decode s p).2 ≤ s.size ∧ (Utf8.decode s p).1 < 4294967296 ∧ ((s.get! p).toNat = 47 → (Utf8.decode s p) = (47, 1)) ∧ (¬ (s.get! p).toNat = 47 → ¬ (Utf8.decode s p).1 = 47 ∧ ∀ j, 1 ≤ j → j < (Utf8.decode s p).2 → p + j < s.size ∧ ¬ (s.get! (p + j)).toNat = 47) := by
  have l0 : (s.get! (p + 0)).toNat < 256 := UInt8.toNat_lt _
  have l1 : (s.get! (p + 1)).toNat < 256 := UInt8.toNat_lt _
  have l2 : (s.get! (p + 2)).toNat < 256 := UInt8.toNat_lt _
  have l3 : (s.get! (p + 3)).toNat < 256 := UInt8.toNat_lt _
  have z : s.get! p = s.get! (p + 0) := rfl
  have r : Utf8.runeError = 65533 := rfl
  rw [z]
  have J : ∀ (n j : Nat), 1 ≤ j → j < n → n ≤ 4 → j = 1 ∨ j = 2 ∨ j = 3 := by omega
  unfold Utf8.decode
  simp only [Bool.and_eq_true, decide_eq_true_eq, beq_iff_eq]
  repeat' split
  all_goals first
   | (refine ⟨by dsimp only; omega, by dsimp only; omega, by dsimp only; omega, fun hh => by first | omega | (rw [hh]; done) | (exact absurd hh (by omega)), fun hh => ⟨by dsimp only; omega, fun j hj hj2 => ?_⟩⟩; dsimp only at hj2; omega)
   | (refine ⟨by dsimp only; omega, by dsimp only; omega, by dsimp only; omega, fun hh => by first | omega | (rw [hh]; done) | (exact absurd hh (by omega)), fun hh => ⟨by dsimp only; omega, fun j hj hj2 => ?_⟩⟩; dsimp only at hj2; rcases J _ j hj hj2 (by omega) with rfl | rfl | rfl <;> omega)
 obtain ⟨k1, k2, k3, k4, k5⟩ := key
 refine ⟨k1, k2, k3, fun hh => k4 (by omega), fun hh => ?_⟩
 obtain ⟨m1, m2⟩ := k5 (by omega)
 refine ⟨m1, splitTo_skip s p _ (fun j hj => ?_)⟩
 cases j with
 | zero => exact hh
 | succ j =>
  obtain ⟨q1, q2⟩ := m2 (j + 1) (by omega) hj
  rw [bt_get s _ q1]
  omega
end Go.Proofs.YtcdmgdegohcmhaaDoor.PA
namespace Go.Proofs.YtcdmgdegohcmhaaDoor.PA
open Go.RowKit Go.Proofs.YtcdmgdegohcmhaaDoorW.PrintWords Go.Proofs.YtcdmgdegohcmhaaDoorW.PrintLast Go.Proofs.YtcdmgdegohcmhaaDoorW.PrintMore
attribute [local go_sem] max2_int min2_int max_two min_two max_three min_three max_four min_four
set_option linter.unusedVariables false
set_option linter.unusedSimpArgs false
def path_Split.f (a0 : ByteArray) : Option (List ByteArray) := if a0.size < 4398046511104 then some (splitL a0) else none
def SPrun (s : ByteArray) (w0 wr : World) (v : Value) (l : List ByteArray) (pos : Nat) : Prop :=
 Below w0.heap.size w0 wr ∧ wr.heap[w0.heap.size]? = some (.stringIter s pos) ∧ Kd.R Kd.string 9 wr w0.heap.size (fun k => w0.heap.size < k) v l
theorem iter_pos {w : World} {k : Nat} {s : ByteArray} {p : Nat} (h : w.heap[k]? = some (.stringIter s p)) : w.iterPos k = p := by simp [World.iterPos, h]
theorem SPrun.start (s : ByteArray) (w : World) : SPrun s w (w.iter s 0) (.slice none 0 0) [] 0 :=
 ⟨below_alloc (Below.refl _ _) _, World.iter_heap w s 0, Kd.R_nil _ _ _ _ _⟩
theorem SPrun.move {s : ByteArray} {w0 wr : World} {v : Value} {l : List ByteArray} {pos : Nat} (h : SPrun s w0 wr v l pos) (pos' : Nat) : SPrun s w0 (wr.iterAt w0.heap.size s pos') v l pos' :=
 ⟨Lib.below_iterAt h.1 (Nat.le_refl _) s pos', Lib.iterAt_heap wr _ s pos pos' h.2.1, Kd.R_move h.2.2 (fun k hk => Lib.iterAt_other wr _ k s pos' (by omega))⟩
theorem SPrun.more {s : ByteArray} {w0 wr w1 : World} {v v1 : Value} {l l1 : List ByteArray} {pos : Nat} (h : SPrun s w0 wr v l pos) (ho : Kd.R Kd.string 9 w1 w0.heap.size (fun k => w0.heap.size < k) v1 l1) (hb : Below w0.heap.size w0 w1) (hg : wr.grownBy w1 v.ownBlock) : SPrun s w0 w1 v1 l1 pos := by
 refine ⟨hb, ?_, ho⟩
 have hlt := blk_lt h.2.1
 have hne : some w0.heap.size ≠ v.ownBlock := by
  intro he
  exact Nat.lt_irrefl _ (h.2.2.1 _ he.symm)
 rw [← h.2.1]
 exact hg.block _ hlt hne
set_option maxHeartbeats 2000000 in
set_option maxRecDepth 100000 in
theorem path_Split.calls (a0 : ByteArray) (r : List ByteArray) (w : World) (h : path_Split.f a0 = some r) :
  Calls Tryd.prog 63 #[.string a0] w fun e w' => ∃ v0_ : Value, e = .returned (v0_) ∧ Kd.R Kd.string 9 w' w.heap.size (fun _ => True) v0_ r ∧ Below w.heap.size w w' := by
 unfold path_Split.f at h
 by_cases hs : a0.size < 4398046511104
 ·rw [if_pos hs] at h
  obtain rfl := Option.some.inj h
  clear h
  by_cases c2 : a0.toList = ([] : List UInt8)
  ·have c2b : (a0.toList == ([] : List UInt8)) = true := beq_iff_eq.mpr c2
   have hz : a0.size = 0 := by
    have h1 := congrArg List.length c2
    rw [ByteArray.toList_eq, data_length] at h1
    exact h1
   have e : splitL a0 = [] := by rw [splitL, if_pos hz]
   rw [e]
   go_enter Tryd.func63, Tryd.ntmps63
   go_wp2
   go_ret
   exact ⟨_, rfl, Kd.R_nil _ _ _ _ _, Below.refl _ _⟩
  ·have c2b : (a0.toList == ([] : List UInt8)) = false := beq_eq_false_iff_ne.mpr c2
   go_enter Tryd.func63, Tryd.ntmps63
   go_wp2
   go_loopw [3, 4] (fun v3 v4 wr => ∃ pos : Nat, pos ≤ a0.size ∧ v4 = .int .i64 (splitTo a0 pos).2 ∧ Aside0 (SPrun a0 w wr v3 (splitTo a0 pos).1 pos)) (fun _ _ wr => a0.size - wr.iterPos w.heap.size)
   case atStart => exact ⟨0, by omega, rfl, ⟨SPrun.start a0 w⟩⟩
   case round =>
    obtain ⟨pos, hp, rfl, HS⟩ := hrel
    have hfle := splitTo_le a0 pos
    have hlen := splitTo_len a0 pos
    have f0 : (0 ≤ ((splitTo a0 pos).2 : Int)) = True := eq_true (by omega)
    have f1 : (((splitTo a0 pos).2 : Int) ≤ (pos : Int)) = True := eq_true (by omega)
    have f2 : ((pos : Int) ≤ (a0.size : Int)) = True := eq_true (by omega)
    have f3 : (((splitTo a0 pos).2 : Int) ≤ (a0.size : Int)) = True := eq_true (by omega)
    have hpos0 := iter_pos HS.out.2.1
    by_cases hp2 : pos < a0.size
    ·have hnx := fun ty => Lib.run_next_any_at (P := Tryd.prog) wr w.heap.size a0 pos ty HS.out.2.1 hp2
     obtain ⟨d1, d2, d3, d4, d5⟩ := dec47 a0 pos hp2
     by_cases hb : bt a0 (pos : Int) = 47
     ·have e := d4 hb
      rw [e] at hnx
      have HM := Aside0.mk (HS.out.move (pos + 1))
      have hh := splitTo_hit a0 pos hb
      clear HS d1 d2 d3 d4 d5 e
      go_wp2_with (first | ((with_reducible refine gate_builtin (b := .append) (xs := #[.tmp 17, .tmp 22]) rfl ?_); at_builtin; refine Kd.R_append Kd.string (w0 := w) w.heap.size rfl (.tmp 17) (.tmp 22) 71 9 (.string ⟨#[]⟩) 16 rfl Tryd.underlying71 info9 rfl (by decide) (by omega) u3 (splitTo a0 pos).1 (a0.extract (splitTo a0 pos).2 pos) [.string (a0.extract (splitTo a0 pos).2 pos)] (fun k => w.heap.size < k) (fun _ => False) rfl rfl rfl (fun _ hk => hk.elim) (fun k hk => Nat.lt_of_lt_of_le (blk_lt HM.out.2.1) hk) HM.out.2.2 HM.out.1 (below_size HM.out.1) (by omega) ?_; intro v1 w1 ho hb1 hg hat; have HN := Aside0.mk (HM.out.more ho hb1 hg); clear ho hb1 hg hat))
      go_roundw
      case rel => exact ⟨pos + 1, by omega, by rw [hh]; rfl, ⟨by rw [hh]; exact HN.out⟩⟩
      case measure => rw [iter_pos HN.out.2.1, hpos0]; omega
     ·obtain ⟨e1, e2⟩ := d5 hb
      have HM := Aside0.mk (HS.out.move (pos + (Utf8.decode a0 pos).2))
      clear HS d4 d5
      generalize (Utf8.decode a0 pos).1 = ru at *
      generalize (Utf8.decode a0 pos).2 = wd at *
      have hru : (((ru : Nat) : Int) == 47) = false := beq_eq_false_iff_ne.mpr (by omega)
      go_wp2
      go_roundw
      case rel => exact ⟨pos + wd, by omega, by rw [e2], ⟨by rw [e2]; exact HM.out⟩⟩
      case measure => rw [iter_pos HM.out.2.1, hpos0]; omega
    ·have hnx := fun ty => Lib.run_next_end_at (P := Tryd.prog) wr w.heap.size a0 pos ty HS.out.2.1 hp2
     obtain rfl : pos = a0.size := by omega
     go_wp2_with (first | ((with_reducible refine gate_builtin (b := .append) (xs := #[.tmp 26, .tmp 30]) rfl ?_); at_builtin; refine Kd.R_append Kd.string (w0 := w) w.heap.size rfl (.tmp 26) (.tmp 30) 71 9 (.string ⟨#[]⟩) 16 rfl Tryd.underlying71 info9 rfl (by decide) (by omega) u3 (splitTo a0 a0.size).1 (a0.extract (splitTo a0 a0.size).2 a0.size) [.string (a0.extract (splitTo a0 a0.size).2 a0.size)] (fun k => w.heap.size < k) (fun _ => False) rfl rfl rfl (fun _ hk => hk.elim) (fun k hk => Nat.lt_of_lt_of_le (blk_lt HS.out.2.1) hk) HS.out.2.2 HS.out.1 (below_size HS.out.1) (by omega) ?_; intro v1 w1 ho hb1 hg hat; have HN := Aside0.mk (HS.out.more ho hb1 hg); clear ho hb1 hg hat))
     go_ret
     have e : splitL a0 = (splitTo a0 a0.size).1 ++ [a0.extract (splitTo a0 a0.size).2 a0.size] := by
      rw [splitL, if_neg]
      intro h0
      refine c2 (List.eq_nil_of_length_eq_zero ?_)
      rw [ByteArray.toList_eq, data_length]
      exact h0
     rw [e]
     exact ⟨_, rfl, Kd.R_mono HN.out.2.2 (fun _ _ => trivial), HN.out.1⟩
 ·rw [if_neg hs] at h
  exact absurd h (by simp)
end Go.Proofs.YtcdmgdegohcmhaaDoor.PA
namespace Go.Proofs.YtcdmgdegohcmhaaDoor.PA
open Go.RowKit Go.Proofs.YtcdmgdegohcmhaaDoorW.PrintWords Go.Proofs.YtcdmgdegohcmhaaDoorW.PrintLast Go.Proofs.YtcdmgdegohcmhaaDoorW.PrintMore
attribute [local go_sem] max2_int min2_int max_two min_two max_three min_three max_four min_four   -- for this text's walks alone
set_option linter.unusedVariables false
set_option linter.unusedSimpArgs false
def path_Less.f (k : Nat) (a0 : ByteArray) (a1 : ByteArray) : Option (Bool) := (path_Split.f a0).bind fun t101 => ((path_Split.f a1).bind fun t104 => ((slices_Compare_string_string.f k t101 t104).bind fun t107 => (some (decide (t107 < 0)))))
set_option maxHeartbeats 8000000 in
set_option maxRecDepth 100000 in
theorem path_Less.calls (k : Nat) (a0 : ByteArray) (a1 : ByteArray) (r : Bool) (w : World) (h : path_Less.f k a0 a1 = some r) :
  Calls Tryd.prog 29 #[.string a0, .string a1] w fun e w' => e = .returned (.bool r) ∧ Below w.heap.size w w' := by
 have HB := Aside0.mk (Below.refl w.heap.size w)
 have H : ((path_Split.f a0).bind fun t101 => ((path_Split.f a1).bind fun t104 => ((slices_Compare_string_string.f k t101 t104).bind fun t107 => (some (decide (t107 < 0)))))) = some r := h
 clear h
 replace H := Option.bind_eq_some_iff.mp H
 obtain ⟨t101, A30, H⟩ := H
 replace H : ((path_Split.f a1).bind fun t104 => ((slices_Compare_string_string.f k t101 t104).bind fun t107 => (some (decide (t107 < 0))))) = some r := H
 have A3 := Aside0.mk A30
 clear A30
 replace H := Option.bind_eq_some_iff.mp H
 obtain ⟨t104, A40, H⟩ := H
 replace H : ((slices_Compare_string_string.f k t101 t104).bind fun t107 => (some (decide (t107 < 0)))) = some r := H
 have A4 := Aside0.mk A40
 clear A40
 replace H := Option.bind_eq_some_iff.mp H
 obtain ⟨t107, A50, H⟩ := H
 replace H : (some (decide (t107 < 0))) = some r := H
 have A5 := Aside0.mk A50
 clear A50
 obtain rfl := Option.some.inj H
 go_enter Tryd.func29, Tryd.ntmps29
 go_wp2_with (first | ((with_reducible refine gate_callee (f := 63) rfl ?_); refine goesL_ (some 6) rfl rfl Tryd.func63 (by kernel_rfl) rfl #[.string a0] rfl (by (try simp only [List.map_toArray, List.map_cons, List.map_nil]); first | done | rfl | (simp only [List.length_drop, List.length_take]; rfl)) ?_; (with_reducible refine (path_Split.calls a0 t101 _ A3.out).mono ?_); rintro e w6 ⟨v102, rfl, ho0, hb⟩; refine ⟨_, rfl, ?_⟩; have n0_ := Aside0.mk (Kd.R_lower ho0 (below_size (by repeat (first | (with_reducible first | exact HB.out | apply below_alloc | apply pw_below_drewN | apply below_drew1) | exact HB.out)))); have n1_ := Aside0.mk (below_step (by repeat (first | (with_reducible first | exact HB.out | apply below_alloc | apply pw_below_drewN | apply below_drew1) | exact HB.out)) hb); clear HB; have HO103 := n0_; have HB := n1_; clear n0_ n1_; (try clear hb); (try clear hb2); (try clear hk); (try clear hi); (try clear ho0)) | ((with_reducible refine gate_callee (f := 63) rfl ?_); refine goesL_ (some 8) rfl rfl Tryd.func63 (by kernel_rfl) rfl #[.string a1] rfl (by (try simp only [List.map_toArray, List.map_cons, List.map_nil]); first | done | rfl | (simp only [List.length_drop, List.length_take]; rfl)) ?_; (with_reducible refine (path_Split.calls a1 t104 _ A4.out).mono ?_); rintro e w7 ⟨v105, rfl, ho0, hb⟩; refine ⟨_, rfl, ?_⟩; have n0_ := Aside0.mk (Kd.R_elder' (by (with_reducible repeat (first | apply Kd.R_alloc | apply Kd.R_drewN | apply Kd.R_drew)); exact HO103.out) (Kd.R_base ho0) hb); have n1_ := Aside0.mk (Kd.R_lower (Kd.R_new' ho0 (Kd.R_lt (by (with_reducible repeat (first | apply Kd.R_alloc | apply Kd.R_drewN | apply Kd.R_drew)); exact HO103.out))) (below_size (by repeat (first | (with_reducible first | exact HB.out | apply below_alloc | apply pw_below_drewN | apply below_drew1) | exact HB.out)))); have n2_ := Aside0.mk (below_step (by repeat (first | (with_reducible first | exact HB.out | apply below_alloc | apply pw_below_drewN | apply below_drew1) | exact HB.out)) hb); clear HO103; clear HB; have HO103 := n0_; have HO106 := n1_; have HB := n2_; clear n0_ n1_ n2_; (try clear hb); (try clear hb2); (try clear hk); (try clear hi); (try clear ho0); obtain ⟨Ao8, co8, eo8⟩ := Kd.R_slice HO103.out; subst eo8; obtain ⟨Ao9, co9, eo9⟩ := Kd.R_slice HO106.out; subst eo9) | ((with_reducible refine gate_callee (f := 62) rfl ?_); refine goesL_ (some 9) rfl rfl Tryd.func62 (by kernel_rfl) rfl #[.slice Ao8 t101.length co8, .slice Ao9 t104.length co9] rfl (by (try simp only [List.map_toArray, List.map_cons, List.map_nil]); first | done | rfl | (simp only [List.length_drop, List.length_take]; rfl)) ?_; (with_reducible refine (slices_Compare_string_string.calls k _ _ t101 _ _ t104 t107 _ ?side1 ?side2 ?side3 ?side4 A5.out).mono ?_); (case side1 => repeat (first | exact (Kd.R_reads' HO103.out).2.2 | (with_reducible refine Kd.C_alloc ?_ _) | (with_reducible refine Kd.C_drewN ?_ _) | (with_reducible refine Kd.C_drew ?_))); (case side2 => exact (Kd.R_reads' HO103.out).2.1); (case side3 => repeat (first | exact (Kd.R_reads' HO106.out).2.2 | (with_reducible refine Kd.C_alloc ?_ _) | (with_reducible refine Kd.C_drewN ?_ _) | (with_reducible refine Kd.C_drew ?_))); (case side4 => exact (Kd.R_reads' HO106.out).2.1); rintro e w' ⟨rfl, ⟨nd, rfl⟩⟩; refine ⟨_, rfl, ?_⟩))
 go_ret
 exact ⟨by first | rfl | (simp [errW_none, errW_some] <;> rfl) | (simp [*, errW_none, errW_some] <;> rfl), by repeat (first | (with_reducible first | exact HB.out | apply below_alloc | apply pw_below_drewN | apply below_drew1) | exact HB.out)⟩
end Go.Proofs.YtcdmgdegohcmhaaDoor.PA
namespace Go.Proofs.YtcdmgdegohcmhaaDoor.PA
open Go.RowKit Go.Proofs.YtcdmgdegohcmhaaDoorW.PrintWords Go.Proofs.YtcdmgdegohcmhaaDoorW.PrintLast Go.Proofs.YtcdmgdegohcmhaaDoorW.PrintMore
attribute [local go_sem] max2_int min2_int max_two min_two max_three min_three max_four min_four   -- for this text's walks alone
set_option linter.unusedVariables false
set_option linter.unusedSimpArgs false
end Go.Proofs.YtcdmgdegohcmhaaDoor.PA
namespace Go.Proofs.YtcdmgdegohcmhaaDoor.PA
open Go.RowKit Go.Proofs.YtcdmgdegohcmhaaDoorW.PrintWords Go.Proofs.YtcdmgdegohcmhaaDoorW.PrintLast Go.Proofs.YtcdmgdegohcmhaaDoorW.PrintMore
attribute [local go_sem] max2_int min2_int max_two min_two max_three min_three max_four min_four   -- for this text's walks alone
set_option linter.unusedVariables false
set_option linter.unusedSimpArgs false
end Go.Proofs.YtcdmgdegohcmhaaDoor.PA
namespace Go.Proofs.YtcdmgdegohcmhaaDoor.PA
open Go.RowKit Go.Proofs.YtcdmgdegohcmhaaDoorW.PrintWords Go.Proofs.YtcdmgdegohcmhaaDoorW.PrintLast Go.Proofs.YtcdmgdegohcmhaaDoorW.PrintMore
attribute [local go_sem] max2_int min2_int max_two min_two max_three min_three max_four min_four   -- for this text's walks alone
set_option linter.unusedVariables false
set_option linter.unusedSimpArgs false
def remoraref13_Split.l0 : Nat → ByteArray → List ByteArray → Int → Int → Option (List ByteArray)
 | 0, _, _, _, _ => none
 | k + 1, x0, x3, x4, x5 => if x5 ≤ (x0.size : Int) then (if x5 = (x0.size : Int) then (if 0 ≤ x4 then (if x4 ≤ x5 then (if x3.length < 8796093022208 then (remoraref13_Split.l0 k x0 (x3 ++ [x0.extract (x4 : Int).toNat (x5 : Int).toNat]) (wrap64 (x5 + 1)) (wrap64 (x5 + 1))) else (none)) else (none)) else (none)) else (if 0 ≤ x5 then (if x5 < (x0.size : Int) then (if (bt x0 x5) = 47 then (if 0 ≤ x4 then (if x4 ≤ x5 then (if x3.length < 8796093022208 then (remoraref13_Split.l0 k x0 (x3 ++ [x0.extract (x4 : Int).toNat (x5 : Int).toNat]) (wrap64 (x5 + 1)) (wrap64 (x5 + 1))) else (none)) else (none)) else (none)) else (remoraref13_Split.l0 k x0 x3 x4 (wrap64 (x5 + 1)))) else (none)) else (none))) else (some x3)
def remoraref13_Split.f (k : Nat) (a0 : ByteArray) : Option (List ByteArray) := if a0.toList = ([] : List UInt8) then (some ([] : List ByteArray)) else (remoraref13_Split.l0 k a0 ([] : List ByteArray) 0 0)
set_option maxHeartbeats 8000000 in
set_option maxRecDepth 100000 in
theorem remoraref13_Split.calls (k : Nat) (a0 : ByteArray) (r : List ByteArray) (w : World) (h : remoraref13_Split.f k a0 = some r) :
  Calls Tryd.prog 58 #[.string a0] w fun e w' => ∃ v0_ : Value, e = .returned (v0_) ∧ Kd.R Kd.string 9 w' w.heap.size (fun _ => True) v0_ r ∧ Below w.heap.size w w' := by
 have HB := Aside0.mk (Below.refl w.heap.size w)
 have H : (if a0.toList = ([] : List UInt8) then (some ([] : List ByteArray)) else (remoraref13_Split.l0 k a0 ([] : List ByteArray) 0 0)) = some r := h
 clear h
 by_cases c2 : a0.toList = ([] : List UInt8)
 ·rw [if_pos c2] at H
  have c2b0 : (a0.toList == ([] : List UInt8)) = true := beq_iff_eq.mpr c2
  have c2b1 : (a0.toList != ([] : List UInt8)) = false := bne_eq_false_iff_eq.mpr c2
  clear c2
  obtain rfl := Option.some.inj H
  go_enter Tryd.func58, Tryd.ntmps58
  go_wp2
  go_ret
  exact ⟨_, by first | rfl | (simp [errW_none, errW_some] <;> rfl) | (simp [*, errW_none, errW_some] <;> rfl), by first | exact Kd.R_nil _ _ _ _ _ | exact Kd.N_nil _ _ _ _ _ | exact Kd.V_nil _ _ _ _ _ | exact Kd.Q_nil _ _ _ _ _ | exact Kd.S_nil _ _ _ _ _, by repeat (first | (with_reducible first | exact HB.out | apply below_alloc | apply pw_below_drewN | apply below_drew1) | exact HB.out)⟩
 ·rw [if_neg c2] at H
  have c2b0 : (a0.toList == ([] : List UInt8)) = false := beq_eq_false_iff_ne.mpr c2
  have c2b1 : (a0.toList != ([] : List UInt8)) = true := bne_iff_ne.mpr c2
  have H' := Aside0.mk H
  clear H
  go_enter Tryd.func58, Tryd.ntmps58
  go_wp2
  go_loopg [3, 4, 5] k (fun kq v3 v4 v5 w' => ∃ (x3_1 : List ByteArray) (x4_1 : Int) (x5_1 : Int), v4 = .int .i64 x4_1 ∧ v5 = .int .i64 x5_1 ∧ Aside0 (remoraref13_Split.l0 kq a0 x3_1 x4_1 x5_1 = some r) ∧ Aside0 (kq ≤ k) ∧ Aside0 (Kd.R Kd.string 9 w' w.heap.size (fun _ => True) v3 x3_1) ∧ Aside0 (Below w.heap.size w w'))
  case atStart => exact ⟨(([] : List ByteArray)), (0), (0), (by first | rfl | (simp; done) | (simp [*]; done)), (by first | rfl | (simp; done) | (simp [*]; done)), H', ⟨Nat.le_refl _⟩, ⟨by first | exact Kd.R_nil _ _ _ _ _ | exact Kd.N_nil _ _ _ _ _ | exact Kd.V_nil _ _ _ _ _ | exact Kd.Q_nil _ _ _ _ _ | exact Kd.S_nil _ _ _ _ _⟩, ⟨by repeat (first | (with_reducible first | exact HB.out | apply below_alloc | apply pw_below_drewN | apply below_drew1) | exact HB.out)⟩⟩
  case round =>
   clear H'
   try clear c2
   try clear c2b0
   try clear c2b1
   try clear p2
   obtain ⟨x3_1, x4_1, x5_1, rfl, rfl, HA, HK1, HO_3, HB⟩ := hrel
   cases gk with
   | zero => exact absurd HA.out (by simp [remoraref13_Split.l0])
   | succ k1 =>
    have H := HA.out
    clear HA
    simp only [remoraref13_Split.l0] at H
    by_cases c3 : x5_1 ≤ (a0.size : Int)
    ·rw [if_pos c3] at H
     have c3b0 : decide (x5_1 ≤ (a0.size : Int)) = true := decide_eq_true c3
     clear c3
     by_cases c4 : x5_1 = (a0.size : Int)
     ·rw [if_pos c4] at H
      have c4b0 : (x5_1 == (a0.size : Int)) = true := beq_iff_eq.mpr c4
      have c4b1 : (x5_1 != (a0.size : Int)) = false := bne_eq_false_iff_eq.mpr c4
      clear c4
      by_cases c5 : 0 ≤ x4_1
      ·rw [if_pos c5] at H
       have c5b0 := eq_true c5
       have c5b1 : decide (0 ≤ x4_1) = true := decide_eq_true c5
       clear c5
       by_cases c6 : x4_1 ≤ x5_1
       ·rw [if_pos c6] at H
        have c6b0 := eq_true c6
        have c6b1 : decide (x4_1 ≤ x5_1) = true := decide_eq_true c6
        clear c6
        have c7b0 := eq_true (of_decide_eq_true (by first | (with_reducible assumption) | assumption) : x5_1 ≤ (a0.size : Int))
        by_cases c8 : x3_1.length < 8796093022208
        ·rw [if_pos c8] at H
         have LMc8 := Aside0.mk c8
         clear c8
         obtain ⟨y101, hy101⟩ : ∃ y_ : List ByteArray, y_ = (x3_1 ++ [a0.extract (x4_1 : Int).toNat (x5_1 : Int).toNat]) := ⟨_, rfl⟩
         replace H : (remoraref13_Split.l0 k1 a0 y101 (wrap64 (x5_1 + 1)) (wrap64 (x5_1 + 1))) = some r := by first | (rw [hy101]; with_reducible exact H) | (have H2_ := (Option.bind_some _ _).symm.trans H; rw [hy101]; with_reducible exact H2_) | (have H2_ := (Option.bind_some _ _).symm.trans H; with_reducible exact H2_) | with_reducible exact H | (rw [hy101]; exact H) | exact H
         have Ny101 := Aside0.mk hy101
         clear hy101
         have H' := Aside0.mk H
         clear H
         go_wp2_with (first | ((with_reducible refine gate_builtin (b := .append) (xs := #[.tmp 24, .tmp 29]) rfl ?_); at_builtin; refine Kd.R_append Kd.string (w0 := w) w.heap.size rfl (.tmp 24) (.tmp 29) 71 9 (.string ⟨#[]⟩) 16 rfl Tryd.underlying71 info9 rfl (by decide) (by omega) u3 x3_1 (a0.extract (x4_1 : Int).toNat (x5_1 : Int).toNat) [.string (a0.extract (x4_1 : Int).toNat (x5_1 : Int).toNat)] (fun _ => True) (fun _ => False) rfl rfl ?aP (fun _ hk => hk.elim) ?aF ?aO ?aB ?aS ?aL ?_; (case aP => exact rfl); (case aB => exact (by repeat (first | (with_reducible first | exact HB.out | apply below_alloc | apply pw_below_drewN | apply below_drew1) | exact HB.out))); (case aF => exact (fun _ _ => trivial)); (case aO => exact (by (with_reducible repeat (first | apply Kd.R_alloc | apply Kd.R_drewN | apply Kd.R_drew)); exact HO_3.out)); (case aS => exact (below_size (by repeat (first | (with_reducible first | exact HB.out | apply below_alloc | apply pw_below_drewN | apply below_drew1) | exact HB.out)))); (case aL => have := LMc8.out; omega); intro v102 w9 ho hb hg hat; rw [← Ny101.out] at ho; have n0_ := Aside0.mk (hb); have n1_ := Aside0.mk (ho); clear HB; clear HO_3; have HB := n0_; have HO103 := n1_; clear n0_ n1_; clear ho hb hg hat))
         go_roundg k1
         case measure => have := HK1.out; omega
         case rel => exact ⟨(y101), (wrap64 (x5_1 + 1)), (wrap64 (x5_1 + 1)), (by first | rfl | (simp; done) | (simp [*]; done)), (by first | rfl | (simp; done) | (simp [*]; done)), H', ⟨by have := HK1.out; omega⟩, ⟨by (with_reducible repeat (first | apply Kd.R_alloc | apply Kd.R_drewN | apply Kd.R_drew)); exact HO103.out⟩, ⟨by repeat (first | (with_reducible first | exact HB.out | apply below_alloc | apply pw_below_drewN | apply below_drew1) | exact HB.out)⟩⟩
        ·rw [if_neg c8] at H
         exact absurd H (by simp)
       ·rw [if_neg c6] at H
        exact absurd H (by simp)
      ·rw [if_neg c5] at H
       exact absurd H (by simp)
     ·rw [if_neg c4] at H
      have c4b0 : (x5_1 == (a0.size : Int)) = false := beq_eq_false_iff_ne.mpr c4
      have c4b1 : (x5_1 != (a0.size : Int)) = true := bne_iff_ne.mpr c4
      by_cases c10 : 0 ≤ x5_1
      ·rw [if_pos c10] at H
       have c10b0 : decide (0 ≤ x5_1) = true := decide_eq_true c10
       clear c10
       by_cases c11 : x5_1 < (a0.size : Int)
       ·rw [if_pos c11] at H
        have c11b0 : decide (x5_1 < (a0.size : Int)) = true := decide_eq_true c11
        clear c11
        by_cases c13 : (bt a0 x5_1) = 47
        ·rw [if_pos c13] at H
         have c13b0 : ((bt a0 x5_1) == 47) = true := beq_iff_eq.mpr c13
         have c13b1 : ((bt a0 x5_1) != 47) = false := bne_eq_false_iff_eq.mpr c13
         clear c13
         by_cases c14 : 0 ≤ x4_1
         ·rw [if_pos c14] at H
          have c14b0 := eq_true c14
          have c14b1 : decide (0 ≤ x4_1) = true := decide_eq_true c14
          clear c14
          by_cases c15 : x4_1 ≤ x5_1
          ·rw [if_pos c15] at H
           have c15b0 := eq_true c15
           have c15b1 : decide (x4_1 ≤ x5_1) = true := decide_eq_true c15
           clear c15
           have c16b0 := eq_true (of_decide_eq_true (by first | (with_reducible assumption) | assumption) : x5_1 ≤ (a0.size : Int))
           by_cases c17 : x3_1.length < 8796093022208
           ·rw [if_pos c17] at H
            have LMc17 := Aside0.mk c17
            clear c17
            obtain ⟨y104, hy104⟩ : ∃ y_ : List ByteArray, y_ = (x3_1 ++ [a0.extract (x4_1 : Int).toNat (x5_1 : Int).toNat]) := ⟨_, rfl⟩
            replace H : (remoraref13_Split.l0 k1 a0 y104 (wrap64 (x5_1 + 1)) (wrap64 (x5_1 + 1))) = some r := by first | (rw [hy104]; with_reducible exact H) | (have H2_ := (Option.bind_some _ _).symm.trans H; rw [hy104]; with_reducible exact H2_) | (have H2_ := (Option.bind_some _ _).symm.trans H; with_reducible exact H2_) | with_reducible exact H | (rw [hy104]; exact H) | exact H
            have Ny104 := Aside0.mk hy104
            clear hy104
            have H' := Aside0.mk H
            clear H
            have p12 : 0 ≤ (x5_1 : Int) := of_decide_eq_true (by first | (with_reducible assumption) | assumption)
            have q12 : x5_1 < (a0.size : Int) := of_decide_eq_true (by first | (with_reducible assumption) | assumption)
            have hx12 := bt_at a0 x5_1
            replace p12 := eq_true p12
            replace q12 := eq_true q12
            go_wp2_with (first | ((with_reducible refine gate_builtin (b := .append) (xs := #[.tmp 24, .tmp 29]) rfl ?_); at_builtin; refine Kd.R_append Kd.string (w0 := w) w.heap.size rfl (.tmp 24) (.tmp 29) 71 9 (.string ⟨#[]⟩) 16 rfl Tryd.underlying71 info9 rfl (by decide) (by omega) u3 x3_1 (a0.extract (x4_1 : Int).toNat (x5_1 : Int).toNat) [.string (a0.extract (x4_1 : Int).toNat (x5_1 : Int).toNat)] (fun _ => True) (fun _ => False) rfl rfl ?aP (fun _ hk => hk.elim) ?aF ?aO ?aB ?aS ?aL ?_; (case aP => exact rfl); (case aB => exact (by repeat (first | (with_reducible first | exact HB.out | apply below_alloc | apply pw_below_drewN | apply below_drew1) | exact HB.out))); (case aF => exact (fun _ _ => trivial)); (case aO => exact (by (with_reducible repeat (first | apply Kd.R_alloc | apply Kd.R_drewN | apply Kd.R_drew)); exact HO_3.out)); (case aS => exact (below_size (by repeat (first | (with_reducible first | exact HB.out | apply below_alloc | apply pw_below_drewN | apply below_drew1) | exact HB.out)))); (case aL => have := LMc17.out; omega); intro v105 w18 ho hb hg hat; rw [← Ny104.out] at ho; have n0_ := Aside0.mk (hb); have n1_ := Aside0.mk (ho); clear HB; clear HO_3; have HB := n0_; have HO106 := n1_; clear n0_ n1_; clear ho hb hg hat))
            go_roundg k1
            case measure => have := HK1.out; omega
            case rel => exact ⟨(y104), (wrap64 (x5_1 + 1)), (wrap64 (x5_1 + 1)), (by first | rfl | (simp; done) | (simp [*]; done)), (by first | rfl | (simp; done) | (simp [*]; done)), H', ⟨by have := HK1.out; omega⟩, ⟨by (with_reducible repeat (first | apply Kd.R_alloc | apply Kd.R_drewN | apply Kd.R_drew)); exact HO106.out⟩, ⟨by repeat (first | (with_reducible first | exact HB.out | apply below_alloc | apply pw_below_drewN | apply below_drew1) | exact HB.out)⟩⟩
           ·rw [if_neg c17] at H
            exact absurd H (by simp)
          ·rw [if_neg c15] at H
           exact absurd H (by simp)
         ·rw [if_neg c14] at H
          exact absurd H (by simp)
        ·rw [if_neg c13] at H
         have c13b0 : ((bt a0 x5_1) == 47) = false := beq_eq_false_iff_ne.mpr c13
         have c13b1 : ((bt a0 x5_1) != 47) = true := bne_iff_ne.mpr c13
         have H' := Aside0.mk H
         clear H
         have p12 : 0 ≤ (x5_1 : Int) := of_decide_eq_true (by first | (with_reducible assumption) | assumption)
         have q12 : x5_1 < (a0.size : Int) := of_decide_eq_true (by first | (with_reducible assumption) | assumption)
         have hx12 := bt_at a0 x5_1
         replace p12 := eq_true p12
         replace q12 := eq_true q12
         go_wp2
         go_roundg k1
         case measure => have := HK1.out; omega
         case rel => exact ⟨(x3_1), (x4_1), (wrap64 (x5_1 + 1)), (by first | rfl | (simp; done) | (simp [*]; done)), (by first | rfl | (simp; done) | (simp [*]; done)), H', ⟨by have := HK1.out; omega⟩, ⟨by (with_reducible repeat (first | apply Kd.R_alloc | apply Kd.R_drewN | apply Kd.R_drew)); exact HO_3.out⟩, ⟨by repeat (first | (with_reducible first | exact HB.out | apply below_alloc | apply pw_below_drewN | apply below_drew1) | exact HB.out)⟩⟩
       ·rw [if_neg c11] at H
        exact absurd H (by simp)
      ·rw [if_neg c10] at H
       exact absurd H (by simp)
    ·rw [if_neg c3] at H
     have c3b0 : decide (x5_1 ≤ (a0.size : Int)) = false := decide_eq_false c3
     clear c3
     obtain rfl := Option.some.inj H
     go_wp2
     go_ret
     exact ⟨_, by first | rfl | (simp [errW_none, errW_some] <;> rfl) | (simp [*, errW_none, errW_some] <;> rfl), by (with_reducible repeat (first | apply Kd.R_alloc | apply Kd.R_drewN | apply Kd.R_drew)); exact HO_3.out, by repeat (first | (with_reducible first | exact HB.out | apply below_alloc | apply pw_below_drewN | apply below_drew1) | exact HB.out)⟩
end Go.Proofs.YtcdmgdegohcmhaaDoor.PA
namespace Go.Proofs.YtcdmgdegohcmhaaDoor.PA
open Go.RowKit Go.Proofs.YtcdmgdegohcmhaaDoorW.PrintWords Go.Proofs.YtcdmgdegohcmhaaDoorW.PrintLast Go.Proofs.YtcdmgdegohcmhaaDoorW.PrintMore
attribute [local go_sem] max2_int min2_int max_two min_two max_three min_three max_four min_four   -- for this text's walks alone
set_option linter.unusedVariables false
set_option linter.unusedSimpArgs false
mutual
def remoraref13_Less.l0 : Nat → List ByteArray → List ByteArray → Int → Option (Bool)
 | 0, _, _, _ => none
 | k + 1, x5, x6, x7 => if x7 < (x5.length : Int) then (remoraref13_Less.j1 k x5 x6 x7 (decide (x7 < (x6.length : Int)))) else (remoraref13_Less.j1 k x5 x6 x7 false)
def remoraref13_Less.j1 : Nat → List ByteArray → List ByteArray → Int → Bool → Option (Bool)
 | 0, _, _, _, _ => none
 | k + 1, x5, x6, x7, x21 => if x21 = true then (if 0 ≤ x7 then (if x7 < (x5.length : Int) then (if x7 < (x6.length : Int) then (if (rdOf ByteArray.empty x5 x7).toList = (rdOf ByteArray.empty x6 x7).toList then (remoraref13_Less.l0 k x5 x6 (wrap64 (x7 + 1))) else (some (Op.bytesLess ((rdOf ByteArray.empty x5 x7).toList) ((rdOf ByteArray.empty x6 x7).toList)))) else (none)) else (none)) else (none)) else (some (decide ((x5.length : Int) < (x6.length : Int))))
end
def remoraref13_Less.f (k : Nat) (a0 : ByteArray) (a1 : ByteArray) : Option (Bool) := (remoraref13_Split.f k a0).bind fun t101 => ((remoraref13_Split.f k a1).bind fun t104 => (remoraref13_Less.l0 k t101 t104 0))
set_option maxHeartbeats 8000000 in
set_option maxRecDepth 100000 in
theorem remoraref13_Less.calls (k : Nat) (a0 : ByteArray) (a1 : ByteArray) (r : Bool) (w : World) (h : remoraref13_Less.f k a0 a1 = some r) :
  Calls Tryd.prog 24 #[.string a0, .string a1] w fun e w' => e = .returned (.bool r) ∧ Below w.heap.size w w' := by
 have HB := Aside0.mk (Below.refl w.heap.size w)
 have H : ((remoraref13_Split.f k a0).bind fun t101 => ((remoraref13_Split.f k a1).bind fun t104 => (remoraref13_Less.l0 k t101 t104 0))) = some r := h
 clear h
 replace H := Option.bind_eq_some_iff.mp H
 obtain ⟨t101, A30, H⟩ := H
 replace H : ((remoraref13_Split.f k a1).bind fun t104 => (remoraref13_Less.l0 k t101 t104 0)) = some r := H
 have A3 := Aside0.mk A30
 clear A30
 replace H := Option.bind_eq_some_iff.mp H
 obtain ⟨t104, A40, H⟩ := H
 replace H : (remoraref13_Less.l0 k t101 t104 0) = some r := H
 have A4 := Aside0.mk A40
 clear A40
 have H' := Aside0.mk H
 clear H
 go_enter Tryd.func24, Tryd.ntmps24
 go_wp2_with (first | (go_at_call 58; (with_reducible refine (remoraref13_Split.calls k a0 t101 _ A3.out).mono ?_); rintro e w5 ⟨v102, rfl, ho0, hb⟩; have n0_ := Aside0.mk (Kd.R_lower ho0 (below_size (by repeat (first | (with_reducible first | exact HB.out | apply below_alloc | apply pw_below_drewN | apply below_drew1) | exact HB.out)))); have n1_ := Aside0.mk (below_step (by repeat (first | (with_reducible first | exact HB.out | apply below_alloc | apply pw_below_drewN | apply below_drew1) | exact HB.out)) hb); clear HB; have HO103 := n0_; have HB := n1_; clear n0_ n1_; (try clear hb); (try clear hb2); (try clear hk); (try clear hi); (try clear ho0)) | (go_at_call 58; (with_reducible refine (remoraref13_Split.calls k a1 t104 _ A4.out).mono ?_); rintro e w6 ⟨v105, rfl, ho0, hb⟩; have n0_ := Aside0.mk (Kd.R_elder' (by (with_reducible repeat (first | apply Kd.R_alloc | apply Kd.R_drewN | apply Kd.R_drew)); exact HO103.out) (Kd.R_base ho0) hb); have n1_ := Aside0.mk (Kd.R_lower (Kd.R_new' ho0 (Kd.R_lt (by (with_reducible repeat (first | apply Kd.R_alloc | apply Kd.R_drewN | apply Kd.R_drew)); exact HO103.out))) (below_size (by repeat (first | (with_reducible first | exact HB.out | apply below_alloc | apply pw_below_drewN | apply below_drew1) | exact HB.out)))); have n2_ := Aside0.mk (below_step (by repeat (first | (with_reducible first | exact HB.out | apply below_alloc | apply pw_below_drewN | apply below_drew1) | exact HB.out)) hb); clear HO103; clear HB; have HO103 := n0_; have HO106 := n1_; have HB := n2_; clear n0_ n1_ n2_; (try clear hb); (try clear hb2); (try clear hk); (try clear hi); (try clear ho0)))
 repeat (go_quiet (first | (go_at_call 58; (with_reducible refine (remoraref13_Split.calls k a0 t101 _ A3.out).mono ?_); rintro e w5 ⟨v102, rfl, ho0, hb⟩; have n0_ := Aside0.mk (Kd.R_lower ho0 (below_size (by repeat (first | (with_reducible first | exact HB.out | apply below_alloc | apply pw_below_drewN | apply below_drew1) | exact HB.out)))); have n1_ := Aside0.mk (below_step (by repeat (first | (with_reducible first | exact HB.out | apply below_alloc | apply pw_below_drewN | apply below_drew1) | exact HB.out)) hb); clear HB; have HO103 := n0_; have HB := n1_; clear n0_ n1_; (try clear hb); (try clear hb2); (try clear hk); (try clear hi); (try clear ho0)) | (go_at_call 58; (with_reducible refine (remoraref13_Split.calls k a1 t104 _ A4.out).mono ?_); rintro e w6 ⟨v105, rfl, ho0, hb⟩; have n0_ := Aside0.mk (Kd.R_elder' (by (with_reducible repeat (first | apply Kd.R_alloc | apply Kd.R_drewN | apply Kd.R_drew)); exact HO103.out) (Kd.R_base ho0) hb); have n1_ := Aside0.mk (Kd.R_lower (Kd.R_new' ho0 (Kd.R_lt (by (with_reducible repeat (first | apply Kd.R_alloc | apply Kd.R_drewN | apply Kd.R_drew)); exact HO103.out))) (below_size (by repeat (first | (with_reducible first | exact HB.out | apply below_alloc | apply pw_below_drewN | apply below_drew1) | exact HB.out)))); have n2_ := Aside0.mk (below_step (by repeat (first | (with_reducible first | exact HB.out | apply below_alloc | apply pw_below_drewN | apply below_drew1) | exact HB.out)) hb); clear HO103; clear HB; have HO103 := n0_; have HO106 := n1_; have HB := n2_; clear n0_ n1_ n2_; (try clear hb); (try clear hb2); (try clear hk); (try clear hi); (try clear ho0))); try go_wp2_with (first | (go_at_call 58; (with_reducible refine (remoraref13_Split.calls k a0 t101 _ A3.out).mono ?_); rintro e w5 ⟨v102, rfl, ho0, hb⟩; have n0_ := Aside0.mk (Kd.R_lower ho0 (below_size (by repeat (first | (with_reducible first | exact HB.out | apply below_alloc | apply pw_below_drewN | apply below_drew1) | exact HB.out)))); have n1_ := Aside0.mk (below_step (by repeat (first | (with_reducible first | exact HB.out | apply below_alloc | apply pw_below_drewN | apply below_drew1) | exact HB.out)) hb); clear HB; have HO103 := n0_; have HB := n1_; clear n0_ n1_; (try clear hb); (try clear hb2); (try clear hk); (try clear hi); (try clear ho0)) | (go_at_call 58; (with_reducible refine (remoraref13_Split.calls k a1 t104 _ A4.out).mono ?_); rintro e w6 ⟨v105, rfl, ho0, hb⟩; have n0_ := Aside0.mk (Kd.R_elder' (by (with_reducible repeat (first | apply Kd.R_alloc | apply Kd.R_drewN | apply Kd.R_drew)); exact HO103.out) (Kd.R_base ho0) hb); have n1_ := Aside0.mk (Kd.R_lower (Kd.R_new' ho0 (Kd.R_lt (by (with_reducible repeat (first | apply Kd.R_alloc | apply Kd.R_drewN | apply Kd.R_drew)); exact HO103.out))) (below_size (by repeat (first | (with_reducible first | exact HB.out | apply below_alloc | apply pw_below_drewN | apply below_drew1) | exact HB.out)))); have n2_ := Aside0.mk (below_step (by repeat (first | (with_reducible first | exact HB.out | apply below_alloc | apply pw_below_drewN | apply below_drew1) | exact HB.out)) hb); clear HO103; clear HB; have HO103 := n0_; have HO106 := n1_; have HB := n2_; clear n0_ n1_ n2_; (try clear hb); (try clear hb2); (try clear hk); (try clear hi); (try clear ho0))))
 go_loopg [7] k (fun kq v7 w' => ∃ (x7_1 : Int), v7 = .int .i64 x7_1 ∧ Aside0 (remoraref13_Less.l0 kq t101 t104 x7_1 = some r) ∧ Aside0 (kq ≤ k) ∧ Aside0 (Kd.R Kd.string 9 w' w.heap.size (fun k_ => some k_ ≠ (v105 : Value).ownBlock) v102 t101) ∧ Aside0 (Kd.R Kd.string 9 w' w.heap.size (fun k_ => some k_ ≠ (v102 : Value).ownBlock) v105 t104) ∧ Aside0 (Below w.heap.size w w'))
 case atStart => exact ⟨(0), (by first | rfl | (simp; done) | (simp [*]; done)), H', ⟨Nat.le_refl _⟩, ⟨by (with_reducible repeat (first | apply Kd.R_alloc | apply Kd.R_drewN | apply Kd.R_drew)); exact Kd.R_mono HO103.out (fun _ hk => hk.2)⟩, ⟨by (with_reducible repeat (first | apply Kd.R_alloc | apply Kd.R_drewN | apply Kd.R_drew)); exact Kd.R_mono HO106.out (fun _ hk => hk.2)⟩, ⟨by repeat (first | (with_reducible first | exact HB.out | apply below_alloc | apply pw_below_drewN | apply below_drew1) | exact HB.out)⟩⟩
 case round =>
  clear H'
  try clear c2
  try clear p2
  obtain ⟨x7_1, rfl, HA, HK1, HO_5, HO_6, HB⟩ := hrel
  cases gk with
  | zero => exact absurd HA.out (by simp [remoraref13_Less.l0])
  | succ k1 =>
   have H := HA.out
   clear HA
   simp only [remoraref13_Less.l0] at H
   have HC7 := Aside0.mk H
   clear H
   go_upto_region 3 with (fail)
   repeat (go_quiet (fail); go_upto_region 3 with (fail))
   go_cut [21] (fun v21 wc => ∃ (kq : Nat) (x21_6 : Bool), v21 = .bool x21_6 ∧ Aside0 (remoraref13_Less.j1 kq t101 t104 x7_1 x21_6 = some r) ∧ Aside0 (kq ≤ k1) ∧ Aside0 (Kd.R Kd.string 9 wc w.heap.size (fun k_ => some k_ ≠ (v105 : Value).ownBlock) v102 t101) ∧ Aside0 (Kd.R Kd.string 9 wc w.heap.size (fun k_ => some k_ ≠ (v102 : Value).ownBlock) v105 t104) ∧ Aside0 (Below w.heap.size w wc))
   case first =>
    have H := HC7.out
    clear HC7
    by_cases c8 : x7_1 < (t101.length : Int)
    ·rw [if_pos c8] at H
     have c8b0 : decide (x7_1 < (t101.length : Int)) = true := decide_eq_true c8
     clear c8
     (first | rw [c8b0] | (simp only [i64_w, i32_w]; rw [c8b0]) | skip)
     have H' := Aside0.mk H
     clear H
     obtain ⟨Ao9, co9, eo9⟩ := Kd.R_slice HO_5.out
     subst eo9
     obtain ⟨Ao10, co10, eo10⟩ := Kd.R_slice HO_6.out
     subst eo10
     go_wp2
     repeat (go_quiet (fail); try go_wp2)
     go_meet
     case rel => exact ⟨_, (decide (x7_1 < (t104.length : Int))), (by first | rfl | (simp; done) | (simp [*]; done)), H', ⟨by have := HK1.out; first | omega | exact Nat.le_refl _⟩, ⟨by (with_reducible repeat (first | apply Kd.R_alloc | apply Kd.R_drewN | apply Kd.R_drew)); exact HO_5.out⟩, ⟨by (with_reducible repeat (first | apply Kd.R_alloc | apply Kd.R_drewN | apply Kd.R_drew)); exact HO_6.out⟩, ⟨by repeat (first | (with_reducible first | exact HB.out | apply below_alloc | apply pw_below_drewN | apply below_drew1) | exact HB.out)⟩⟩
    ·rw [if_neg c8] at H
     have c8b0 : decide (x7_1 < (t101.length : Int)) = false := decide_eq_false c8
     clear c8
     (first | rw [c8b0] | (simp only [i64_w, i32_w]; rw [c8b0]) | skip)
     have H' := Aside0.mk H
     clear H
     obtain ⟨Ao11, co11, eo11⟩ := Kd.R_slice HO_5.out
     subst eo11
     go_wp2
     repeat (go_quiet (fail); try go_wp2)
     go_meet
     case rel => exact ⟨_, (false), (by first | rfl | (simp; done) | (simp [*]; done)), H', ⟨by have := HK1.out; first | omega | exact Nat.le_refl _⟩, ⟨by (with_reducible repeat (first | apply Kd.R_alloc | apply Kd.R_drewN | apply Kd.R_drew)); exact HO_5.out⟩, ⟨by (with_reducible repeat (first | apply Kd.R_alloc | apply Kd.R_drewN | apply Kd.R_drew)); exact HO_6.out⟩, ⟨by repeat (first | (with_reducible first | exact HB.out | apply below_alloc | apply pw_below_drewN | apply below_drew1) | exact HB.out)⟩⟩
   case rest =>
    clear HC7
    try clear c2
    try clear p2
    try clear c8
    try clear c8b0
    try clear p2
    obtain ⟨kq, x21_6, rfl, HA, HJ6, HO_5, HO_6, HB⟩ := hcut
    cases kq with
    | zero => exact absurd HA.out (by simp [remoraref13_Less.j1])
    | succ kj6 =>
     have H := HA.out
     clear HA
     simp only [remoraref13_Less.j1] at H
     by_cases c12 : x21_6 = true
     ·subst c12
      have H1 : (if 0 ≤ x7_1 then (if x7_1 < (t101.length : Int) then (if x7_1 < (t104.length : Int) then (if (rdOf ByteArray.empty t101 x7_1).toList = (rdOf ByteArray.empty t104 x7_1).toList then (remoraref13_Less.l0 kj6 t101 t104 (wrap64 (x7_1 + 1))) else (some (Op.bytesLess ((rdOf ByteArray.empty t101 x7_1).toList) ((rdOf ByteArray.empty t104 x7_1).toList)))) else (none)) else (none)) else (none)) = some r := by rw [if_pos rfl] at H; exact H
      clear H
      have H := H1
      clear H1
      by_cases c13 : 0 ≤ x7_1
      ·rw [if_pos c13] at H
       have c13b0 : decide (0 ≤ x7_1) = true := decide_eq_true c13
       clear c13
       by_cases c14 : x7_1 < (t101.length : Int)
       ·rw [if_pos c14] at H
        have c14b0 : decide (x7_1 < (t101.length : Int)) = true := decide_eq_true c14
        clear c14
        by_cases c15 : x7_1 < (t104.length : Int)
        ·rw [if_pos c15] at H
         have c15b0 : decide (x7_1 < (t104.length : Int)) = true := decide_eq_true c15
         clear c15
         by_cases c16 : (rdOf ByteArray.empty t101 x7_1).toList = (rdOf ByteArray.empty t104 x7_1).toList
         ·rw [if_pos c16] at H
          have c16b0 : ((rdOf ByteArray.empty t101 x7_1).toList == (rdOf ByteArray.empty t104 x7_1).toList) = true := beq_iff_eq.mpr c16
          have c16b1 : ((rdOf ByteArray.empty t101 x7_1).toList != (rdOf ByteArray.empty t104 x7_1).toList) = false := bne_eq_false_iff_eq.mpr c16
          clear c16
          have H' := Aside0.mk H
          clear H
          obtain ⟨Ao17, co17, eo17⟩ := Kd.R_slice HO_5.out
          subst eo17
          have p107 : 0 ≤ (x7_1 : Int) := of_decide_eq_true (by first | (with_reducible assumption) | assumption)
          have q107 : x7_1 < (t101.length : Int) := of_decide_eq_true (by first | (with_reducible assumption) | assumption)
          obtain ⟨ad107, e107, hx107_0⟩ := Kd.at_string (Kd.R_reads' HO_5.out).2.2 x7_1 p107 q107
          cases e107
          replace p107 := eq_true p107
          replace q107 := eq_true q107
          obtain ⟨Ao18, co18, eo18⟩ := Kd.R_slice HO_6.out
          subst eo18
          have p108 : 0 ≤ (x7_1 : Int) := of_decide_eq_true (by first | (with_reducible assumption) | assumption)
          have q108 : x7_1 < (t104.length : Int) := of_decide_eq_true (by first | (with_reducible assumption) | assumption)
          obtain ⟨ad108, e108, hx108_0⟩ := Kd.at_string (Kd.R_reads' HO_6.out).2.2 x7_1 p108 q108
          cases e108
          replace p108 := eq_true p108
          replace q108 := eq_true q108
          go_wp2
          repeat (go_quiet (fail); try go_wp2)
          go_roundg kj6
          case measure => have := HK1.out; have := HJ6.out; omega
          case rel => exact ⟨(wrap64 (x7_1 + 1)), (by first | rfl | (simp; done) | (simp [*]; done)), H', ⟨by have := HK1.out; have := HJ6.out; omega⟩, ⟨by (with_reducible repeat (first | apply Kd.R_alloc | apply Kd.R_drewN | apply Kd.R_drew)); exact HO_5.out⟩, ⟨by (with_reducible repeat (first | apply Kd.R_alloc | apply Kd.R_drewN | apply Kd.R_drew)); exact HO_6.out⟩, ⟨by repeat (first | (with_reducible first | exact HB.out | apply below_alloc | apply pw_below_drewN | apply below_drew1) | exact HB.out)⟩⟩
         ·rw [if_neg c16] at H
          have c16b0 : ((rdOf ByteArray.empty t101 x7_1).toList == (rdOf ByteArray.empty t104 x7_1).toList) = false := beq_eq_false_iff_ne.mpr c16
          have c16b1 : ((rdOf ByteArray.empty t101 x7_1).toList != (rdOf ByteArray.empty t104 x7_1).toList) = true := bne_iff_ne.mpr c16
          obtain rfl := Option.some.inj H
          obtain ⟨Ao19, co19, eo19⟩ := Kd.R_slice HO_5.out
          subst eo19
          have p107 : 0 ≤ (x7_1 : Int) := of_decide_eq_true (by first | (with_reducible assumption) | assumption)
          have q107 : x7_1 < (t101.length : Int) := of_decide_eq_true (by first | (with_reducible assumption) | assumption)
          obtain ⟨ad107, e107, hx107_0⟩ := Kd.at_string (Kd.R_reads' HO_5.out).2.2 x7_1 p107 q107
          cases e107
          replace p107 := eq_true p107
          replace q107 := eq_true q107
          obtain ⟨Ao20, co20, eo20⟩ := Kd.R_slice HO_6.out
          subst eo20
          have p108 : 0 ≤ (x7_1 : Int) := of_decide_eq_true (by first | (with_reducible assumption) | assumption)
          have q108 : x7_1 < (t104.length : Int) := of_decide_eq_true (by first | (with_reducible assumption) | assumption)
          obtain ⟨ad108, e108, hx108_0⟩ := Kd.at_string (Kd.R_reads' HO_6.out).2.2 x7_1 p108 q108
          cases e108
          replace p108 := eq_true p108
          replace q108 := eq_true q108
          have p109 : 0 ≤ (x7_1 : Int) := of_decide_eq_true (by first | (with_reducible assumption) | assumption)
          have q109 : x7_1 < (t101.length : Int) := of_decide_eq_true (by first | (with_reducible assumption) | assumption)
          obtain ⟨ad109, e109, hx109_0⟩ := Kd.at_string (Kd.R_reads' HO_5.out).2.2 x7_1 p109 q109
          obtain rfl : ad107 = ad109 := (by injection e109)
          replace p109 := eq_true p109
          replace q109 := eq_true q109
          have p110 : 0 ≤ (x7_1 : Int) := of_decide_eq_true (by first | (with_reducible assumption) | assumption)
          have q110 : x7_1 < (t104.length : Int) := of_decide_eq_true (by first | (with_reducible assumption) | assumption)
          obtain ⟨ad110, e110, hx110_0⟩ := Kd.at_string (Kd.R_reads' HO_6.out).2.2 x7_1 p110 q110
          obtain rfl : ad108 = ad110 := (by injection e110)
          replace p110 := eq_true p110
          replace q110 := eq_true q110
          go_wp2
          repeat (go_quiet (fail); try go_wp2)
          go_ret
          exact ⟨by first | rfl | (simp [errW_none, errW_some] <;> rfl) | (simp [*, errW_none, errW_some] <;> rfl), by repeat (first | (with_reducible first | exact HB.out | apply below_alloc | apply pw_below_drewN | apply below_drew1) | exact HB.out)⟩
        ·rw [if_neg c15] at H
         exact absurd H (by simp)
       ·rw [if_neg c14] at H
        exact absurd H (by simp)
      ·rw [if_neg c13] at H
       exact absurd H (by simp)
     ·replace c12 := Bool.eq_false_iff.mpr c12
      subst c12
      have H1 : (some (decide ((t101.length : Int) < (t104.length : Int)))) = some r := by rw [if_neg (show ¬ (false = true) by decide)] at H; exact H
      clear H
      have H := H1
      clear H1
      obtain rfl := Option.some.inj H
      obtain ⟨Ao21, co21, eo21⟩ := Kd.R_slice HO_5.out
      subst eo21
      obtain ⟨Ao22, co22, eo22⟩ := Kd.R_slice HO_6.out
      subst eo22
      go_wp2
      repeat (go_quiet (fail); try go_wp2)
      go_ret
      exact ⟨by first | rfl | (simp [errW_none, errW_some] <;> rfl) | (simp [*, errW_none, errW_some] <;> rfl), by repeat (first | (with_reducible first | exact HB.out | apply below_alloc | apply pw_below_drewN | apply below_drew1) | exact HB.out)⟩
end Go.Proofs.YtcdmgdegohcmhaaDoor.PA
namespace Go.Proofs.YtcdmgdegohcmhaaDoor.PA
open Go.RowKit Go.Proofs.YtcdmgdegohcmhaaDoorW.PrintWords Go.Proofs.YtcdmgdegohcmhaaDoorW.PrintLast Go.Proofs.YtcdmgdegohcmhaaDoorW.PrintMore
attribute [local go_sem] max2_int min2_int max_two min_two max_three min_three max_four min_four   -- for this text's walks alone
set_option linter.unusedVariables false
set_option linter.unusedSimpArgs false
end Go.Proofs.YtcdmgdegohcmhaaDoor.PA
namespace Go.Proofs.YtcdmgdegohcmhaaDoor.PA
open Go.RowKit Go.Proofs.YtcdmgdegohcmhaaDoorW.PrintWords Go.Proofs.YtcdmgdegohcmhaaDoorW.PrintLast Go.Proofs.YtcdmgdegohcmhaaDoorW.PrintMore
attribute [local go_sem] max2_int min2_int max_two min_two max_three min_three max_four min_four   -- for this text's walks alone
set_option linter.unusedVariables false
set_option linter.unusedSimpArgs false
end Go.Proofs.YtcdmgdegohcmhaaDoor.PA
namespace Go.Proofs.YtcdmgdegohcmhaaDoor.PA
open Go.RowKit Go.Proofs.YtcdmgdegohcmhaaDoorW.PrintWords Go.Proofs.YtcdmgdegohcmhaaDoorW.PrintLast Go.Proofs.YtcdmgdegohcmhaaDoorW.PrintMore
attribute [local go_sem] max2_int min2_int max_two min_two max_three min_three max_four min_four
set_option linter.unusedVariables false
set_option linter.unusedSimpArgs false
def strings_IndexByte.f (a0 : ByteArray) (a1 : Int) : Option Int := some (Lib.indexByte a0.data.toList a1.toNat.toUInt8)
set_option maxHeartbeats 1000000 in
set_option maxRecDepth 100000 in
theorem lite_IndexByte (s : ByteArray) (x : Int) (w : World) :
  Calls Tryd.prog 106 #[.string s, .int .u8 x] w fun e w' => e = .returned (.int .i64 (Lib.indexByte s.data.toList x.toNat.toUInt8)) ∧ w' = w := by
 go_enter Tryd.func106, Tryd.ntmps106
 go_wp2
 rw [run_callFunc_extern Tryd.func108 (by kernel_rfl) (by kernel_rfl) (by kernel_rfl) (e := Extern.BytealgIndexByte.indexByte) (by kernel_rfl), Lib.run_indexByteString]
 simp only [Result.andThen]
 rw [Oper.upon_value]
 go_wp2
 go_ret
 exact ⟨rfl, rfl⟩
set_option maxHeartbeats 1000000 in
theorem strings_IndexByte.calls (a0 : ByteArray) (a1 : Int) (r : Int) (w : World) (h : strings_IndexByte.f a0 a1 = some r) :
  Calls Tryd.prog 101 #[.string a0, .int .u8 a1] w fun e w' => e = .returned (.int .i64 r) ∧ Drawn0 w w' := by
 obtain rfl := Option.some.inj h
 clear h
 go_enter Tryd.func101, Tryd.ntmps101
 go_wp2_with (go_at_call 106; refine (lite_IndexByte _ _ _).mono ?_; rintro e w' ⟨rfl, rfl⟩)
 go_ret
 exact ⟨rfl, Drawn0.refl _⟩
end Go.Proofs.YtcdmgdegohcmhaaDoor.PA
namespace Go.Proofs.YtcdmgdegohcmhaaDoor.PA
open Go.RowKit Go.Proofs.YtcdmgdegohcmhaaDoorW.PrintWords Go.Proofs.YtcdmgdegohcmhaaDoorW.PrintLast Go.Proofs.YtcdmgdegohcmhaaDoorW.PrintMore
attribute [local go_sem] max2_int min2_int max_two min_two max_three min_three max_four min_four   -- for this text's walks alone
set_option linter.unusedVariables false
set_option linter.unusedSimpArgs false
def path_part.f (a0 : ByteArray) : Option (Bool) := if a0.toList = ([] : List UInt8) then (some false) else (if (a0.size : Int) ≤ 48 then (if a0.toList = ([46] : List UInt8) then (some false) else (if a0.toList = ([46, 46] : List UInt8) then (some false) else ((strings_IndexByte.f a0 0).bind fun t101 => (some (decide (t101 < 0)))))) else (some false))
set_option maxHeartbeats 8000000 in
set_option maxRecDepth 100000 in
theorem path_part.calls (a0 : ByteArray) (r : Bool) (w : World) (h : path_part.f a0 = some r) :
  Calls Tryd.prog 88 #[.string a0] w fun e w' => e = .returned (.bool r) ∧ Drawn0 w w' := by
 have H : (if a0.toList = ([] : List UInt8) then (some false) else (if (a0.size : Int) ≤ 48 then (if a0.toList = ([46] : List UInt8) then (some false) else (if a0.toList = ([46, 46] : List UInt8) then (some false) else ((strings_IndexByte.f a0 0).bind fun t101 => (some (decide (t101 < 0)))))) else (some false))) = some r := h
 clear h
 by_cases c2 : a0.toList = ([] : List UInt8)
 ·rw [if_pos c2] at H
  have c2b0 : (a0.toList == ([] : List UInt8)) = true := beq_iff_eq.mpr c2
  have c2b1 : (a0.toList != ([] : List UInt8)) = false := bne_eq_false_iff_eq.mpr c2
  clear c2
  obtain rfl := Option.some.inj H
  go_enter Tryd.func88, Tryd.ntmps88
  go_wp2
  go_ret
  exact ⟨by first | rfl | (simp; done) | (simp [*]; done), by repeat (first | exact Drawn0.refl _ | apply Drawn0.step)⟩
 ·rw [if_neg c2] at H
  have c2b0 : (a0.toList == ([] : List UInt8)) = false := beq_eq_false_iff_ne.mpr c2
  have c2b1 : (a0.toList != ([] : List UInt8)) = true := bne_iff_ne.mpr c2
  by_cases c3 : (a0.size : Int) ≤ 48
  ·rw [if_pos c3] at H
   have c3b0 : decide ((a0.size : Int) ≤ 48) = true := decide_eq_true c3
   have c3b1 : decide (a0.size ≤ 48) = true := decide_eq_true (by omega)
   clear c3
   by_cases c4 : a0.toList = ([46] : List UInt8)
   ·rw [if_pos c4] at H
    have c4b0 : (a0.toList == ([46] : List UInt8)) = true := beq_iff_eq.mpr c4
    have c4b1 : (a0.toList != ([46] : List UInt8)) = false := bne_eq_false_iff_eq.mpr c4
    clear c4
    obtain rfl := Option.some.inj H
    go_enter Tryd.func88, Tryd.ntmps88
    go_wp2
    go_ret
    exact ⟨by first | rfl | (simp; done) | (simp [*]; done), by repeat (first | exact Drawn0.refl _ | apply Drawn0.step)⟩
   ·rw [if_neg c4] at H
    have c4b0 : (a0.toList == ([46] : List UInt8)) = false := beq_eq_false_iff_ne.mpr c4
    have c4b1 : (a0.toList != ([46] : List UInt8)) = true := bne_iff_ne.mpr c4
    by_cases c5 : a0.toList = ([46, 46] : List UInt8)
    ·rw [if_pos c5] at H
     have c5b0 : (a0.toList == ([46, 46] : List UInt8)) = true := beq_iff_eq.mpr c5
     have c5b1 : (a0.toList != ([46, 46] : List UInt8)) = false := bne_eq_false_iff_eq.mpr c5
     clear c5
     obtain rfl := Option.some.inj H
     go_enter Tryd.func88, Tryd.ntmps88
     go_wp2
     go_ret
     exact ⟨by first | rfl | (simp; done) | (simp [*]; done), by repeat (first | exact Drawn0.refl _ | apply Drawn0.step)⟩
    ·rw [if_neg c5] at H
     have c5b0 : (a0.toList == ([46, 46] : List UInt8)) = false := beq_eq_false_iff_ne.mpr c5
     have c5b1 : (a0.toList != ([46, 46] : List UInt8)) = true := bne_iff_ne.mpr c5
     replace H := Option.bind_eq_some_iff.mp H
     obtain ⟨t101, A60, H⟩ := H
     replace H : (some (decide (t101 < 0))) = some r := H
     have A6 := Aside0.mk A60
     clear A60
     obtain rfl := Option.some.inj H
     go_enter Tryd.func88, Tryd.ntmps88
     go_wp2_with (first | (go_at_call 101; (with_reducible refine (strings_IndexByte.calls a0 0 t101 _ A6.out).mono ?_); rintro e w' ⟨rfl, ⟨nd, rfl⟩⟩))
     go_ret
     exact ⟨by first | rfl | (simp; done) | (simp [*]; done), by repeat (first | exact Drawn0.refl _ | apply Drawn0.step)⟩
  ·rw [if_neg c3] at H
   have c3b0 : decide ((a0.size : Int) ≤ 48) = false := decide_eq_false c3
   have c3b1 : decide (a0.size ≤ 48) = false := decide_eq_false (by omega)
   clear c3
   obtain rfl := Option.some.inj H
   go_enter Tryd.func88, Tryd.ntmps88
   go_wp2
   go_ret
   exact ⟨by first | rfl | (simp; done) | (simp [*]; done), by repeat (first | exact Drawn0.refl _ | apply Drawn0.step)⟩
end Go.Proofs.YtcdmgdegohcmhaaDoor.PA
namespace Go.Proofs.YtcdmgdegohcmhaaDoor.PA
open Go.RowKit Go.Proofs.YtcdmgdegohcmhaaDoorW.PrintWords Go.Proofs.YtcdmgdegohcmhaaDoorW.PrintLast Go.Proofs.YtcdmgdegohcmhaaDoorW.PrintMore
attribute [local go_sem] max2_int min2_int max_two min_two max_three min_three max_four min_four   -- for this text's walks alone
set_option linter.unusedVariables false
set_option linter.unusedSimpArgs false
def path_Right.l0 : Nat → ByteArray → List ByteArray → List ByteArray → Int → Int → Option (Bool)
 | 0, _, _, _, _, _ => none
 | k + 1, x0, x3, x8, x9, x10 => if x10 < x9 then (if 0 ≤ x10 then (if x10 < (x8.length : Int) then ((path_part.f (rdOf ByteArray.empty x8 x10)).bind fun t105 => (if t105 = true then (path_Right.l0 k x0 x3 x8 x9 (wrap64 (x10 + 1))) else (some false))) else (none)) else (none)) else (if (x3.length : Int) ≤ 12 then (some (decide ((x0.size : Int) ≤ 200))) else (some false))
def path_Right.f (k : Nat) (a0 : ByteArray) : Option (Bool) := (path_Split.f a0).bind fun t101 => (path_Right.l0 k a0 t101 t101 (t101.length : Int) 0)
set_option maxHeartbeats 8000000 in
set_option maxRecDepth 100000 in
theorem path_Right.calls (k : Nat) (a0 : ByteArray) (r : Bool) (w : World) (h : path_Right.f k a0 = some r) :
  Calls Tryd.prog 60 #[.string a0] w fun e w' => e = .returned (.bool r) ∧ Below w.heap.size w w' := by
 have HB := Aside0.mk (Below.refl w.heap.size w)
 have H : ((path_Split.f a0).bind fun t101 => (path_Right.l0 k a0 t101 t101 (t101.length : Int) 0)) = some r := h
 clear h
 replace H := Option.bind_eq_some_iff.mp H
 obtain ⟨t101, A20, H⟩ := H
 replace H : (path_Right.l0 k a0 t101 t101 (t101.length : Int) 0) = some r := H
 have A2 := Aside0.mk A20
 clear A20
 have H' := Aside0.mk H
 clear H
 go_enter Tryd.func60, Tryd.ntmps60
 go_wp2_with (first | ((with_reducible refine gate_callee (f := 63) rfl ?_); refine goesL_ (some 7) rfl rfl Tryd.func63 (by kernel_rfl) rfl #[.string a0] rfl (by (try simp only [List.map_toArray, List.map_cons, List.map_nil]); first | done | rfl | (simp only [List.length_drop, List.length_take]; rfl)) ?_; (with_reducible refine (path_Split.calls a0 t101 _ A2.out).mono ?_); rintro e w3 ⟨v102, rfl, ho0, hb⟩; refine ⟨_, rfl, ?_⟩; have n0_ := Aside0.mk (Kd.R_lower ho0 (below_size (by repeat (first | (with_reducible first | exact HB.out | apply below_alloc | apply pw_below_drewN | apply below_drew1) | exact HB.out)))); have n1_ := Aside0.mk (below_step (by repeat (first | (with_reducible first | exact HB.out | apply below_alloc | apply pw_below_drewN | apply below_drew1) | exact HB.out)) hb); clear HB; have HO103 := n0_; have HB := n1_; clear n0_ n1_; (try clear hb); (try clear hb2); (try clear hk); (try clear hi); (try clear ho0); obtain ⟨Ao4, co4, eo4⟩ := Kd.R_slice HO103.out; subst eo4))
 go_loopg [10] k (fun kq v10 w' => ∃ (x10_1 : Int), v10 = .int .i64 x10_1 ∧ Aside0 (path_Right.l0 kq a0 t101 t101 (t101.length : Int) x10_1 = some r) ∧ Aside0 (kq ≤ k) ∧ Aside0 (Kd.R Kd.string 9 w' w.heap.size (fun _ => True) (.slice Ao4 t101.length co4) t101) ∧ Aside0 (Kd.R Kd.string 9 w' w.heap.size (fun _ => True) (.slice Ao4 t101.length co4) t101) ∧ Aside0 (Below w.heap.size w w'))
 case atStart => exact ⟨(0), (by first | rfl | (simp; done) | (simp [*]; done)), H', ⟨Nat.le_refl _⟩, ⟨by (with_reducible repeat (first | apply Kd.R_alloc | apply Kd.R_drewN | apply Kd.R_drew)); exact HO103.out⟩, ⟨by (with_reducible repeat (first | apply Kd.R_alloc | apply Kd.R_drewN | apply Kd.R_drew)); exact HO103.out⟩, ⟨by repeat (first | (with_reducible first | exact HB.out | apply below_alloc | apply pw_below_drewN | apply below_drew1) | exact HB.out)⟩⟩
 case round =>
  clear H'
  try clear p2
  obtain ⟨x10_1, rfl, HA, HK1, HO_3, HO_8, HB⟩ := hrel
  cases gk with
  | zero => exact absurd HA.out (by simp [path_Right.l0])
  | succ k1 =>
   have H := HA.out
   clear HA
   simp only [path_Right.l0] at H
   by_cases c5 : x10_1 < (t101.length : Int)
   ·rw [if_pos c5] at H
    have c5b0 : decide (x10_1 < (t101.length : Int)) = true := decide_eq_true c5
    clear c5
    by_cases c6 : 0 ≤ x10_1
    ·rw [if_pos c6] at H
     have c6b0 : decide (0 ≤ x10_1) = true := decide_eq_true c6
     clear c6
     by_cases c7 : x10_1 < (t101.length : Int)
     ·rw [if_pos c7] at H
      have c7b0 : decide (x10_1 < (t101.length : Int)) = true := decide_eq_true c7
      clear c7
      replace H := Option.bind_eq_some_iff.mp H
      obtain ⟨t105, A80, H⟩ := H
      replace H : (if t105 = true then (path_Right.l0 k1 a0 t101 t101 (t101.length : Int) (wrap64 (x10_1 + 1))) else (some false)) = some r := H
      have A8 := Aside0.mk A80
      clear A80
      by_cases c9 : t105 = true
      ·subst c9
       have H1 : (path_Right.l0 k1 a0 t101 t101 (t101.length : Int) (wrap64 (x10_1 + 1))) = some r := by rw [if_pos rfl] at H; exact H
       clear H
       have H := H1
       clear H1
       have H' := Aside0.mk H
       clear H
       have p104 : 0 ≤ (x10_1 : Int) := of_decide_eq_true (by first | (with_reducible assumption) | assumption)
       have q104 : x10_1 < (t101.length : Int) := of_decide_eq_true (by first | (with_reducible assumption) | assumption)
       obtain ⟨ad104, e104, hx104_0⟩ := Kd.at_string (Kd.R_reads' HO_8.out).2.2 x10_1 p104 q104
       cases e104
       replace p104 := eq_true p104
       replace q104 := eq_true q104
       go_wp2_with (first | ((with_reducible refine gate_callee (f := 88) rfl ?_); refine goesL_ (some 15) rfl rfl Tryd.func88 (by kernel_rfl) rfl #[.string (rdOf ByteArray.empty t101 x10_1)] rfl (by (try simp only [List.map_toArray, List.map_cons, List.map_nil]); first | done | rfl | (simp only [List.length_drop, List.length_take]; rfl)) ?_; (with_reducible refine (path_part.calls (rdOf ByteArray.empty t101 x10_1) true _ A8.out).mono ?_); rintro e w' ⟨rfl, ⟨nd, rfl⟩⟩; refine ⟨_, rfl, ?_⟩))
       go_roundg k1
       case measure => have := HK1.out; omega
       case rel => exact ⟨(wrap64 (x10_1 + 1)), (by first | rfl | (simp; done) | (simp [*]; done)), H', ⟨by have := HK1.out; omega⟩, ⟨by (with_reducible repeat (first | apply Kd.R_alloc | apply Kd.R_drewN | apply Kd.R_drew)); exact HO_3.out⟩, ⟨by (with_reducible repeat (first | apply Kd.R_alloc | apply Kd.R_drewN | apply Kd.R_drew)); exact HO_8.out⟩, ⟨by repeat (first | (with_reducible first | exact HB.out | apply below_alloc | apply pw_below_drewN | apply below_drew1) | exact HB.out)⟩⟩
      ·replace c9 := Bool.eq_false_iff.mpr c9
       subst c9
       have H1 : (some false) = some r := by rw [if_neg (show ¬ (false = true) by decide)] at H; exact H
       clear H
       have H := H1
       clear H1
       obtain rfl := Option.some.inj H
       have p104 : 0 ≤ (x10_1 : Int) := of_decide_eq_true (by first | (with_reducible assumption) | assumption)
       have q104 : x10_1 < (t101.length : Int) := of_decide_eq_true (by first | (with_reducible assumption) | assumption)
       obtain ⟨ad104, e104, hx104_0⟩ := Kd.at_string (Kd.R_reads' HO_8.out).2.2 x10_1 p104 q104
       cases e104
       replace p104 := eq_true p104
       replace q104 := eq_true q104
       go_wp2_with (first | ((with_reducible refine gate_callee (f := 88) rfl ?_); refine goesL_ (some 15) rfl rfl Tryd.func88 (by kernel_rfl) rfl #[.string (rdOf ByteArray.empty t101 x10_1)] rfl (by (try simp only [List.map_toArray, List.map_cons, List.map_nil]); first | done | rfl | (simp only [List.length_drop, List.length_take]; rfl)) ?_; (with_reducible refine (path_part.calls (rdOf ByteArray.empty t101 x10_1) false _ A8.out).mono ?_); rintro e w' ⟨rfl, ⟨nd, rfl⟩⟩; refine ⟨_, rfl, ?_⟩))
       go_ret
       exact ⟨by first | rfl | (simp [errW_none, errW_some] <;> rfl) | (simp [*, errW_none, errW_some] <;> rfl), by repeat (first | (with_reducible first | exact HB.out | apply below_alloc | apply pw_below_drewN | apply below_drew1) | exact HB.out)⟩
     ·rw [if_neg c7] at H
      exact absurd H (by simp)
    ·rw [if_neg c6] at H
     exact absurd H (by simp)
   ·rw [if_neg c5] at H
    have c5b0 : decide (x10_1 < (t101.length : Int)) = false := decide_eq_false c5
    clear c5
    by_cases c10 : (t101.length : Int) ≤ 12
    ·rw [if_pos c10] at H
     have c10b0 : decide ((t101.length : Int) ≤ 12) = true := decide_eq_true c10
     have c10b1 : decide (t101.length ≤ 12) = true := decide_eq_true (by omega)
     clear c10
     obtain rfl := Option.some.inj H
     go_wp2
     go_ret
     exact ⟨by first | rfl | (simp [errW_none, errW_some] <;> rfl) | (simp [*, errW_none, errW_some] <;> rfl), by repeat (first | (with_reducible first | exact HB.out | apply below_alloc | apply pw_below_drewN | apply below_drew1) | exact HB.out)⟩
    ·rw [if_neg c10] at H
     have c10b0 : decide ((t101.length : Int) ≤ 12) = false := decide_eq_false c10
     have c10b1 : decide (t101.length ≤ 12) = false := decide_eq_false (by omega)
     clear c10
     obtain rfl := Option.some.inj H
     go_wp2
     go_ret
     exact ⟨by first | rfl | (simp [errW_none, errW_some] <;> rfl) | (simp [*, errW_none, errW_some] <;> rfl), by repeat (first | (with_reducible first | exact HB.out | apply below_alloc | apply pw_below_drewN | apply below_drew1) | exact HB.out)⟩
end Go.Proofs.YtcdmgdegohcmhaaDoor.PA
namespace Go.Proofs.YtcdmgdegohcmhaaDoor.PA
open Go.RowKit Go.Proofs.YtcdmgdegohcmhaaDoorW.PrintWords Go.Proofs.YtcdmgdegohcmhaaDoorW.PrintLast Go.Proofs.YtcdmgdegohcmhaaDoorW.PrintMore
attribute [local go_sem] max2_int min2_int max_two min_two max_three min_three max_four min_four
set_option linter.unusedVariables false
set_option linter.unusedSimpArgs false
def partB (s : ByteArray) : Bool := !(s.toList == []) && decide ((s.size : Int) ≤ 48) && !(s.toList == [46]) && !(s.toList == [46, 46]) && decide (Lib.indexByte s.data.toList 0 < 0)
theorem part_f (s : ByteArray) : path_part.f s = some (partB s) := by
 unfold path_part.f partB
 by_cases h1 : s.toList = ([] : List UInt8)
 ·rw [if_pos h1, beq_iff_eq.mpr h1]
  rfl
 ·rw [if_neg h1, beq_eq_false_iff_ne.mpr h1]
  by_cases h2 : (s.size : Int) ≤ 48
  ·rw [if_pos h2, decide_eq_true h2]
   by_cases h3 : s.toList = ([46] : List UInt8)
   ·rw [if_pos h3, beq_iff_eq.mpr h3]
    rfl
   ·rw [if_neg h3, beq_eq_false_iff_ne.mpr h3]
    by_cases h4 : s.toList = ([46, 46] : List UInt8)
    ·rw [if_pos h4, beq_iff_eq.mpr h4]
     rfl
    ·rw [if_neg h4, beq_eq_false_iff_ne.mpr h4]
     rfl
  ·rw [if_neg h2, decide_eq_false h2]
   rfl
def rightB (p : ByteArray) : Bool := (splitL p).all partB && decide (((splitL p).length : Int) ≤ 12) && decide ((p.size : Int) ≤ 200)
theorem right_l (p : ByteArray) (l : List ByteArray) (hl : l.length < 9223372036854775807) : ∀ k j : Nat, j ≤ l.length → l.length - j < k → path_Right.l0 k p l l (l.length : Int) (j : Int) = some ((l.drop j).all partB && decide ((l.length : Int) ≤ 12) && decide ((p.size : Int) ≤ 200))
 | 0, j, _, h => by omega
 | k + 1, j, hj, h => by
  unfold path_Right.l0
  by_cases hlt : j < l.length
  ·rw [if_pos (show (j : Int) < (l.length : Int) by omega), if_pos (show 0 ≤ (j : Int) by omega), if_pos (show (j : Int) < (l.length : Int) by omega), part_f]
   have e : rdOf ByteArray.empty l (j : Int) = l[j]'hlt := by
    simp [rdOf, hlt]
   rw [e, List.drop_eq_getElem_cons hlt]
   show (if partB (l[j]'hlt) = true then _ else _) = _
   cases hp : partB (l[j]'hlt) with
   | true =>
    rw [if_pos rfl, wr64 _ (by omega) (by omega)]
    have ih := right_l p l hl k (j + 1) (by omega) (by omega)
    rw [show ((j : Int) + 1) = ((j + 1 : Nat) : Int) by omega, ih, List.all_cons, hp, Bool.true_and]
   | false =>
    rw [if_neg (by decide), List.all_cons, hp]
    rfl
  ·have hje : j = l.length := by omega
   rw [if_neg (show ¬ (j : Int) < (l.length : Int) by omega), hje, List.drop_length]
   by_cases h12 : (l.length : Int) ≤ 12
   ·rw [if_pos h12, decide_eq_true h12]
    rfl
   ·rw [if_neg h12, decide_eq_false h12]
    rfl
theorem splitL_len (s : ByteArray) : (splitL s).length ≤ s.size + 1 := by
 have := splitTo_len s s.size
 unfold splitL
 split
 ·exact Nat.zero_le _
 ·simp
  omega
theorem right_f (p : ByteArray) (hs : p.size < 4398046511104) (k : Nat) (hk : p.size + 1 < k) : path_Right.f k p = some (rightB p) := by
 unfold path_Right.f path_Split.f
 rw [if_pos hs]
 have h := splitL_len p
 show path_Right.l0 k p (splitL p) (splitL p) ((splitL p).length : Int) 0 = _
 exact right_l p (splitL p) (by omega) k 0 (by omega) (by omega)
end Go.Proofs.YtcdmgdegohcmhaaDoor.PA
namespace Go.Proofs.YtcdmgdegohcmhaaDoor.PA
open Go.RowKit Go.Proofs.YtcdmgdegohcmhaaDoorW.PrintWords Go.Proofs.YtcdmgdegohcmhaaDoorW.PrintLast Go.Proofs.YtcdmgdegohcmhaaDoorW.PrintMore
attribute [local go_sem] max2_int min2_int max_two min_two max_three min_three max_four min_four
set_option linter.unusedVariables false
set_option linter.unusedSimpArgs false
def joinB (l0 : List ByteArray) (a1 : ByteArray) : ByteArray := ⟨(Lib.join (l0.map (·.data.toList)) a1.data.toList).toArray⟩
end Go.Proofs.YtcdmgdegohcmhaaDoor.PA
namespace Go.Proofs.YtcdmgdegohcmhaaDoor.PA
open Go.RowKit Go.Proofs.YtcdmgdegohcmhaaDoorW.PrintWords Go.Proofs.YtcdmgdegohcmhaaDoorW.PrintLast Go.Proofs.YtcdmgdegohcmhaaDoorW.PrintMore
attribute [local go_sem] max2_int min2_int max_two min_two max_three min_three max_four min_four
set_option linter.unusedVariables false
set_option linter.unusedSimpArgs false
def spl : List UInt8 → List (List UInt8)
 | [] => [[]]
 | x :: t => if x = 47 then [] :: spl t else match spl t with
  | [] => [[x]]
  | h :: r => (x :: h) :: r
theorem spl_ne : ∀ s, spl s ≠ []
 | [] => by simp [spl]
 | x :: t => by
  rw [spl]
  split
  ·simp
  ·split <;> simp
theorem spl_cons (x : UInt8) (t : List UInt8) (h : x ≠ 47) : ∃ a r, spl t = a :: r ∧ spl (x :: t) = (x :: a) :: r := by
 cases hs : spl t with
 | nil => exact absurd hs (spl_ne t)
 | cons a r =>
  refine ⟨a, r, rfl, ?_⟩
  rw [spl, if_neg h, hs]
theorem spl_snoc47 : ∀ s, spl (s ++ [47]) = spl s ++ [[]]
 | [] => rfl
 | x :: t => by
  by_cases h : x = 47
  ·rw [List.cons_append, spl, if_pos h, spl, if_pos h, spl_snoc47 t, List.cons_append]
  ·obtain ⟨a, r, e1, e2⟩ := spl_cons x t h
   obtain ⟨a', r', e3, e4⟩ := spl_cons x (t ++ [47]) h
   rw [spl_snoc47 t, e1, List.cons_append] at e3
   rw [List.cons_append, e4, e2]
   have e5 := List.cons.inj e3
   rw [← e5.1, ← e5.2, List.cons_append]
theorem spl_snoc (c : UInt8) (hc : c ≠ 47) : ∀ (s : List UInt8) (L : List (List UInt8)) (x : List UInt8), spl s = L ++ [x] → spl (s ++ [c]) = L ++ [x ++ [c]]
 | [], L, x, h => by
  cases L with
  | nil =>
   have hx := (List.cons.inj (show ([[]] : List (List UInt8)) = [x] from h)).1
   rw [← hx]
   simp [spl, hc]
  | cons a r =>
   have h1 := (List.cons.inj (show ([[]] : List (List UInt8)) = a :: (r ++ [x]) from h)).2
   simp at h1
 | y :: t, L, x, h => by
  by_cases hy : y = 47
  ·rw [spl, if_pos hy] at h
   cases L with
   | nil =>
    have h1 := (List.cons.inj (show [] :: spl t = [x] from h)).2
    exact absurd h1 (spl_ne t)
   | cons a r =>
    have h1 := List.cons.inj (show [] :: spl t = a :: (r ++ [x]) from h)
    rw [List.cons_append, spl, if_pos hy, spl_snoc c hc t r x h1.2, h1.1]
    rfl
  ·obtain ⟨a, r, e1, e2⟩ := spl_cons y t hy
   rw [e2] at h
   cases L with
   | nil =>
    have h1 := List.cons.inj (show (y :: a) :: r = [x] from h)
    have h2 := spl_snoc c hc t [] a (by rw [e1, h1.2]; rfl)
    obtain ⟨a', r', e3, e4⟩ := spl_cons y (t ++ [c]) hy
    rw [h2] at e3
    have h3 := List.cons.inj (show [a ++ [c]] = a' :: r' from e3)
    rw [List.cons_append, e4, ← h3.1, ← h3.2, ← h1.1]
    rfl
   | cons b q =>
    have h1 := List.cons.inj (show (y :: a) :: r = b :: (q ++ [x]) from h)
    have h2 := spl_snoc c hc t (a :: q) x (by rw [e1, h1.2]; rfl)
    obtain ⟨a', r', e3, e4⟩ := spl_cons y (t ++ [c]) hy
    rw [h2] at e3
    have h3 := List.cons.inj (show a :: (q ++ [x ++ [c]]) = a' :: r' from e3)
    rw [List.cons_append, e4, ← h3.1, ← h3.2, ← h1.1]
    rfl
theorem join_two (x y : List UInt8) (r : List (List UInt8)) : Lib.join (x :: y :: r) [47] = x ++ 47 :: Lib.join (y :: r) [47] := by
 rw [Lib.join_cons, Lib.join_cons]
 simp [Lib.joinTail]
theorem join_spl : ∀ s, Lib.join (spl s) [47] = s
 | [] => rfl
 | x :: t => by
  have ih := join_spl t
  by_cases h : x = 47
  ·rw [spl, if_pos h]
   cases hs : spl t with
   | nil => exact absurd hs (spl_ne t)
   | cons a r => rw [join_two, ← hs, ih, h]; rfl
  ·obtain ⟨a, r, e1, e2⟩ := spl_cons x t h
   rw [e2]
   rw [e1] at ih
   cases r with
   | nil => rw [Lib.join_one] at ih ⊢; rw [ih]
   | cons b q => rw [join_two] at ih ⊢; rw [List.cons_append, ih]
def toL (a : ByteArray) : List UInt8 := a.data.toList
theorem toL_inj {a b : ByteArray} (h : toL a = toL b) : a = b := by
 have := Array.toList_inj.1 (show a.data.toList = b.data.toList from h)
 exact ByteArray.ext this
theorem toL_size (a : ByteArray) : (toL a).length = a.size := by
 rw [toL, Array.length_toList]; rfl
theorem toL_extract (a : ByteArray) (i j : Nat) : toL (a.extract i j) = ((toL a).take j).drop i := by
 unfold toL
 rw [ByteArray.data_extract, Array.toList_extract, List.extract_eq_take_drop, List.drop_take]
theorem take_snoc (a : ByteArray) (k : Nat) (h : k < a.size) : (toL a).take (k + 1) = (toL a).take k ++ [UInt8.ofNat (bt a (k : Int)).toNat] := by
 have hl : k < (toL a).length := by rw [toL_size]; exact h
 rw [List.take_succ_eq_append_getElem hl]
 congr 2
 rw [bt, dif_pos (by simpa using h)]
 simp [toL]
 rfl
theorem u47 (b : Int) (h0 : 0 ≤ b) (h1 : b ≤ 255) : UInt8.ofNat b.toNat = 47 ↔ b = 47 := by
 constructor
 ·intro h
  have := congrArg UInt8.toNat h
  rw [UInt8.toNat_ofNat'] at this
  have e : (47 : UInt8).toNat = 47 := rfl
  rw [e] at this
  omega
 ·intro h; rw [h]; rfl
theorem splitTo_spl (a : ByteArray) : ∀ k, k ≤ a.size → spl ((toL a).take k) = (splitTo a k).1.map toL ++ [((toL a).take k).drop (splitTo a k).2]
 | 0, _ => rfl
 | k + 1, h => by
  have ih := splitTo_spl a k (by omega)
  have hr := bt_range a (k : Int)
  have hle := splitTo_le a k
  have hlen : ((toL a).take k).length = k := by rw [List.length_take, toL_size]; omega
  rw [take_snoc a k (by omega)]
  by_cases hb : bt a (k : Int) = 47
  ·rw [(u47 _ hr.1 (by have := hr.2; omega)).2 hb, spl_snoc47, ih, splitTo_hit a k hb, List.map_append, List.map_cons, List.map_nil, toL_extract]
   congr 1
   simp
   omega
  ·rw [spl_snoc _ (fun e => hb ((u47 _ hr.1 (by have := hr.2; omega)).1 e)) _ _ _ ih, splitTo_miss a k hb, List.drop_append_of_le_length (by rw [hlen]; exact hle)]
theorem split_spl (a : ByteArray) (h : a.size ≠ 0) : (splitL a).map toL = spl (toL a) := by
 have := splitTo_spl a a.size (Nat.le_refl _)
 have e : (toL a).take a.size = toL a := List.take_of_length_le (by rw [toL_size]; exact Nat.le_refl _)
 rw [e] at this
 rw [splitL, if_neg h, this, List.map_append, List.map_cons, List.map_nil, toL_extract, e]
theorem size_zero {a : ByteArray} (h : a.size = 0) : a = ⟨#[]⟩ := by
 apply toL_inj
 have : (toL a).length = 0 := by rw [toL_size]; exact h
 rw [List.length_eq_zero_iff.1 this]
 rfl
theorem toL_joinB (l : List ByteArray) : toL (joinB l ⟨#[47]⟩) = Lib.join (l.map toL) [47] := by
 unfold joinB toL
 rfl
theorem joinB_split (a : ByteArray) : joinB (splitL a) ⟨#[47]⟩ = a := by
 by_cases h : a.size = 0
 ·rw [splitL, if_pos h, size_zero h]; rfl
 ·apply toL_inj
  rw [toL_joinB, split_spl a h, join_spl]
end Go.Proofs.YtcdmgdegohcmhaaDoor.PA
namespace Go.Proofs.YtcdmgdegohcmhaaDoor.PA
open Go.RowKit Go.Proofs.YtcdmgdegohcmhaaDoorW.PrintWords Go.Proofs.YtcdmgdegohcmhaaDoorW.PrintLast Go.Proofs.YtcdmgdegohcmhaaDoorW.PrintMore
attribute [local go_sem] max2_int min2_int max_two min_two max_three min_three max_four min_four   -- for this text's walks alone
set_option linter.unusedVariables false
set_option linter.unusedSimpArgs false
end Go.Proofs.YtcdmgdegohcmhaaDoor.PA
namespace Go.Proofs.YtcdmgdegohcmhaaDoor.PA
open Go.RowKit Go.Proofs.YtcdmgdegohcmhaaDoorW.PrintWords Go.Proofs.YtcdmgdegohcmhaaDoorW.PrintLast Go.Proofs.YtcdmgdegohcmhaaDoorW.PrintMore
attribute [local go_sem] max2_int min2_int max_two min_two max_three min_three max_four min_four
set_option linter.unusedVariables false
set_option linter.unusedSimpArgs false
theorem rsplit_l (s : ByteArray) (hs : s.size < 4398046511104) : ∀ k j : Nat, j ≤ s.size → s.size + 1 - j < k → remoraref13_Split.l0 k s (splitTo s j).1 ((splitTo s j).2 : Int) (j : Int) = some ((splitTo s s.size).1 ++ [s.extract (splitTo s s.size).2 s.size])
 | 0, j, _, h => by omega
 | k + 1, j, hj, h => by
  have hle := splitTo_le s j
  have hlen := splitTo_len s j
  have e2 : wrap64 ((j : Int) + 1) = ((j + 1 : Nat) : Int) := by rw [wr64 _ (by omega) (by omega)]; rfl
  unfold remoraref13_Split.l0
  rw [if_pos (show (j : Int) ≤ (s.size : Int) by omega), e2]
  by_cases hlt : j < s.size
  ·rw [if_neg (show ¬ (j : Int) = (s.size : Int) by omega), if_pos (show 0 ≤ (j : Int) by omega), if_pos (show (j : Int) < (s.size : Int) by omega)]
   by_cases hb : bt s (j : Int) = 47
   ·have hh := splitTo_hit s j hb
    rw [if_pos hb, if_pos (by omega), if_pos (by omega), if_pos (by omega)]
    have ih := rsplit_l s hs k (j + 1) (by omega) (by omega)
    rw [hh] at ih
    exact ih
   ·have hh := splitTo_miss s j hb
    rw [if_neg hb]
    have ih := rsplit_l s hs k (j + 1) (by omega) (by omega)
    rw [hh] at ih
    exact ih
  ·obtain rfl : j = s.size := by omega
   rw [if_pos rfl, if_pos (by omega), if_pos (by omega), if_pos (by omega)]
   cases k with
   | zero => omega
   | succ k =>
    unfold remoraref13_Split.l0
    rw [if_neg (by omega)]
    rfl
theorem rsplit_f (s : ByteArray) (hs : s.size < 4398046511104) (k : Nat) (hk : s.size + 1 < k) : remoraref13_Split.f k s = some (splitL s) := by
 unfold remoraref13_Split.f splitL
 by_cases h : s.toList = ([] : List UInt8)
 ·have h1 := congrArg List.length h
  rw [ByteArray.toList_eq, data_length] at h1
  rw [if_pos h, if_pos (show s.size = 0 from h1)]
 ·rw [if_neg h, if_neg]
  ·exact rsplit_l s hs k 0 (by omega) (by omega)
  ·intro h0
   refine h (List.eq_nil_of_length_eq_zero ?_)
   rw [ByteArray.toList_eq, data_length]
   exact h0
end Go.Proofs.YtcdmgdegohcmhaaDoor.PA
namespace Go.Proofs.YtcdmgdegohcmhaaDoor.PA
open Go.RowKit Go.Proofs.YtcdmgdegohcmhaaDoorW.PrintWords Go.Proofs.YtcdmgdegohcmhaaDoorW.PrintLast Go.Proofs.YtcdmgdegohcmhaaDoorW.PrintMore
attribute [local go_sem] max2_int min2_int max_two min_two max_three min_three max_four min_four
set_option linter.unusedVariables false
set_option linter.unusedSimpArgs false
theorem tl_eq (a b : ByteArray) : a.toList = b.toList ↔ a = b := by
 constructor
 ·intro h
  rw [ByteArray.toList_eq, ByteArray.toList_eq] at h
  exact toL_inj h
 ·intro h; rw [h]
theorem tl_beq (a b : ByteArray) : (a.toList == b.toList) = decide (a = b) := by
 by_cases h : a = b
 ·rw [decide_eq_true h, h]; exact beq_self_eq_true _
 ·rw [decide_eq_false h]; exact beq_eq_false_iff_ne.2 (fun e => h ((tl_eq a b).1 e))
theorem rdOf_get (l : List ByteArray) (i : Nat) (h : i < l.length) : rdOf ByteArray.empty l (i : Int) = l[i] := by
 simp [rdOf, h]
def cmpL : List ByteArray → List ByteArray → Int
 | [], [] => 0
 | [], _ :: _ => -1
 | _ :: _, [] => 1
 | a :: s, b :: t => if Op.bytesLess a.toList b.toList = true then -1 else if a = b then cmpL s t else 1
theorem cmp_f (a b : ByteArray) : cmp_Compare_string.f a b = some (if Op.bytesLess a.toList b.toList = true then -1 else if a = b then 0 else 1) := by
 rw [cmp_Compare_string.f, tl_beq]
 by_cases h : a = b
 ·simp [h]
 ·simp [h]
theorem compare_l (x y : List ByteArray) (hx : x.length < 4611686018427387904) : ∀ (m i k : Nat), x.length - i = m → i ≤ x.length → i ≤ y.length → m + 1 ≤ k → slices_Compare_string_string.l0 k x y x (x.length : Int) (i : Int) = some (cmpL (x.drop i) (y.drop i)) := by
 intro m
 induction m with
 | zero =>
  intro i k hm hi hy hk
  obtain ⟨k, rfl⟩ : ∃ j, k = j + 1 := ⟨k - 1, by omega⟩
  obtain rfl : i = x.length := by omega
  rw [slices_Compare_string_string.l0, if_neg (by omega), List.drop_length]
  by_cases h : x.length < y.length
  ·rw [if_pos (by omega), List.drop_eq_getElem_cons h]; rfl
  ·rw [if_neg (by omega), List.drop_eq_nil_of_le (by omega)]; rfl
 | succ m ih =>
  intro i k hm hi hy hk
  obtain ⟨k, rfl⟩ : ∃ j, k = j + 1 := ⟨k - 1, by omega⟩
  have hlt : i < x.length := by omega
  rw [slices_Compare_string_string.l0, if_pos (by omega), if_pos (by omega), if_pos (by omega), List.drop_eq_getElem_cons hlt]
  by_cases hy2 : i < y.length
  ·rw [if_neg (by omega), if_pos (by omega), rdOf_get x i hlt, rdOf_get y i hy2, List.drop_eq_getElem_cons hy2, cmp_f, Option.bind_some, cmpL]
   by_cases h1 : Op.bytesLess (x[i]).toList (y[i]).toList = true
   ·rw [if_pos h1, if_pos h1, if_neg (by decide)]
   ·rw [if_neg h1, if_neg h1]
    by_cases h2 : x[i] = y[i]
    ·rw [if_pos h2, if_pos h2, if_pos rfl, wr64 _ (by omega) (by omega)]
     exact ih (i + 1) k (by omega) (by omega) (by omega) (by omega)
    ·rw [if_neg h2, if_neg h2, if_neg (by decide)]
  ·rw [if_pos (by omega), List.drop_eq_nil_of_le (show y.length ≤ i by omega)]
   rfl
theorem compare_f (x y : List ByteArray) (k : Nat) (hx : x.length < 4611686018427387904) (hk : x.length + 1 ≤ k) : slices_Compare_string_string.f k x y = some (cmpL x y) := by
 have := compare_l x y hx x.length 0 k (by omega) (by omega) (by omega) (by omega)
 rw [List.drop_zero, List.drop_zero] at this
 exact this
def sml (a : ByteArray) : Prop := a.size ≤ 1048576
theorem psplit_f (a : ByteArray) (h : sml a) : path_Split.f a = some (splitL a) := by
 unfold sml at h
 rw [path_Split.f, if_pos (by omega)]
theorem rsp_f (a : ByteArray) (h : sml a) (k : Nat) (hk : 1048580 ≤ k) : remoraref13_Split.f k a = some (splitL a) := by
 unfold sml at h
 exact rsplit_f a (by omega) k (by omega)
theorem spl_len (a : ByteArray) (h : sml a) : (splitL a).length ≤ 1048577 := by
 unfold sml at h
 have := splitL_len a
 omega
theorem less_f (a b : ByteArray) (ha : sml a) (hb : sml b) (k : Nat) (hk : 1048580 ≤ k) : path_Less.f k a b = some (decide (cmpL (splitL a) (splitL b) < 0)) := by
 have := spl_len a ha
 rw [path_Less.f, psplit_f a ha, Option.bind_some, psplit_f b hb, Option.bind_some, compare_f _ _ k (by omega) (by omega), Option.bind_some]
theorem less_tail (a b : ByteArray) (s t : List ByteArray) (h : a ≠ b) : decide (cmpL (a :: s) (b :: t) < 0) = Op.bytesLess a.toList b.toList := by
 rw [cmpL]
 by_cases h1 : Op.bytesLess a.toList b.toList = true
 ·rw [if_pos h1, h1]; rfl
 ·rw [if_neg h1, if_neg h, Bool.eq_false_iff.2 h1]; rfl
theorem less_same (a : ByteArray) (s t : List ByteArray) (h : Op.bytesLess a.toList a.toList = false) : cmpL (a :: s) (a :: t) = cmpL s t := by
 rw [cmpL, if_neg (by rw [h]; decide), if_pos rfl]
theorem bl_irr : ∀ l : List UInt8, Op.bytesLess l l = false
 | [] => rfl
 | a :: t => by
  rw [Op.bytesLess, bl_irr t]
  simp
theorem rless_l (x y : List ByteArray) (hx : x.length < 4611686018427387904) : ∀ (m i k : Nat), x.length - i = m → i ≤ x.length → i ≤ y.length → 2 * m + 2 ≤ k → remoraref13_Less.l0 k x y (i : Int) = some (decide (cmpL (x.drop i) (y.drop i) < 0)) := by
 intro m
 induction m with
 | zero =>
  intro i k hm hi hy hk
  obtain ⟨k, rfl⟩ : ∃ j, k = j + 2 := ⟨k - 2, by omega⟩
  obtain rfl : i = x.length := by omega
  rw [remoraref13_Less.l0, if_neg (by omega), remoraref13_Less.j1, if_neg (by decide), List.drop_length]
  by_cases h : x.length < y.length
  ·rw [List.drop_eq_getElem_cons h, decide_eq_true (by omega)]; rfl
  ·rw [List.drop_eq_nil_of_le (by omega), decide_eq_false (by omega)]; rfl
 | succ m ih =>
  intro i k hm hi hy hk
  obtain ⟨k, rfl⟩ : ∃ j, k = j + 2 := ⟨k - 2, by omega⟩
  have hlt : i < x.length := by omega
  rw [remoraref13_Less.l0, if_pos (by omega), remoraref13_Less.j1, List.drop_eq_getElem_cons hlt]
  by_cases hy2 : i < y.length
  ·rw [if_pos (decide_eq_true (by omega)), if_pos (by omega), if_pos (by omega), if_pos (by omega), rdOf_get x i hlt, rdOf_get y i hy2, List.drop_eq_getElem_cons hy2]
   by_cases h : x[i] = y[i]
   ·rw [if_pos ((tl_eq _ _).2 h), wr64 _ (by omega) (by omega), h, less_same _ _ _ (bl_irr _)]
    exact ih (i + 1) k (by omega) (by omega) (by omega) (by omega)
   ·rw [if_neg (fun e => h ((tl_eq _ _).1 e)), less_tail _ _ _ _ h]
  ·rw [if_neg (by rw [decide_eq_false (by omega)]; decide), List.drop_eq_nil_of_le (show y.length ≤ i by omega), decide_eq_false (by omega)]
   rfl
theorem rless_f (a b : ByteArray) (ha : sml a) (hb : sml b) (k : Nat) (hk : 3000000 ≤ k) : remoraref13_Less.f k a b = some (decide (cmpL (splitL a) (splitL b) < 0)) := by
 have h1 := spl_len a ha
 rw [remoraref13_Less.f, rsp_f a ha k (by omega), Option.bind_some, rsp_f b hb k (by omega), Option.bind_some]
 exact rless_l _ _ (by omega) _ 0 k rfl (by omega) (by omega) (by omega)
end Go.Proofs.YtcdmgdegohcmhaaDoor.PA
namespace Go.Proofs.YtcdmgdegohcmhaaDoor.PA
open Go.RowKit Go.Proofs.YtcdmgdegohcmhaaDoorW.PrintWords Go.Proofs.YtcdmgdegohcmhaaDoorW.PrintLast Go.Proofs.YtcdmgdegohcmhaaDoorW.PrintMore
attribute [local go_sem] max2_int min2_int max_two min_two max_three min_three max_four min_four
set_option linter.unusedVariables false
set_option linter.unusedSimpArgs false
open Go Go.Shelf Go.Lib Go.Sort
structure LS (P : Program) : Prop where
 mixed : P.follows .mixedOrders = true
 f109 : P.funcs[109]? = some Tryd.f109
 f107 : P.funcs[107]? = some Tryd.f107
 f105 : P.funcs[105]? = some Tryd.f105
 f104 : P.funcs[104]? = some Tryd.f104
 f100 : P.funcs[100]? = some Tryd.f100
 t3 : P.underlying 3 = some (TypeDesc.int IntKind.i64)
 a3 : ∀ w, (isAgg 3).run P w = .ok false w
 z3 : ∀ w, (Go.sizeOf 3).run P w = .ok 1 w
 v3 : ∀ w, (zeroValue 3).run P w = .ok (Value.int IntKind.i64 0) w
 t4 : P.underlying 4 = some (TypeDesc.bool)
 a4 : ∀ w, (isAgg 4).run P w = .ok false w
 z4 : ∀ w, (Go.sizeOf 4).run P w = .ok 1 w
 v4 : ∀ w, (zeroValue 4).run P w = .ok (Value.bool false) w
 t79 : P.underlying 79 = some (TypeDesc.int IntKind.u64)
 a79 : ∀ w, (isAgg 79).run P w = .ok false w
 z79 : ∀ w, (Go.sizeOf 79).run P w = .ok 1 w
 v79 : ∀ w, (zeroValue 79).run P w = .ok (Value.int IntKind.u64 0) w
 t22 : P.underlying 22 = some (TypeDesc.slice 35)
 a22 : ∀ w, (isAgg 22).run P w = .ok false w
 z22 : ∀ w, (Go.sizeOf 22).run P w = .ok 1 w
 v22 : ∀ w, (zeroValue 22).run P w = .ok (Value.slice none 0 0) w
theorem LS.here : LS Tryd.prog where
 mixed := by kernel_rfl
 f109 := Tryd.func109
 f107 := Tryd.func107
 f105 := Tryd.func105
 f104 := Tryd.func104
 f100 := Tryd.func100
 t3 := Tryd.underlying3
 a3 := Tryd.isAgg3
 z3 := Tryd.sizeOf3
 v3 := Tryd.zeroValue3
 t4 := Tryd.underlying4
 a4 := Tryd.isAgg4
 z4 := Tryd.sizeOf4
 v4 := Tryd.zeroValue4
 t79 := Tryd.underlying79
 a79 := Tryd.isAgg79
 z79 := Tryd.sizeOf79
 v79 := Tryd.zeroValue79
 t22 := Tryd.underlying22
 a22 := Tryd.isAgg22
 z22 := Tryd.sizeOf22
 v22 := Tryd.zeroValue22
theorem LS.e109 {P : Program} (L : LS P) : ∀ args w, (callFunc 109 args).run P w = .ok (.enter 109 args) w := enters_of L.f109 (by kernel_rfl) rfl
theorem LS.e107 {P : Program} (L : LS P) : ∀ args w, (callFunc 107 args).run P w = .ok (.enter 107 args) w := enters_of L.f107 (by kernel_rfl) rfl
theorem LS.e105 {P : Program} (L : LS P) : ∀ args w, (callFunc 105 args).run P w = .ok (.enter 105 args) w := enters_of L.f105 (by kernel_rfl) rfl
theorem LS.e104 {P : Program} (L : LS P) : ∀ args w, (callFunc 104 args).run P w = .ok (.enter 104 args) w := enters_of L.f104 (by kernel_rfl) rfl
section
variable {α : Type} [Inhabited α] (enc : α → List Value) (k : Nat)
def sWB (w : World) (blk off q : Nat) (dk : Array α) (os : Array Obj) : World := grow (redrawn (putRowK enc k w blk off dk) q) os
theorem sWB_regrown (w : World) (blk off q q' : Nat) (dk : Array α) (os os' : Array Obj) : grow (redrawn (sWB enc k w blk off q dk os) q') os' = sWB enc k w blk off q' dk (os ++ os') := by
 unfold sWB
 show grow (grow (redrawn (putRowK enc k w blk off dk) q') os) os' = _
 rw [grow_grow]
theorem sWB_start (w : World) (blk off : Nat) (d : Array α) (h : HoldsK enc k w blk off d) : sWB enc k w blk off w.drawn d #[] = w := by
 unfold sWB
 rw [grow_empty, putRowK_self enc k w blk off d h]
 rfl
theorem sWB_drew (w : World) (blk off q : Nat) (dk : Array α) (os : Array Obj) : (sWB enc k w blk off q dk os).drew = sWB enc k w blk off (q + 1) dk os := rfl
theorem sWB_holds (w : World) (blk off q : Nat) (d dk : Array α) (os : Array Obj) (hH : HoldsK enc k w blk off d) (hblk : blk < w.heap.size) (hs : dk.size = d.size) : HoldsK enc k (sWB enc k w blk off q dk os) blk off dk := by
 unfold sWB
 exact holdsK_grow enc k _ os blk off dk (by show blk < (putRowK enc k w blk off dk).heap.size; rw [size_putRowK]; exact hblk) (show HoldsK enc k (putRowK enc k w blk off dk) blk off dk from holdsK_putRowK enc k _ blk off d dk hH hs)
theorem sWB_size (w : World) (blk off q : Nat) (dk : Array α) (os : Array Obj) : w.heap.size ≤ (sWB enc k w blk off q dk os).heap.size := by
 unfold sWB
 rw [size_grow]
 show w.heap.size ≤ (putRowK enc k w blk off dk).heap.size + _
 rw [size_putRowK]
 exact Nat.le_add_right _ _
theorem setCells_redrawn (b : Nat) : ∀ (vs : List Value) (o q : Nat) (w : World), (redrawn w q).setCells b o vs = redrawn (w.setCells b o vs) q
 | [], _, _, _ => rfl
 | v :: r, o, q, w => by
  rw [World.setCells, World.setCells, ← setCells_redrawn b r (o + 1) q]
  rfl
theorem sWB_swp (hk : ∀ x, (enc x).length = k) (w : World) (blk off q : Nat) (dk : Array α) (os : Array Obj) (hblk : blk < w.heap.size) (i j : Nat) (hi : i < dk.size) (hj : j < dk.size) :
  (((sWB enc k w blk off q dk os).setCells blk (off + i * k) (enc dk[j]!)).setCells blk (off + j * k) (enc dk[i]!)) = sWB enc k w blk off q (swp dk i j) os := by
 have hs : ∀ X : World, X.heap.size = w.heap.size → blk < (redrawn X q).heap.size := fun X h => by show blk < X.heap.size; rw [h]; exact hblk
 unfold sWB
 rw [setCells_grow os blk _ _ _ (hs _ (size_putRowK enc k w blk off dk)), setCells_redrawn, setCells_grow os blk _ _ _ (hs _ (by rw [size_setCells]; exact size_putRowK enc k w blk off dk)), setCells_redrawn, putRowK_swp enc k hk w blk off dk i j hi hj]
theorem sWB_on (w : World) (blk off q q' : Nat) (dk dk' : Array α) (os os' : Array Obj) (hblk : blk < w.heap.size) (h : dk'.size = dk.size) : sWB enc k (sWB enc k w blk off q dk os) blk off q' dk' os' = sWB enc k w blk off q' dk' (os ++ os') := by
 have := grow_step_growK enc k w os os' 0 0 blk off dk dk' hblk h
 unfold sWB
 exact congrArg (fun X => redrawn X q') this
end
def CmpB (P : Program) {α : Type} [Inhabited α] (g : Nat) (cb : Array Value) (enc : α → List Value) (k : Nat) (cf : α → α → Int) (blk off size : Nat) (w : World) : Prop :=
 ∀ (q : Nat) (os : Array Obj) (dk : Array α), dk.size = size → ∀ x y : α,
  Calls P g (#[.agg (enc x).toArray, .agg (enc y).toArray] ++ cb) (sWB enc k w blk off q dk os) fun e w' => e = .returned (.int .i64 (cf x y)) ∧ Below (sWB enc k w blk off q dk os).heap.size (sWB enc k w blk off q dk os) w'
theorem CmpB.on {P : Program} {α : Type} [Inhabited α] {g : Nat} {cb : Array Value} {enc : α → List Value} {k : Nat} {cf : α → α → Int} {blk off size : Nat} {w : World} (h : CmpB P g cb enc k cf blk off size w) (hblk : blk < w.heap.size) (q : Nat) (dk : Array α) (os : Array Obj) (hs : dk.size = size) : CmpB P g cb enc k cf blk off size (sWB enc k w blk off q dk os) := fun q' os' dk' hs' x y => by
 rw [sWB_on enc k w blk off q q' dk dk' os os' hblk (hs'.trans hs.symm)]
 exact h q' _ dk' hs' x y
def swapsA {α : Type} [Inhabited α] (d : Array α) (a b : Nat) : Nat → Array α
 | 0 => d
 | n + 1 => swp (swapsA d a b n) (a + n) (b + n)
theorem size_swapsA {α : Type} [Inhabited α] (d : Array α) (a b : Nat) : ∀ n, (swapsA d a b n).size = d.size
 | 0 => rfl
 | n + 1 => by rw [swapsA, size_swp, size_swapsA d a b n]
set_option maxHeartbeats 4000000 in
set_option maxRecDepth 1000000 in
theorem swapRange_call {P : Program} (L : LS P) {α : Type} [Inhabited α] (enc : α → List Value) (k : Nat) (aE : ∀ w, (isAgg 35).run P w = .ok true w) (zE : ∀ w, (Go.sizeOf 35).run P w = .ok k w) (hk : ∀ x, (enc x).length = k) (h1 : ∀ x, ∀ v ∈ enc x, v.oneCell' = true)
  (fv : Value) (blk off cap a b n : Nat) (d : Array α) (w : World) (hH : HoldsK enc k w blk off d) (hblk : blk < w.heap.size) (ha : a + n ≤ d.size) (hb : b + n ≤ d.size) (hsz : d.size < 1000000000000) :
  Calls P 109 #[.slice (some ⟨blk, off, none⟩) d.size cap, .int .i64 a, .int .i64 b, .int .i64 n, fv] w fun e w' =>
   e = .returned (.tuple #[]) ∧ ∃ q os, w' = sWB enc k w blk off q (swapsA d a b n) os := by
 have mixed := L.mixed
 have t3 := L.t3; have a3 := L.a3; have z3 := L.z3; have v3 := L.v3; have t4 := L.t4; have a4 := L.a4; have z4 := L.z4; have v4 := L.v4; have t79 := L.t79; have a79 := L.a79; have z79 := L.z79; have v79 := L.v79; have t22 := L.t22; have a22 := L.a22; have z22 := L.z22; have v22 := L.v22
 have F := L.f109
 have HST : Hid (w = sWB enc k w blk off w.drawn d #[]) := (sWB_start enc k w blk off d hH).symm
 have HH : Hid (HoldsK enc k w blk off d) := hH
 have HK : Hid (∀ x, (enc x).length = k) := hk
 have H1 : Hid (∀ x, ∀ v ∈ enc x, v.oneCell' = true) := h1
 clear hH hk h1
 go_enter F, Tryd.ntmps109
 go_wp2
 go_loopg [10] n (fun g1 vi wr => ∃ (i q : Nat) (os : Array Obj), vi = .int .i64 i ∧ i ≤ n ∧ n - i ≤ g1 ∧ wr = sWB enc k w blk off q (swapsA d a b i) os)
 case atStart => exact ⟨0, _, #[], by go_num, by omega, by omega, HST.out⟩
 case round =>
  obtain ⟨i, q, os, rfl, hi, hg1, rfl⟩ := hrel
  obtain ⟨dk, hdk⟩ : ∃ dk, swapsA d a b i = dk := ⟨_, rfl⟩
  have hsk : dk.size = d.size := by rw [← hdk, size_swapsA]
  by_cases hlt : i < n
  ·have hltz : (i : Int) < (n : Int) := by omega
   obtain ⟨xa, hxa⟩ : ∃ x, dk[a + i]! = x := ⟨_, rfl⟩
   obtain ⟨xb, hxb⟩ : ∃ x, dk[b + i]! = x := ⟨_, rfl⟩
   have ja0 : (0 : Int) ≤ (a : Int) + (i : Int) := by omega
   have jb0 : (0 : Int) ≤ (b : Int) + (i : Int) := by omega
   have ja : (a : Int) + (i : Int) < (d.size : Int) := by omega
   have jb : (b : Int) + (i : Int) < (d.size : Int) := by omega
   have ea : ((a : Int) + (i : Int)).toNat = a + i := by omega
   have eb : ((b : Int) + (i : Int)).toNat = b + i := by omega
   have hHd : HoldsK enc k (sWB enc k w blk off q dk os).drew blk off dk := sWB_holds enc k w blk off q d dk os HH.out hblk hsk
   have bnd : ∀ x, x < dk.size → x * k + k ≤ dk.size * k := fun x hx => by
    have := Nat.mul_le_mul_right k (show x + 1 ≤ dk.size from hx); rwa [Nat.add_mul, Nat.one_mul] at this
   rw [hdk]
   have HDK : Hid (swapsA d a b (i + 1) = swp dk (a + i) (b + i)) := by show _ = _; rw [swapsA, hdk]
   clear hdk
   have HSW : Hid (((sWB enc k w blk off q dk os).drew.setCells blk (off + (a + i) * k) (enc xb)).setCells blk (off + (b + i) * k) (enc xa) = sWB enc k w blk off (q + 1) (swp dk (a + i) (b + i)) os) := by
    show _ = _
    rw [sWB_drew, ← hxb, ← hxa]
    exact sWB_swp enc k HK.out w blk off (q + 1) dk os hblk (a + i) (b + i) (by omega) (by omega)
   generalize sWB enc k w blk off q dk os = wq at hHd HSW ⊢
   have la : Sem.run P (loadCellsFrom ⟨blk, off + (a + i) * k, none⟩ 0 k #[]) wq.drew = .ok (enc xa).toArray wq.drew := by rw [← hxa]; exact run_loadCellsFrom_list P _ _ _ k (HK.out _) (HoldsK.cells hHd HK.out (by omega))
   have lb : Sem.run P (loadCellsFrom ⟨blk, off + (b + i) * k, none⟩ 0 k #[]) wq.drew = .ok (enc xb).toArray wq.drew := by rw [← hxb]; exact run_loadCellsFrom_list P _ _ _ k (HK.out _) (HoldsK.cells hHd HK.out (by omega))
   have s1 : Sem.run P (storeCells ⟨blk, off + (a + i) * k, none⟩ (enc xb) 0) wq.drew = .ok () (wq.drew.setCells blk (off + (a + i) * k) (enc xb)) := stores_of_holds P hHd ((a + i) * k) _ (by rw [HK.out, size_flatK]; exact bnd (a + i) (by omega)) (H1.out _)
   have s2 : Sem.run P (storeCells ⟨blk, off + (b + i) * k, none⟩ (enc xa) 0) (wq.drew.setCells blk (off + (a + i) * k) (enc xb)) = .ok () ((wq.drew.setCells blk (off + (a + i) * k) (enc xb)).setCells blk (off + (b + i) * k) (enc xa)) :=
    stores_of_holds P (holds_setCells_c hHd ((a + i) * k) _ (by rw [HK.out, size_flatK]; exact bnd (a + i) (by omega))) ((b + i) * k) _ (by rw [HK.out, size_setMany, size_flatK]; exact bnd (b + i) (by omega)) (H1.out _)
   have hsA : (enc xa).length = k := HK.out _
   have hsB : (enc xb).length = k := HK.out _
   clear hHd bnd hxa hxb
   obtain ⟨cA, hcA⟩ : ∃ c, enc xa = c := ⟨_, rfl⟩
   obtain ⟨cB, hcB⟩ : ∃ c, enc xb = c := ⟨_, rfl⟩
   rw [hcA] at la s2 hsA HSW
   rw [hcB] at lb s1 s2 hsB HSW
   clear hcA hcB
   go_wp2_with fail
   go_big_region_o
   all_goals go_wp2
   go_roundg (n - (i + 1))
   case measure => omega
   case rel => exact ⟨i + 1, q + 1, os, by go_num, by omega, Nat.le_refl _, by rw [HDK.out]; exact HSW.out⟩
  ·have hltz : ¬ (i : Int) < (n : Int) := by omega
   obtain rfl : i = n := by omega
   go_wp2
   go_end0
   exact ⟨rfl, q, os, rfl⟩
end Go.Proofs.YtcdmgdegohcmhaaDoor.PA
namespace Go.Proofs.YtcdmgdegohcmhaaDoor.PA
open Go.RowKit Go.Proofs.YtcdmgdegohcmhaaDoorW.PrintWords Go.Proofs.YtcdmgdegohcmhaaDoorW.PrintLast Go.Proofs.YtcdmgdegohcmhaaDoorW.PrintMore
attribute [local go_sem] max2_int min2_int max_two min_two max_three min_three max_four min_four
set_option linter.unusedVariables false
set_option linter.unusedSimpArgs false
open Go Go.Shelf Go.Lib Go.Sort
abbrev E35 := {x : S35 // sml x.f0}
instance : Inhabited E35 := ⟨⟨z35, Nat.zero_le _⟩⟩
def cells35 (x : S35) : List Value := [.string x.f0, .int .i64 x.f1, .int .i64 x.f2, .int .i64 x.f3.f0, .int .i64 x.f3.f1, .int .i64 x.f3.f2, .int .i64 x.f3.f3, .int .i64 x.f3.f4, .string x.f4, .string x.f5, .int .i64 x.f6]
def enc35 (x : E35) : List Value := cells35 x.1
theorem enc35_len (x : E35) : (enc35 x).length = 11 := rfl
theorem enc35_one (x : E35) : ∀ v ∈ enc35 x, v.oneCell' = true := by
 intro v hv
 simp only [enc35, cells35, List.mem_cons, List.not_mem_nil, or_false] at hv
 rcases hv with rfl | rfl | rfl | rfl | rfl | rfl | rfl | rfl | rfl | rfl | rfl <;> rfl
theorem lift35 : ∀ l : List S35, (∀ x ∈ l, sml x.f0) → ∃ m : List E35, m.map (·.1) = l
 | [], _ => ⟨[], rfl⟩
 | x :: l, h => by
  obtain ⟨m, hm⟩ := lift35 l (fun y hy => h y (by simp [hy]))
  exact ⟨⟨x, h x (by simp)⟩ :: m, by simp [hm]⟩
theorem row_holds {W : World} {base : Nat} {v : Value} (m : List E35) (h : Kd.R k35 35 W base (fun _ => True) v (m.map (·.1))) :
  (v = .slice none 0 0 ∧ m = []) ∨ ∃ g cap cur, v = .slice (some ⟨g, 0, none⟩) m.length cap ∧ base ≤ g ∧ W.heap[g]? = some (.cells cur 35 (0, 0)) ∧ m.length ≤ cap ∧ cap ≤ maxLen ∧ cur.size = cap * 11 ∧ HoldsK enc35 11 W g 0 m.toArray := by
 obtain ⟨_, inner, ho, hr⟩ := h
 have hml : (m.map (·.1)).length = m.length := List.length_map _
 rw [hml] at ho
 obtain ⟨hil, ho⟩ := ho
 rcases ho with ⟨rfl, h0⟩ | ⟨g, cap, cur, rfl, hb, hh, h1, h2, h3, h4⟩
 ·exact Or.inl ⟨rfl, List.length_eq_zero_iff.1 h0⟩
 ·refine Or.inr ⟨g, cap, cur, rfl, hb, hh, h1, h2, h3, fun t ht => ?_⟩
  rw [size_flatK] at ht
  have ht' : t < m.length * 11 := by simpa using ht
  refine ⟨?_, by rw [Nat.zero_add]; exact blk_frozen hh t⟩
  rw [Nat.zero_add, blk_cell hh t, get_flatK enc35 11 m.toArray t ht]
  have hj : t / 11 < m.length := by omega
  have hp : (m.map (·.1))[t / 11]? = some (m[t / 11]).1 := by rw [List.getElem?_map, List.getElem?_eq_getElem hj]; rfl
  have hc := k35_openM (hr.2 (t / 11) _ hp)
  have hc : (inner.drop (t / 11 * 11)).take 11 = cells35 (m[t / 11]).1 := hc
  have he : inner[t]? = (cells35 (m[t / 11]).1)[t % 11]? := by
   rw [← hc, List.getElem?_take, if_pos (by omega), List.getElem?_drop]
   congr 1
   omega
  have hcur : cur[t]? = inner[t]? := by
   rw [← h4, List.getElem?_take, if_pos (by show t < m.length * k35.sz; exact ht'), Array.getElem?_toList]
  have hd : m.toArray[t / 11]! = m[t / 11] := by
   simp [hj]
  rw [hcur, he, hd]
  show (cells35 (m[t / 11]).1)[t % 11]? = some ((cells35 (m[t / 11]).1)[t % 11]!)
  have hl : (cells35 (m[t / 11]).1).length = 11 := rfl
  rw [List.getElem?_eq_getElem (by omega), getElem!_pos _ _ (by omega)]
theorem holds_row {W : World} {base g cap : Nat} {cur : Array Value} (d : Array E35) (hb : base ≤ g) (hh : W.heap[g]? = some (.cells cur 35 (0, 0))) (h1 : d.size ≤ cap) (h2 : cap ≤ maxLen) (h3 : cur.size = cap * 11) (hH : HoldsK enc35 11 W g 0 d) :
  Kd.R k35 35 W base (fun _ => True) (.slice (some ⟨g, 0, none⟩) d.size cap) (d.toList.map (·.1)) := by
 have hml : (d.toList.map (·.1)).length = d.size := by rw [List.length_map, Array.length_toList]
 refine ⟨fun _ _ => trivial, cur.toList.take (d.size * 11), ?_, ?_⟩
 ·rw [hml]
  refine ⟨?_, Or.inr ⟨g, cap, cur, rfl, hb, hh, h1, h2, h3, rfl⟩⟩
  rw [List.length_take, Array.length_toList, h3]
  show min (d.size * 11) (cap * 11) = d.size * 11
  omega
 ·refine ⟨?_, fun j p hp => ?_⟩
  ·rw [hml, List.length_take, Array.length_toList, h3]
   show min (d.size * 11) (cap * 11) = d.size * 11
   omega
  ·have hj : j < d.size := by
    have := (List.getElem?_eq_some_iff.1 hp).1
    omega
   have hpe : p = (d[j]).1 := by
    rw [List.getElem?_map, List.getElem?_eq_getElem (by rw [Array.length_toList]; exact hj)] at hp
    simpa using hp.symm
   have hcell : ((cur.toList.take (d.size * 11)).drop (j * 11)).take 11 = cells35 p := by
    apply List.ext_getElem?
    intro i
    by_cases hi : i < 11
    ·rw [List.getElem?_take, if_pos hi, List.getElem?_drop, List.getElem?_take, if_pos (by omega), Array.getElem?_toList]
     have hF := (hH (j * 11 + i) (by rw [size_flatK]; omega)).1
     rw [Nat.zero_add, blk_cell hh (j * 11 + i), get_flatK enc35 11 d _ (by omega)] at hF
     rw [hF, show (j * 11 + i) / 11 = j by omega, show (j * 11 + i) % 11 = i by omega, hpe, getElem!_pos d j hj]
     show some ((cells35 (d[j]).1)[i]!) = (cells35 (d[j]).1)[i]?
     have hl : (cells35 (d[j]).1).length = 11 := rfl
     rw [List.getElem?_eq_getElem (by omega), getElem!_pos _ _ (by omega)]
    ·rw [List.getElem?_eq_none (by rw [List.length_take]; omega), List.getElem?_eq_none (by show 11 ≤ i; omega)]
   show k35.M W base _ p (((cur.toList.take (d.size * 11)).drop (j * 11)).take 11)
   rw [hcell]
   exact k35_mkM _ _ _ p
theorem sWB_row (w : World) (g q : Nat) (d : Array E35) (os : Array Obj) (cur : Array Value) (hh : w.heap[g]? = some (.cells cur 35 (0, 0))) : ∃ cur', (sWB enc35 11 w g 0 q d os).heap[g]? = some (.cells cur' 35 (0, 0)) ∧ cur'.size = cur.size := by
 have hlt : g < w.heap.size := (Array.getElem?_eq_some_iff.1 hh).1
 refine ⟨putCells id 0 (flatK enc35 11 d) cur, ?_, by unfold putCells; simp⟩
 unfold sWB grow redrawn putRowK putRow mapBlock
 show ((w.heap.modify g _) ++ os)[g]? = _
 rw [Array.getElem?_append_left (by rw [Array.size_modify]; exact hlt), Array.getElem?_modify, if_pos rfl, hh]
 rfl
theorem sWB_below (w : World) (g q b : Nat) (d : Array E35) (os : Array Obj) (hb : b ≤ g) (hg : g < w.heap.size) : Below b w (sWB enc35 11 w g 0 q d os) := by
 refine ⟨rfl, rfl, rfl, sWB_size enc35 11 w g 0 q d os, fun k hk => ?_⟩
 unfold sWB grow redrawn putRowK putRow mapBlock
 show ((w.heap.modify g _) ++ os)[k]? = _
 rw [Array.getElem?_append_left (by rw [Array.size_modify]; omega), Array.getElem?_modify, if_neg (by omega)]
end Go.Proofs.YtcdmgdegohcmhaaDoor.PA
namespace Go.Proofs.YtcdmgdegohcmhaaDoor.PA
open Go.RowKit Go.Proofs.YtcdmgdegohcmhaaDoorW.PrintWords Go.Proofs.YtcdmgdegohcmhaaDoorW.PrintLast Go.Proofs.YtcdmgdegohcmhaaDoorW.PrintMore
attribute [local go_sem] max2_int min2_int max_two min_two max_three min_three max_four min_four
set_option linter.unusedVariables false
set_option linter.unusedSimpArgs false
def ltS (x y : S35) : Bool := decide (cmpL (splitL x.f0) (splitL y.f0) < 0)
def cf35 (x y : E35) : Int := if ltS x.1 y.1 = true then -1 else if ltS y.1 x.1 = true then 1 else 0
theorem ltOf_cf35 (x y : E35) : ltOf cf35 x y = ltS x.1 y.1 := by
 unfold ltOf cf35
 by_cases h : ltS x.1 y.1 = true
 ·rw [if_pos h, h]
  rfl
 ·rw [if_neg h, show ltS x.1 y.1 = false by simpa using h]
  split <;> rfl
set_option maxHeartbeats 2000000 in
set_option maxRecDepth 100000 in
theorem lessE_call (x y : S35) (hx : sml x.f0) (hy : sml y.f0) (w : World) :
  Calls Tryd.prog 57 #[.agg #[.string x.f0, .int .i64 x.f1, .int .i64 x.f2, .int .i64 x.f3.f0, .int .i64 x.f3.f1, .int .i64 x.f3.f2, .int .i64 x.f3.f3, .int .i64 x.f3.f4, .string x.f4, .string x.f5, .int .i64 x.f6], .agg #[.string y.f0, .int .i64 y.f1, .int .i64 y.f2, .int .i64 y.f3.f0, .int .i64 y.f3.f1, .int .i64 y.f3.f2, .int .i64 y.f3.f3, .int .i64 y.f3.f4, .string y.f4, .string y.f5, .int .i64 y.f6]] w fun e w' => e = .returned (.bool (ltS x y)) ∧ Below w.heap.size w w' := by
 have hu := Tryd.underlying35
 obtain ⟨k, hk⟩ : ∃ k, k = 1048600 := ⟨_, rfl⟩
 have hl := fun W => path_Less.calls k x.f0 y.f0 _ W (less_f x.f0 y.f0 hx hy k (by omega))
 have HB := Aside0.mk (below_alloc (below_alloc (Below.refl w.heap.size w) (.cells #[.string x.f0, .int .i64 x.f1, .int .i64 x.f2, .int .i64 x.f3.f0, .int .i64 x.f3.f1, .int .i64 x.f3.f2, .int .i64 x.f3.f3, .int .i64 x.f3.f4, .string x.f4, .string x.f5, .int .i64 x.f6] 35 (0, 0))) (.cells #[.string y.f0, .int .i64 y.f1, .int .i64 y.f2, .int .i64 y.f3.f0, .int .i64 y.f3.f1, .int .i64 y.f3.f2, .int .i64 y.f3.f3, .int .i64 y.f3.f4, .string y.f4, .string y.f5, .int .i64 y.f6] 35 (0, 0)))
 go_enter Tryd.func57, Tryd.ntmps57
 go_wp2_with (go_at_call 29; (with_reducible refine (hl _).mono ?_); rintro e w1 ⟨rfl, hb⟩; have n0_ := Aside0.mk (below_step HB.out hb); clear HB hb; have HB := n0_; clear n0_)
 go_ret
 exact ⟨rfl, HB.out⟩
set_option maxHeartbeats 4000000 in
set_option maxRecDepth 100000 in
theorem cmpE_call (x y : E35) (g : Nat) (w : World) (hg : w.cell? ⟨g, 0, none⟩ = some (.func (.func 57) #[] #[])) :
  Calls Tryd.prog 87 #[.agg (enc35 x).toArray, .agg (enc35 y).toArray, .pointer (some ⟨g, 0, none⟩)] w fun e w' => e = .returned (.int .i64 (cf35 x y)) ∧ Below w.heap.size w w' := by
 obtain ⟨x, hx⟩ := x
 obtain ⟨y, hy⟩ := y
 have hlt := World.block_lt_of_cell? w _ hg
 have HG := Aside0.mk hg
 have HL := Aside0.mk hlt
 have hu := Tryd.underlying35
 show Calls Tryd.prog 87 #[.agg #[.string x.f0, .int .i64 x.f1, .int .i64 x.f2, .int .i64 x.f3.f0, .int .i64 x.f3.f1, .int .i64 x.f3.f2, .int .i64 x.f3.f3, .int .i64 x.f3.f4, .string x.f4, .string x.f5, .int .i64 x.f6], .agg #[.string y.f0, .int .i64 y.f1, .int .i64 y.f2, .int .i64 y.f3.f0, .int .i64 y.f3.f1, .int .i64 y.f3.f2, .int .i64 y.f3.f3, .int .i64 y.f3.f4, .string y.f4, .string y.f5, .int .i64 y.f6], .pointer (some ⟨g, 0, none⟩)] w _
 have HB := Aside0.mk (below_alloc (below_alloc (Below.refl w.heap.size w) (.cells #[.string x.f0, .int .i64 x.f1, .int .i64 x.f2, .int .i64 x.f3.f0, .int .i64 x.f3.f1, .int .i64 x.f3.f2, .int .i64 x.f3.f3, .int .i64 x.f3.f4, .string x.f4, .string x.f5, .int .i64 x.f6] 35 (0, 0))) (.cells #[.string y.f0, .int .i64 y.f1, .int .i64 y.f2, .int .i64 y.f3.f0, .int .i64 y.f3.f1, .int .i64 y.f3.f2, .int .i64 y.f3.f3, .int .i64 y.f3.f4, .string y.f4, .string y.f5, .int .i64 y.f6] 35 (0, 0)))
 have hc0 : ((w.alloc (.cells #[.string x.f0, .int .i64 x.f1, .int .i64 x.f2, .int .i64 x.f3.f0, .int .i64 x.f3.f1, .int .i64 x.f3.f2, .int .i64 x.f3.f3, .int .i64 x.f3.f4, .string x.f4, .string x.f5, .int .i64 x.f6] 35 (0, 0))).alloc (.cells #[.string y.f0, .int .i64 y.f1, .int .i64 y.f2, .int .i64 y.f3.f0, .int .i64 y.f3.f1, .int .i64 y.f3.f2, .int .i64 y.f3.f3, .int .i64 y.f3.f4, .string y.f4, .string y.f5, .int .i64 y.f6] 35 (0, 0))).cell? ⟨g, 0, none⟩ = some (.func (.func 57) #[] #[]) := (HB.out.cell hlt).trans hg
 have B1 := Aside0.mk (blk_alloc (blk_new w (.cells #[.string x.f0, .int .i64 x.f1, .int .i64 x.f2, .int .i64 x.f3.f0, .int .i64 x.f3.f1, .int .i64 x.f3.f2, .int .i64 x.f3.f3, .int .i64 x.f3.f4, .string x.f4, .string x.f5, .int .i64 x.f6] 35 (0, 0))) (.cells #[.string y.f0, .int .i64 y.f1, .int .i64 y.f2, .int .i64 y.f3.f0, .int .i64 y.f3.f1, .int .i64 y.f3.f2, .int .i64 y.f3.f3, .int .i64 y.f3.f4, .string y.f4, .string y.f5, .int .i64 y.f6] 35 (0, 0)))
 have B2 : Aside0 (((w.alloc (.cells #[.string x.f0, .int .i64 x.f1, .int .i64 x.f2, .int .i64 x.f3.f0, .int .i64 x.f3.f1, .int .i64 x.f3.f2, .int .i64 x.f3.f3, .int .i64 x.f3.f4, .string x.f4, .string x.f5, .int .i64 x.f6] 35 (0, 0))).alloc (.cells #[.string y.f0, .int .i64 y.f1, .int .i64 y.f2, .int .i64 y.f3.f0, .int .i64 y.f3.f1, .int .i64 y.f3.f2, .int .i64 y.f3.f3, .int .i64 y.f3.f4, .string y.f4, .string y.f5, .int .i64 y.f6] 35 (0, 0))).heap[w.heap.size + 1]? = some (.cells #[.string y.f0, .int .i64 y.f1, .int .i64 y.f2, .int .i64 y.f3.f0, .int .i64 y.f3.f1, .int .i64 y.f3.f2, .int .i64 y.f3.f3, .int .i64 y.f3.f4, .string y.f4, .string y.f5, .int .i64 y.f6] 35 (0, 0))) := ⟨by
  have := blk_new (w.alloc (.cells #[.string x.f0, .int .i64 x.f1, .int .i64 x.f2, .int .i64 x.f3.f0, .int .i64 x.f3.f1, .int .i64 x.f3.f2, .int .i64 x.f3.f3, .int .i64 x.f3.f4, .string x.f4, .string x.f5, .int .i64 x.f6] 35 (0, 0))) (.cells #[.string y.f0, .int .i64 y.f1, .int .i64 y.f2, .int .i64 y.f3.f0, .int .i64 y.f3.f1, .int .i64 y.f3.f2, .int .i64 y.f3.f3, .int .i64 y.f3.f4, .string y.f4, .string y.f5, .int .i64 y.f6] 35 (0, 0))
  rwa [World.size_alloc] at this⟩
 have h1 := fun W => lessE_call x y hx hy W
 have h2 := fun W => lessE_call y x hy hx W
 obtain ⟨b1, hb1⟩ : ∃ b, ltS x y = b := ⟨_, rfl⟩
 obtain ⟨b2, hb2⟩ : ∃ b, ltS y x = b := ⟨_, rfl⟩
 have HR : Aside0 (cf35 ⟨x, hx⟩ ⟨y, hy⟩ = if b1 = true then -1 else if b2 = true then 1 else 0) := ⟨by unfold cf35; rw [hb1, hb2]⟩
 simp only [hb1] at h1
 simp only [hb2] at h2
 clear hg hlt hb1 hb2
 cases b1 with
 | true =>
  go_enter Tryd.func87, Tryd.ntmps87
  go_wp2_with (first | (go_at_call 57; (with_reducible refine (h1 _).mono ?_); rintro e w9 ⟨rfl, hb⟩; have n0_ := Aside0.mk (below_step HB.out hb); have BX := Aside0.mk (blk_below B1.out hb); have BY := Aside0.mk (blk_below B2.out hb); have hc9 : w9.cell? ⟨g, 0, none⟩ = some (.func (.func 57) #[] #[]) := (n0_.out.cell HL.out).trans HG.out; clear HB hb; have HB := n0_; clear n0_; have hx_0 : w9.cell? ⟨w.heap.size, 0, none⟩ = some (.string x.f0) := (blk_cell BX.out 0).trans rfl; have hy_0 : w9.cell? ⟨w.heap.size + 1, 0, none⟩ = some (.string y.f0) := (blk_cell BY.out 0).trans rfl; have hx_1 : w9.cell? ⟨w.heap.size, 1, none⟩ = some (.int .i64 x.f1) := (blk_cell BX.out 1).trans rfl; have hy_1 : w9.cell? ⟨w.heap.size + 1, 1, none⟩ = some (.int .i64 y.f1) := (blk_cell BY.out 1).trans rfl; have hx_2 : w9.cell? ⟨w.heap.size, 2, none⟩ = some (.int .i64 x.f2) := (blk_cell BX.out 2).trans rfl; have hy_2 : w9.cell? ⟨w.heap.size + 1, 2, none⟩ = some (.int .i64 y.f2) := (blk_cell BY.out 2).trans rfl; have hx_3 : w9.cell? ⟨w.heap.size, 3, none⟩ = some (.int .i64 x.f3.f0) := (blk_cell BX.out 3).trans rfl; have hy_3 : w9.cell? ⟨w.heap.size + 1, 3, none⟩ = some (.int .i64 y.f3.f0) := (blk_cell BY.out 3).trans rfl; have hx_4 : w9.cell? ⟨w.heap.size, 4, none⟩ = some (.int .i64 x.f3.f1) := (blk_cell BX.out 4).trans rfl; have hy_4 : w9.cell? ⟨w.heap.size + 1, 4, none⟩ = some (.int .i64 y.f3.f1) := (blk_cell BY.out 4).trans rfl; have hx_5 : w9.cell? ⟨w.heap.size, 5, none⟩ = some (.int .i64 x.f3.f2) := (blk_cell BX.out 5).trans rfl; have hy_5 : w9.cell? ⟨w.heap.size + 1, 5, none⟩ = some (.int .i64 y.f3.f2) := (blk_cell BY.out 5).trans rfl; have hx_6 : w9.cell? ⟨w.heap.size, 6, none⟩ = some (.int .i64 x.f3.f3) := (blk_cell BX.out 6).trans rfl; have hy_6 : w9.cell? ⟨w.heap.size + 1, 6, none⟩ = some (.int .i64 y.f3.f3) := (blk_cell BY.out 6).trans rfl; have hx_7 : w9.cell? ⟨w.heap.size, 7, none⟩ = some (.int .i64 x.f3.f4) := (blk_cell BX.out 7).trans rfl; have hy_7 : w9.cell? ⟨w.heap.size + 1, 7, none⟩ = some (.int .i64 y.f3.f4) := (blk_cell BY.out 7).trans rfl; have hx_8 : w9.cell? ⟨w.heap.size, 8, none⟩ = some (.string x.f4) := (blk_cell BX.out 8).trans rfl; have hy_8 : w9.cell? ⟨w.heap.size + 1, 8, none⟩ = some (.string y.f4) := (blk_cell BY.out 8).trans rfl; have hx_9 : w9.cell? ⟨w.heap.size, 9, none⟩ = some (.string x.f5) := (blk_cell BX.out 9).trans rfl; have hy_9 : w9.cell? ⟨w.heap.size + 1, 9, none⟩ = some (.string y.f5) := (blk_cell BY.out 9).trans rfl; have hx_10 : w9.cell? ⟨w.heap.size, 10, none⟩ = some (.int .i64 x.f6) := (blk_cell BX.out 10).trans rfl; have hy_10 : w9.cell? ⟨w.heap.size + 1, 10, none⟩ = some (.int .i64 y.f6) := (blk_cell BY.out 10).trans rfl))
  go_ret
  exact ⟨by rw [HR.out]; rfl, HB.out⟩
 | false =>
  cases b2 with
  | true =>
   go_enter Tryd.func87, Tryd.ntmps87
   go_wp2_with (first | (go_at_call 57; (with_reducible refine (h1 _).mono ?_); rintro e w9 ⟨rfl, hb⟩; have n0_ := Aside0.mk (below_step HB.out hb); have BX := Aside0.mk (blk_below B1.out hb); have BY := Aside0.mk (blk_below B2.out hb); have hc9 : w9.cell? ⟨g, 0, none⟩ = some (.func (.func 57) #[] #[]) := (n0_.out.cell HL.out).trans HG.out; clear HB hb; have HB := n0_; clear n0_; have hx_0 : w9.cell? ⟨w.heap.size, 0, none⟩ = some (.string x.f0) := (blk_cell BX.out 0).trans rfl; have hy_0 : w9.cell? ⟨w.heap.size + 1, 0, none⟩ = some (.string y.f0) := (blk_cell BY.out 0).trans rfl; have hx_1 : w9.cell? ⟨w.heap.size, 1, none⟩ = some (.int .i64 x.f1) := (blk_cell BX.out 1).trans rfl; have hy_1 : w9.cell? ⟨w.heap.size + 1, 1, none⟩ = some (.int .i64 y.f1) := (blk_cell BY.out 1).trans rfl; have hx_2 : w9.cell? ⟨w.heap.size, 2, none⟩ = some (.int .i64 x.f2) := (blk_cell BX.out 2).trans rfl; have hy_2 : w9.cell? ⟨w.heap.size + 1, 2, none⟩ = some (.int .i64 y.f2) := (blk_cell BY.out 2).trans rfl; have hx_3 : w9.cell? ⟨w.heap.size, 3, none⟩ = some (.int .i64 x.f3.f0) := (blk_cell BX.out 3).trans rfl; have hy_3 : w9.cell? ⟨w.heap.size + 1, 3, none⟩ = some (.int .i64 y.f3.f0) := (blk_cell BY.out 3).trans rfl; have hx_4 : w9.cell? ⟨w.heap.size, 4, none⟩ = some (.int .i64 x.f3.f1) := (blk_cell BX.out 4).trans rfl; have hy_4 : w9.cell? ⟨w.heap.size + 1, 4, none⟩ = some (.int .i64 y.f3.f1) := (blk_cell BY.out 4).trans rfl; have hx_5 : w9.cell? ⟨w.heap.size, 5, none⟩ = some (.int .i64 x.f3.f2) := (blk_cell BX.out 5).trans rfl; have hy_5 : w9.cell? ⟨w.heap.size + 1, 5, none⟩ = some (.int .i64 y.f3.f2) := (blk_cell BY.out 5).trans rfl; have hx_6 : w9.cell? ⟨w.heap.size, 6, none⟩ = some (.int .i64 x.f3.f3) := (blk_cell BX.out 6).trans rfl; have hy_6 : w9.cell? ⟨w.heap.size + 1, 6, none⟩ = some (.int .i64 y.f3.f3) := (blk_cell BY.out 6).trans rfl; have hx_7 : w9.cell? ⟨w.heap.size, 7, none⟩ = some (.int .i64 x.f3.f4) := (blk_cell BX.out 7).trans rfl; have hy_7 : w9.cell? ⟨w.heap.size + 1, 7, none⟩ = some (.int .i64 y.f3.f4) := (blk_cell BY.out 7).trans rfl; have hx_8 : w9.cell? ⟨w.heap.size, 8, none⟩ = some (.string x.f4) := (blk_cell BX.out 8).trans rfl; have hy_8 : w9.cell? ⟨w.heap.size + 1, 8, none⟩ = some (.string y.f4) := (blk_cell BY.out 8).trans rfl; have hx_9 : w9.cell? ⟨w.heap.size, 9, none⟩ = some (.string x.f5) := (blk_cell BX.out 9).trans rfl; have hy_9 : w9.cell? ⟨w.heap.size + 1, 9, none⟩ = some (.string y.f5) := (blk_cell BY.out 9).trans rfl; have hx_10 : w9.cell? ⟨w.heap.size, 10, none⟩ = some (.int .i64 x.f6) := (blk_cell BX.out 10).trans rfl; have hy_10 : w9.cell? ⟨w.heap.size + 1, 10, none⟩ = some (.int .i64 y.f6) := (blk_cell BY.out 10).trans rfl))
   refine (h2 _).mono ?_
   rintro e w10 ⟨rfl, hb⟩
   have n0_ := Aside0.mk (below_step HB.out hb)
   clear HB hb
   have HB := n0_
   clear n0_
   go_wp2
   go_ret
   exact ⟨by rw [HR.out]; rfl, HB.out⟩
  | false =>
   go_enter Tryd.func87, Tryd.ntmps87
   go_wp2_with (first | (go_at_call 57; (with_reducible refine (h1 _).mono ?_); rintro e w9 ⟨rfl, hb⟩; have n0_ := Aside0.mk (below_step HB.out hb); have BX := Aside0.mk (blk_below B1.out hb); have BY := Aside0.mk (blk_below B2.out hb); have hc9 : w9.cell? ⟨g, 0, none⟩ = some (.func (.func 57) #[] #[]) := (n0_.out.cell HL.out).trans HG.out; clear HB hb; have HB := n0_; clear n0_; have hx_0 : w9.cell? ⟨w.heap.size, 0, none⟩ = some (.string x.f0) := (blk_cell BX.out 0).trans rfl; have hy_0 : w9.cell? ⟨w.heap.size + 1, 0, none⟩ = some (.string y.f0) := (blk_cell BY.out 0).trans rfl; have hx_1 : w9.cell? ⟨w.heap.size, 1, none⟩ = some (.int .i64 x.f1) := (blk_cell BX.out 1).trans rfl; have hy_1 : w9.cell? ⟨w.heap.size + 1, 1, none⟩ = some (.int .i64 y.f1) := (blk_cell BY.out 1).trans rfl; have hx_2 : w9.cell? ⟨w.heap.size, 2, none⟩ = some (.int .i64 x.f2) := (blk_cell BX.out 2).trans rfl; have hy_2 : w9.cell? ⟨w.heap.size + 1, 2, none⟩ = some (.int .i64 y.f2) := (blk_cell BY.out 2).trans rfl; have hx_3 : w9.cell? ⟨w.heap.size, 3, none⟩ = some (.int .i64 x.f3.f0) := (blk_cell BX.out 3).trans rfl; have hy_3 : w9.cell? ⟨w.heap.size + 1, 3, none⟩ = some (.int .i64 y.f3.f0) := (blk_cell BY.out 3).trans rfl; have hx_4 : w9.cell? ⟨w.heap.size, 4, none⟩ = some (.int .i64 x.f3.f1) := (blk_cell BX.out 4).trans rfl; have hy_4 : w9.cell? ⟨w.heap.size + 1, 4, none⟩ = some (.int .i64 y.f3.f1) := (blk_cell BY.out 4).trans rfl; have hx_5 : w9.cell? ⟨w.heap.size, 5, none⟩ = some (.int .i64 x.f3.f2) := (blk_cell BX.out 5).trans rfl; have hy_5 : w9.cell? ⟨w.heap.size + 1, 5, none⟩ = some (.int .i64 y.f3.f2) := (blk_cell BY.out 5).trans rfl; have hx_6 : w9.cell? ⟨w.heap.size, 6, none⟩ = some (.int .i64 x.f3.f3) := (blk_cell BX.out 6).trans rfl; have hy_6 : w9.cell? ⟨w.heap.size + 1, 6, none⟩ = some (.int .i64 y.f3.f3) := (blk_cell BY.out 6).trans rfl; have hx_7 : w9.cell? ⟨w.heap.size, 7, none⟩ = some (.int .i64 x.f3.f4) := (blk_cell BX.out 7).trans rfl; have hy_7 : w9.cell? ⟨w.heap.size + 1, 7, none⟩ = some (.int .i64 y.f3.f4) := (blk_cell BY.out 7).trans rfl; have hx_8 : w9.cell? ⟨w.heap.size, 8, none⟩ = some (.string x.f4) := (blk_cell BX.out 8).trans rfl; have hy_8 : w9.cell? ⟨w.heap.size + 1, 8, none⟩ = some (.string y.f4) := (blk_cell BY.out 8).trans rfl; have hx_9 : w9.cell? ⟨w.heap.size, 9, none⟩ = some (.string x.f5) := (blk_cell BX.out 9).trans rfl; have hy_9 : w9.cell? ⟨w.heap.size + 1, 9, none⟩ = some (.string y.f5) := (blk_cell BY.out 9).trans rfl; have hx_10 : w9.cell? ⟨w.heap.size, 10, none⟩ = some (.int .i64 x.f6) := (blk_cell BX.out 10).trans rfl; have hy_10 : w9.cell? ⟨w.heap.size + 1, 10, none⟩ = some (.int .i64 y.f6) := (blk_cell BY.out 10).trans rfl))
   refine (h2 _).mono ?_
   rintro e w10 ⟨rfl, hb⟩
   have n0_ := Aside0.mk (below_step HB.out hb)
   clear HB hb
   have HB := n0_
   clear n0_
   go_wp2
   go_ret
   exact ⟨by rw [HR.out]; rfl, HB.out⟩
end Go.Proofs.YtcdmgdegohcmhaaDoor.PA
namespace Go.Proofs.YtcdmgdegohcmhaaDoor.PA
open Go.RowKit Go.Proofs.YtcdmgdegohcmhaaDoorW.PrintWords Go.Proofs.YtcdmgdegohcmhaaDoorW.PrintLast Go.Proofs.YtcdmgdegohcmhaaDoorW.PrintMore
attribute [local go_sem] max2_int min2_int max_two min_two max_three min_three max_four min_four
set_option linter.unusedVariables false
set_option linter.unusedSimpArgs false
def putN : Nat → Int → List Int
 | 0, n => [n]
 | k + 1, n => if n > 127 then (n % 128 + 128) :: putN k (n / 128) else [n]
def clampN (n : Int) : Int := mn (mx n 0) 4611686018427387903
def putL (n : Int) : List Int := putN 8 (clampN n)
theorem clampN_range (n : Int) : 0 ≤ clampN n ∧ clampN n ≤ 4611686018427387903 := by
 unfold clampN mn mx
 constructor <;> (repeat' split) <;> omega
theorem putN_more (k : Nat) (n : Int) (h : n > 127) : putN (k + 1) n = (n % 128 + 128) :: putN k (n / 128) := if_pos h
theorem putN_last (k : Nat) (n : Int) (h : ¬ n > 127) : putN k n = [n] := by
 cases k with
 | zero => rfl
 | succ k => exact if_neg h
theorem putN_len (k : Nat) (n : Int) : 1 ≤ (putN k n).length ∧ (putN k n).length ≤ k + 1 := by
 induction k generalizing n with
 | zero => exact ⟨Nat.le_refl _, Nat.le_refl _⟩
 | succ k ih =>
  by_cases h : n > 127
  ·rw [putN_more k n h, List.length_cons]
   have := ih (n / 128)
   omega
  ·rw [putN_last _ n h]
   simp
theorem made_row {w0 : World} (W : World) (cc : Nat) (hb : w0.heap.size ≤ W.heap.size) (hm : cc ≤ maxLen) : Kd.R (Kd.int .u8) 5 (W.alloc (.cells (madeCells #[.int .u8 0] cc) 5)) w0.heap.size (fun _ => True) (.slice (some ⟨W.heap.size, 0, none⟩) 0 cc) [] :=
 Kd.R_of_own (World.ownsRow_made W _ cc hb hm (by rw [size_madeCells, Nat.mul_one])) (fun _ _ => trivial)
theorem size_l (k : Nat) : ∀ (f : Nat) (x j : Int), 0 ≤ x → x < 128 ^ (k + 1) → 0 ≤ j → j + k < 1000 → k + 1 ≤ f → k < 100 → num_Size.l0 f x j = some (j - 1 + (putN k x).length) := by
 induction k with
 | zero =>
  intro f x j h0 h1 hj hj2 hf hk
  obtain ⟨f, rfl⟩ : ∃ g, f = g + 1 := ⟨f - 1, by omega⟩
  rw [num_Size.l0, if_neg (by omega)]
  simp [putN]
 | succ k ih =>
  intro f x j h0 h1 hj hj2 hf hk
  obtain ⟨f, rfl⟩ : ∃ g, f = g + 1 := ⟨f - 1, by omega⟩
  rw [num_Size.l0]
  by_cases h : x > 127
  ·have hx : x / 128 < 128 ^ (k + 1) := by
    rw [Int.pow_succ] at h1
    omega
   rw [if_pos h, wr64 _ (by omega) (by omega), ih f (x / 128) (j + 1) (by omega) hx (by omega) (by omega) (by omega) (by omega), putN_more k x h, List.length_cons]
   congr 1
   omega
  ·rw [if_neg h, putN_last _ x h]
   simp
theorem i64_or128 (y : Int) (h0 : 0 ≤ y) (h1 : y < 128) : bits .or .i64 y 128 = y + 128 := by
 have hc : bits .or .i64 y 128 = bits .or .i64 128 y := by simp only [bits, BitVec.or_comm]
 rw [hc, bits_join .i64 62 (by decide) (fun n h0 h1 => by rw [IntKind.wrap_i64]; omega) 7 128 y (by decide) (by decide) (by decide) h0 h1 (by omega)]
 omega
def num_Put.f (l0 : List Int) (a1 : Int) : Option (List Int) := if l0.length < 1000000000 then some (l0 ++ putL a1) else none
theorem size_put (n : Int) : num_Size.f 20 n = some ((putL n).length : Int) := by
 have h := clampN_range n
 have := size_l 8 20 (clampN n) 1 h.1 (show clampN n < 128 ^ 9 from by have := h.2; have e : (128 : Int) ^ 9 = 9223372036854775808 := rfl; omega) (by decide) (by decide) (by decide) (by decide)
 refine this.trans ?_
 show some ((1 : Int) - 1 + ((putN 8 (clampN n)).length : Int)) = some ((putN 8 (clampN n)).length : Int)
 congr 1
 omega
theorem size_put2 (n : Int) (h0 : 0 ≤ n) (h1 : n ≤ 4611686018427387903) : num_Size.f 20 n = some ((putN 8 n).length : Int) := by
 have e : clampN n = n := by
  unfold clampN mn mx
  (repeat' split) <;> omega
 have := size_put n
 unfold putL at this
 rwa [e] at this
set_option maxHeartbeats 8000000 in
set_option maxRecDepth 100000 in
theorem num_Put.calls (A0 : Option Addr) (c0 : Nat) (l0 : List Int) (a1 : Int) (r : List Int) (w : World) (hr0 : Kd.C (Kd.int .u8) w A0 l0.length l0) (hc0 : l0.length ≤ c0) (h : num_Put.f l0 a1 = some r) :
  Calls Tryd.prog 33 #[.slice A0 l0.length c0, .int .i64 a1] w fun e w' => ∃ v0_ : Value, e = .returned (v0_) ∧ Kd.R (Kd.int .u8) 5 w' w.heap.size (fun _ => True) v0_ r ∧ Below w.heap.size w w' := by
 unfold num_Put.f at h
 split at h
 ·rename_i hl
  obtain rfl := Option.some.inj h
  clear h
  have HR := Aside0.mk hr0
  have HC := Aside0.mk hc0
  clear hr0 hc0
  have HB := Aside0.mk (Below.refl w.heap.size w)
  obtain ⟨x0, hx0⟩ : ∃ x0, x0 = clampN a1 := ⟨_, rfl⟩
  have hxr := clampN_range a1
  rw [← hx0] at hxr
  have hcl := hx0.symm
  unfold clampN at hcl
  obtain ⟨j1, hj1⟩ : ∃ j1, (if a1 < 0 then 0 else a1) = j1 := ⟨_, rfl⟩
  have hcl2 : (if 4611686018427387903 < j1 then 4611686018427387903 else j1) = x0 := by
   have e : mx a1 0 = j1 := hj1
   rw [e] at hcl
   exact hcl
  have HX0 := Aside0.mk (show putL a1 = putN 8 x0 by rw [hx0]; rfl)
  clear hcl hx0
  obtain ⟨S, hS⟩ : ∃ S, S = (putN 8 x0).length := ⟨_, rfl⟩
  have hSr := putN_len 8 x0
  rw [← hS] at hSr
  have hsz : ∀ w, Calls Tryd.prog 68 #[.int .i64 x0] w fun e w' => e = .returned (.int .i64 (S : Int)) ∧ Below w.heap.size w w' := fun w => num_Size.calls 20 x0 _ w (by rw [size_put2 x0 hxr.1 hxr.2, hS])
  obtain ⟨cc, hcc⟩ : ∃ cc : Nat, cc = l0.length + S := ⟨_, rfl⟩
  have hw1 : wrap64 ((l0.length : Int) + (S : Int)) = (cc : Int) := by rw [wr64 _ (by omega) (by omega)]; omega
  obtain ⟨m, hm⟩ : ∃ m : Nat, S = m + 1 := ⟨S - 1, by omega⟩
  have hw2 : wrap64 ((S : Int) - 1) = (m : Int) := by rw [wr64 _ (by omega) (by omega)]; omega
  have hw3 : (l0.length : Int) + (S : Int) = (cc : Int) := by omega
  have HS := Aside0.mk hS
  clear hS
  have Hcc := Aside0.mk hcc
  clear hcc
  have hcm : cc ≤ maxLen := by have := Hcc.out; simp [maxLen]; omega
  have Hm := Aside0.mk hm
  clear hm
  have hmk : ∀ W : World, (Instr.makeSlice 27 (.int .i64 0) (.int .i64 (cc : Int))).run Tryd.prog W = .ok (.slice (some ⟨W.heap.size, 0, none⟩) 0 cc) (W.alloc (.cells (madeCells #[.int .u8 0] cc) 5)) := fun W => by
   obtain ⟨i, hi, hz, hb1, hs1⟩ : ∃ i, Tryd.prog.info? 5 = some i ∧ i.zero = some (.int .u8 0) ∧ i.bytes = 1 ∧ i.size = 1 := ⟨_, rfl, rfl, rfl, rfl⟩
   have := run_make (P := Tryd.prog) W 27 5 i (.int .u8 0) Tryd.underlying27 hi hz .i64 .i64 0 (cc : Int) (by omega) (by omega) (by have := Hcc.out; rw [hb1]; omega) (by have := Hcc.out; omega)
   rw [hs1, Nat.mul_one, Int.toNat_natCast] at this
   exact this
  have ltS : ((0 : Int) ≤ (m : Int)) := by omega
  go_enter Tryd.func33, Tryd.ntmps33
  go_wp2_with (first | (go_at_call 68; (with_reducible refine (hsz _).mono ?_); rintro e w2 ⟨rfl, hb⟩; (try (have n1_ := Aside0.mk (Kd.R_below HO.out hb); clear HO; have HO := n1_; clear n1_)); have n0_ := Aside0.mk (below_step HB.out hb); clear HB hb; have HB := n0_; clear n0_) | ((with_reducible refine gate_builtin (b := .append) (xs := #[.tmp 14, .tmp 15]) rfl ?_); at_builtin; refine Kd.R_append_rows (Kd.int .u8) (w0 := w) w.heap.size rfl (.tmp 14) (.tmp 15) 27 5 (.int .u8 0) 1 rfl Tryd.underlying27 info5 rfl (by decide) (by omega) (.slice (some ⟨w2.heap.size, 0, none⟩) 0 cc) (([] : List Int)) (l0) _ _ _ (fun _ => True) (fun _ => False) rfl rfl ?aO ?aR (fun _ _ h => h) (fun _ h => h.elim) ?aF ?aB ?aS ?aL ?_; (case aR => exact Kd.C_below HR.out (below_alloc HB.out _)); (case aB => exact (below_alloc HB.out _)); (case aF => exact (fun _ _ => trivial)); (case aO => exact (made_row w2 cc (below_size HB.out) hcm)); (case aS => exact below_size (below_alloc HB.out _)); (case aL => (simp; omega)); intro u5 w5 ho hb hg hat; have n0_ := Aside0.mk hb; have n1_ := Aside0.mk ho; clear HB; have HB := n0_; have HO := n1_; clear n0_ n1_ ho hb hg hat))
  go_loopw [1, 5, 20] (fun v1 v5 v20 wr => ∃ (k i x : Nat) (y : List Int), v20 = .int .i64 i ∧ v1 = .int .i64 x ∧ Aside0 (x < 128 ^ (k + 1) ∧ y ++ putN k (x : Int) = l0 ++ putN 8 x0 ∧ (putN k (x : Int)).length + i = S ∧ y.length ≤ l0.length + i) ∧ Aside0 (Kd.R (Kd.int .u8) 5 wr w.heap.size (fun _ => True) v5 y) ∧ Aside0 (Below w.heap.size w wr)) (fun _ _ v20 _ => m - (intOf v20).toNat)
  case atStart => exact ⟨8, 0, x0.toNat, l0, rfl, (by rw [Int.toNat_of_nonneg hxr.1]), ⟨by have e : (128 : Nat) ^ 9 = 9223372036854775808 := rfl; omega, by rw [Int.toNat_of_nonneg hxr.1], by rw [Int.toNat_of_nonneg hxr.1, HS.out]; rfl, Nat.le_refl _⟩, HO, HB⟩
  case round =>
   clear HO HB
   obtain ⟨k, i, x, y, rfl, rfl, HF, HO, HB⟩ := hrel
   by_cases hlt : i < m
   ·have e0 : ((i : Int) < (S : Int) - 1) = True := eq_true (by have := Hm.out; omega)
    obtain ⟨q, hq⟩ : ∃ q : Nat, k = q + 1 ∧ (x : Int) > 127 := by
     obtain ⟨f1, f2, f3, f4⟩ := HF.out
     have := Hm.out
     by_cases hx : (x : Int) > 127
     ·cases k with
      | zero =>
       rw [putN] at f3
       simp at f3
       omega
      | succ q => exact ⟨q, rfl, hx⟩
     ·rw [putN_last k _ hx] at f3
      simp at f3
      omega
    obtain ⟨z, hz⟩ : ∃ z, z = (x : Int) % 128 + 128 := ⟨_, rfl⟩
    have hb1 : bits .and .i64 (x : Int) 127 = (x : Int) % 128 := i64_and127 _
    have hb2 : bits .or .i64 ((x : Int) % 128) 128 = z := by rw [hz]; exact i64_or128 _ (by omega) (by omega)
    have hb3 : z % 256 = z := by omega
    obtain ⟨x2, hx2⟩ : ∃ x2 : Nat, x2 = x / 128 := ⟨_, rfl⟩
    have hi9 : i < 10 := by have := Hm.out; omega
    have hb4 : (x : Int) / 128 = (x2 : Int) := by omega
    have HZ := Aside0.mk hz
    have HX2 := Aside0.mk hx2
    have HQ := Aside0.mk hq
    have hyl : y.length < 1000000100 := by have h4 := HF.out.2.2.2; have h5 := HF.out.2.2.1; omega
    clear hz hx2 hq
    obtain ⟨Ao, co, eo⟩ := Kd.R_slice HO.out
    subst eo
    go_wp2_with (first | ((with_reducible refine gate_builtin (b := .append) (xs := #[.tmp 22, .tmp 27]) rfl ?_); at_builtin; refine Kd.R_append (Kd.int .u8) (w0 := w) w.heap.size rfl (.tmp 22) (.tmp 27) 27 5 (.int .u8 0) 1 rfl Tryd.underlying27 info5 rfl (by decide) (by omega) (.slice Ao y.length co) (y) (z) [.int .u8 (z)] (fun _ => True) (fun _ => False) rfl rfl ?aP (fun _ hk => hk.elim) ?aF ?aO ?aB ?aS ?aL ?_; (case aP => exact rfl); (case aB => exact (by repeat (first | (with_reducible first | exact HB.out | apply below_alloc | apply pw_below_drewN | apply below_drew1) | exact HB.out))); (case aF => exact (fun _ _ => trivial)); (case aO => exact (by (with_reducible repeat (first | apply Kd.R_alloc | apply Kd.R_drewN | apply Kd.R_drew)); exact HO.out)); (case aS => exact below_size (by repeat (first | (with_reducible first | exact HB.out | apply below_alloc | apply pw_below_drewN | apply below_drew1) | exact HB.out))); (case aL => omega); intro u5 w5 ho hb hg hat; have n0_ := Aside0.mk hb; have n1_ := Aside0.mk ho; clear HB HO; have HB := n0_; have HO := n1_; clear n0_ n1_ ho hb hg hat))
    go_roundw
    case measure =>
     show m - ((i : Int) + 1).toNat < m - ((i : Int)).toNat
     omega
    case rel =>
     obtain ⟨hk, hx⟩ := HQ.out
     obtain ⟨f1, f2, f3, f4⟩ := HF.out
     have e2 := HX2.out
     have e3 := HZ.out
     subst hk
     have em : putN (q + 1) (x : Int) = z :: putN q (x2 : Int) := by rw [putN_more q _ hx, ← e3, hb4]
     rw [em] at f2 f3
     refine ⟨q, i + 1, x2, y ++ [z], rfl, (by first | rfl | go_num), ⟨?_, ?_, ?_, ?_⟩, HO, HB⟩
     ·rw [Nat.pow_succ] at f1
      omega
     ·rw [← f2, List.append_assoc]
      rfl
     ·rw [List.length_cons] at f3
      omega
     ·rw [List.length_append, List.length_singleton]
      omega
   ·have e0 : ((i : Int) < (S : Int) - 1) = False := eq_false (by have := Hm.out; omega)
    have hyl : y.length < 1000000100 := by have h4 := HF.out.2.2.2; have h5 := HF.out.2.2.1; omega
    obtain ⟨hxs, hfin⟩ : (x : Int) ≤ 127 ∧ y ++ [(x : Int)] = l0 ++ putN 8 x0 := by
     obtain ⟨f1, f2, f3, f4⟩ := HF.out
     have := Hm.out
     have hx : ¬ (x : Int) > 127 := fun hx => by
      cases k with
      | zero => omega
      | succ q =>
       rw [putN_more q _ hx, List.length_cons] at f3
       have := putN_len q ((x : Int) / 128)
       omega
     rw [putN_last k _ hx] at f2
     exact ⟨by omega, f2⟩
    have HE := Aside0.mk hfin
    have Hb3 := Aside0.mk (show (x : Int) % 256 = (x : Int) by omega)
    clear hfin hxs
    obtain ⟨Ao, co, eo⟩ := Kd.R_slice HO.out
    subst eo
    go_wp2_with (first | ((with_reducible refine gate_builtin (b := .append) (xs := #[.tmp 32, .tmp 35]) rfl ?_); at_builtin; refine Kd.R_append (Kd.int .u8) (w0 := w) w.heap.size rfl (.tmp 32) (.tmp 35) 27 5 (.int .u8 0) 1 rfl Tryd.underlying27 info5 rfl (by decide) (by omega) (.slice Ao y.length co) (y) (((x : Int) % 256)) [.int .u8 (((x : Int) % 256))] (fun _ => True) (fun _ => False) rfl rfl ?aP (fun _ hk => hk.elim) ?aF ?aO ?aB ?aS ?aL ?_; (case aP => exact rfl); (case aB => exact (by repeat (first | (with_reducible first | exact HB.out | apply below_alloc | apply pw_below_drewN | apply below_drew1) | exact HB.out))); (case aF => exact (fun _ _ => trivial)); (case aO => exact (by (with_reducible repeat (first | apply Kd.R_alloc | apply Kd.R_drewN | apply Kd.R_drew)); exact HO.out)); (case aS => exact below_size (by repeat (first | (with_reducible first | exact HB.out | apply below_alloc | apply pw_below_drewN | apply below_drew1) | exact HB.out))); (case aL => omega); intro u6 w6 ho hb hg hat; have n0_ := Aside0.mk hb; have n1_ := Aside0.mk ho; clear HB HO; have HB := n0_; have HO := n1_; clear n0_ n1_ ho hb hg hat))
    go_ret
    exact ⟨_, rfl, by have := HO.out; rw [Hb3.out, HE.out, ← HX0.out] at this; exact this, HB.out⟩
 ·cases h
end Go.Proofs.YtcdmgdegohcmhaaDoor.PA
namespace Go.Proofs.YtcdmgdegohcmhaaDoor.PA
open Go.RowKit Go.Proofs.YtcdmgdegohcmhaaDoorW.PrintWords Go.Proofs.YtcdmgdegohcmhaaDoorW.PrintLast Go.Proofs.YtcdmgdegohcmhaaDoorW.PrintMore
attribute [local go_sem] max2_int min2_int max_two min_two max_three min_three max_four min_four   -- for this text's walks alone
set_option linter.unusedVariables false
set_option linter.unusedSimpArgs false
def num_PutInt.f (l0 : List Int) (a1 : Int) : Option (List Int) := if (mn (mx a1 (-2305843009213693952)) 2305843009213693951) < 0 then ((num_Put.f l0 (((-2) * (mn (mx a1 (-2305843009213693952)) 2305843009213693951)) - 1)).bind fun t101 => (some t101)) else ((num_Put.f l0 (2 * (mn (mx a1 (-2305843009213693952)) 2305843009213693951))).bind fun t104 => (some t104))
set_option maxHeartbeats 8000000 in
set_option maxRecDepth 100000 in
theorem num_PutInt.calls (A0 : Option Addr) (c0 : Nat) (l0 : List Int) (a1 : Int) (r : List Int) (w : World) (hr0 : Kd.C (Kd.int .u8) w A0 l0.length l0) (hc0 : l0.length ≤ c0) (h : num_PutInt.f l0 a1 = some r) :
  Calls Tryd.prog 69 #[.slice A0 l0.length c0, .int .i64 a1] w fun e w' => ∃ v0_ : Value, e = .returned (v0_) ∧ Kd.R (Kd.int .u8) 5 w' w.heap.size (fun _ => True) v0_ r ∧ Below w.heap.size w w' := by
 have HR0 := Aside0.mk hr0
 have HC0 := Aside0.mk hc0
 clear hr0 hc0
 have HB := Aside0.mk (Below.refl w.heap.size w)
 have H : (if (mn (mx a1 (-2305843009213693952)) 2305843009213693951) < 0 then ((num_Put.f l0 (((-2) * (mn (mx a1 (-2305843009213693952)) 2305843009213693951)) - 1)).bind fun t101 => (some t101)) else ((num_Put.f l0 (2 * (mn (mx a1 (-2305843009213693952)) 2305843009213693951))).bind fun t104 => (some t104))) = some r := h
 clear h
 obtain ⟨ji3, hji3⟩ : ∃ j_ : Int, (mx a1 (-2305843009213693952)) = j_ := ⟨_, rfl⟩
 replace H : (if (mn (ji3) 2305843009213693951) < 0 then ((num_Put.f l0 (((-2) * (mn (ji3) 2305843009213693951)) - 1)).bind fun t101 => (some t101)) else ((num_Put.f l0 (2 * (mn (ji3) 2305843009213693951))).bind fun t104 => (some t104))) = some r := by first | (rw [hji3] at H; exact H) | (simp only [hji3] at H ⊢; exact H)
 have hji3_ : (if a1 < (-2305843009213693952) then (-2305843009213693952) else a1) = ji3 := hji3
 obtain ⟨ji4, hji4⟩ : ∃ j_ : Int, (mn (ji3) 2305843009213693951) = j_ := ⟨_, rfl⟩
 replace H : (if (ji4) < 0 then ((num_Put.f l0 (((-2) * (ji4)) - 1)).bind fun t101 => (some t101)) else ((num_Put.f l0 (2 * (ji4))).bind fun t104 => (some t104))) = some r := by first | (rw [hji4] at H; exact H) | (simp only [hji4] at H ⊢; exact H)
 have hji4_ : (if 2305843009213693951 < (ji3) then 2305843009213693951 else (ji3)) = ji4 := hji4
 by_cases c5 : (ji4) < 0
 ·rw [if_pos c5] at H
  have c5b0 : decide ((ji4) < 0) = true := decide_eq_true c5
  clear c5
  replace H := Option.bind_eq_some_iff.mp H
  obtain ⟨t101, A60, H⟩ := H
  replace H : (some t101) = some r := H
  have A6 := Aside0.mk A60
  clear A60
  obtain rfl := Option.some.inj H
  go_enter Tryd.func69, Tryd.ntmps69
  go_wp2_with (first | ((with_reducible refine gate_callee (f := 33) rfl ?_); refine goesL_ (some 14) rfl rfl Tryd.func33 (by kernel_rfl) rfl #[.slice A0 l0.length c0, .int .i64 (((-2) * (ji4)) - 1)] rfl (by (try simp only [List.map_toArray, List.map_cons, List.map_nil]); first | done | (simp only [hji4]; rfl) | rfl | (simp only [List.length_drop, List.length_take]; rfl)) ?_; (with_reducible refine (num_Put.calls _ _ l0 (((-2) * (ji4)) - 1) t101 _ ?side1 ?side2 A6.out).mono ?_); (case side1 => repeat (first | exact HR0.out | (with_reducible refine Kd.C_alloc ?_ _) | (with_reducible refine Kd.C_drewN ?_ _) | (with_reducible refine Kd.C_drew ?_))); (case side2 => exact HC0.out); rintro e w7 ⟨v102, rfl, ho0, hb⟩; refine ⟨_, rfl, ?_⟩; have n0_ := Aside0.mk (Kd.R_lower ho0 (below_size (by repeat (first | (with_reducible first | exact HB.out | apply below_alloc | apply pw_below_drewN | apply below_drew1) | exact HB.out)))); have n1_ := Aside0.mk (below_step (by repeat (first | (with_reducible first | exact HB.out | apply below_alloc | apply pw_below_drewN | apply below_drew1) | exact HB.out)) hb); clear HB; have HO103 := n0_; have HB := n1_; clear n0_ n1_; (try clear hb); (try clear hb2); (try clear hk); (try clear hi); (try clear ho0)))
  go_ret
  exact ⟨_, by first | rfl | (simp [errW_none, errW_some] <;> rfl) | (simp only [← hji3, ← hji4]; first | rfl | (simp [errW_none, errW_some] <;> rfl)) | (simp [*, errW_none, errW_some] <;> rfl), by (with_reducible repeat (first | apply Kd.R_alloc | apply Kd.R_drewN | apply Kd.R_drew)); exact HO103.out, by repeat (first | (with_reducible first | exact HB.out | apply below_alloc | apply pw_below_drewN | apply below_drew1) | exact HB.out)⟩
 ·rw [if_neg c5] at H
  have c5b0 : decide ((ji4) < 0) = false := decide_eq_false c5
  clear c5
  replace H := Option.bind_eq_some_iff.mp H
  obtain ⟨t104, A80, H⟩ := H
  replace H : (some t104) = some r := H
  have A8 := Aside0.mk A80
  clear A80
  obtain rfl := Option.some.inj H
  go_enter Tryd.func69, Tryd.ntmps69
  go_wp2_with (first | ((with_reducible refine gate_callee (f := 33) rfl ?_); refine goesL_ (some 18) rfl rfl Tryd.func33 (by kernel_rfl) rfl #[.slice A0 l0.length c0, .int .i64 (2 * (ji4))] rfl (by (try simp only [List.map_toArray, List.map_cons, List.map_nil]); first | done | (simp only [hji4]; rfl) | rfl | (simp only [List.length_drop, List.length_take]; rfl)) ?_; (with_reducible refine (num_Put.calls _ _ l0 (2 * (ji4)) t104 _ ?side1 ?side2 A8.out).mono ?_); (case side1 => repeat (first | exact HR0.out | (with_reducible refine Kd.C_alloc ?_ _) | (with_reducible refine Kd.C_drewN ?_ _) | (with_reducible refine Kd.C_drew ?_))); (case side2 => exact HC0.out); rintro e w9 ⟨v105, rfl, ho0, hb⟩; refine ⟨_, rfl, ?_⟩; have n0_ := Aside0.mk (Kd.R_lower ho0 (below_size (by repeat (first | (with_reducible first | exact HB.out | apply below_alloc | apply pw_below_drewN | apply below_drew1) | exact HB.out)))); have n1_ := Aside0.mk (below_step (by repeat (first | (with_reducible first | exact HB.out | apply below_alloc | apply pw_below_drewN | apply below_drew1) | exact HB.out)) hb); clear HB; have HO106 := n0_; have HB := n1_; clear n0_ n1_; (try clear hb); (try clear hb2); (try clear hk); (try clear hi); (try clear ho0)))
  go_ret
  exact ⟨_, by first | rfl | (simp [errW_none, errW_some] <;> rfl) | (simp only [← hji3, ← hji4]; first | rfl | (simp [errW_none, errW_some] <;> rfl)) | (simp [*, errW_none, errW_some] <;> rfl), by (with_reducible repeat (first | apply Kd.R_alloc | apply Kd.R_drewN | apply Kd.R_drew)); exact HO106.out, by repeat (first | (with_reducible first | exact HB.out | apply below_alloc | apply pw_below_drewN | apply below_drew1) | exact HB.out)⟩
end Go.Proofs.YtcdmgdegohcmhaaDoor.PA
namespace Go.Proofs.YtcdmgdegohcmhaaDoor.PA
open Go.RowKit Go.Proofs.YtcdmgdegohcmhaaDoorW.PrintWords Go.Proofs.YtcdmgdegohcmhaaDoorW.PrintLast Go.Proofs.YtcdmgdegohcmhaaDoorW.PrintMore
attribute [local go_sem] max2_int min2_int max_two min_two max_three min_three max_four min_four
set_option linter.unusedVariables false
set_option linter.unusedSimpArgs false
def metaIn (n lo hi : Int) : Bool := decide (lo ≤ n) && decide (n ≤ hi)
def metaOk (a0_0 a0_1 a0_2 a0_3 a0_4 : Int) : Bool := (metaIn a0_0 0 4095) && (metaIn a0_1 (-1099511627776) 1099511627776) && (metaIn a0_2 0 999999999) && (metaIn a0_3 0 2147483647) && (metaIn a0_4 0 2147483647)
def meta_Check.f (a0_0 a0_1 a0_2 a0_3 a0_4 : Int) : Option Int := some (if metaOk a0_0 a0_1 a0_2 a0_3 a0_4 = true then 0 else 2)
theorem meta_in_call (n lo hi : Int) (w : World) : Calls Tryd.prog 89 #[.int .i64 n, .int .i64 lo, .int .i64 hi] w fun e w' => e = .returned (.bool (metaIn n lo hi)) ∧ w' = w := by
 by_cases h : lo ≤ n
 ·have h1 : decide (lo ≤ n) = true := by simp [h]
  have HR := Aside0.mk (show metaIn n lo hi = decide (n ≤ hi) by simp [metaIn, h])
  go_enter Tryd.func89, Tryd.ntmps89
  go_wp2
  go_ret
  refine ⟨?_, rfl⟩
  rw [HR.out]
  rfl
 ·have h1 : decide (lo ≤ n) = false := by simp [h]
  have HR := Aside0.mk (show metaIn n lo hi = false by simp [metaIn, h])
  clear h
  go_enter Tryd.func89, Tryd.ntmps89
  go_wp2
  go_ret
  refine ⟨?_, rfl⟩
  rw [HR.out]
  rfl
set_option maxHeartbeats 2000000 in
set_option maxRecDepth 100000 in
theorem meta_Check.calls (a0_0 a0_1 a0_2 a0_3 a0_4 : Int) (r : Int) (w : World) (h : meta_Check.f a0_0 a0_1 a0_2 a0_3 a0_4 = some r) :
  Calls Tryd.prog 61 #[.agg #[.int .i64 a0_0, .int .i64 a0_1, .int .i64 a0_2, .int .i64 a0_3, .int .i64 a0_4]] w fun e w' => e = .returned (.int .i64 r) ∧ Below w.heap.size w w' := by
 have hu := Tryd.underlying33
 unfold meta_Check.f metaOk at h
 cases h0 : metaIn a0_0 0 4095 with
 | false =>
  simp only [h0, Bool.true_and, Bool.and_true, Bool.false_and, Bool.and_false, if_true, Bool.false_eq_true, if_false] at h
  obtain rfl := Option.some.inj h
  clear h
  go_enter Tryd.func61, Tryd.ntmps61
  go_wp2_with (first | (go_at_call 89; refine (meta_in_call _ _ _ _).mono ?_; rintro e w' ⟨rfl, rfl⟩))
  go_ret
  exact ⟨rfl, below_alloc (Below.refl _ _) _⟩
 | true =>
  cases h1 : metaIn a0_1 (-1099511627776) 1099511627776 with
  | false =>
   simp only [h0, h1, Bool.true_and, Bool.and_true, Bool.false_and, Bool.and_false, if_true, Bool.false_eq_true, if_false] at h
   obtain rfl := Option.some.inj h
   clear h
   go_enter Tryd.func61, Tryd.ntmps61
   go_wp2_with (first | (go_at_call 89; refine (meta_in_call _ _ _ _).mono ?_; rintro e w' ⟨rfl, rfl⟩))
   go_ret
   exact ⟨rfl, below_alloc (Below.refl _ _) _⟩
  | true =>
   cases h2 : metaIn a0_2 0 999999999 with
   | false =>
    simp only [h0, h1, h2, Bool.true_and, Bool.and_true, Bool.false_and, Bool.and_false, if_true, Bool.false_eq_true, if_false] at h
    obtain rfl := Option.some.inj h
    clear h
    go_enter Tryd.func61, Tryd.ntmps61
    go_wp2_with (first | (go_at_call 89; refine (meta_in_call _ _ _ _).mono ?_; rintro e w' ⟨rfl, rfl⟩))
    go_ret
    exact ⟨rfl, below_alloc (Below.refl _ _) _⟩
   | true =>
    cases h3 : metaIn a0_3 0 2147483647 with
    | false =>
     simp only [h0, h1, h2, h3, Bool.true_and, Bool.and_true, Bool.false_and, Bool.and_false, if_true, Bool.false_eq_true, if_false] at h
     obtain rfl := Option.some.inj h
     clear h
     go_enter Tryd.func61, Tryd.ntmps61
     go_wp2_with (first | (go_at_call 89; refine (meta_in_call _ _ _ _).mono ?_; rintro e w' ⟨rfl, rfl⟩))
     go_ret
     exact ⟨rfl, below_alloc (Below.refl _ _) _⟩
    | true =>
     cases h4 : metaIn a0_4 0 2147483647 with
     | false =>
      simp only [h0, h1, h2, h3, h4, Bool.true_and, Bool.and_true, Bool.false_and, Bool.and_false, if_true, Bool.false_eq_true, if_false] at h
      obtain rfl := Option.some.inj h
      clear h
      go_enter Tryd.func61, Tryd.ntmps61
      go_wp2_with (first | (go_at_call 89; refine (meta_in_call _ _ _ _).mono ?_; rintro e w' ⟨rfl, rfl⟩))
      go_ret
      exact ⟨rfl, below_alloc (Below.refl _ _) _⟩
     | true =>
      simp only [h0, h1, h2, h3, h4, Bool.true_and, Bool.and_true, Bool.false_and, Bool.and_false, if_true, Bool.false_eq_true, if_false] at h
      obtain rfl := Option.some.inj h
      clear h
      go_enter Tryd.func61, Tryd.ntmps61
      go_wp2_with (first | (go_at_call 89; refine (meta_in_call _ _ _ _).mono ?_; rintro e w' ⟨rfl, rfl⟩))
      go_ret
      exact ⟨rfl, below_alloc (Below.refl _ _) _⟩
end Go.Proofs.YtcdmgdegohcmhaaDoor.PA
namespace Go.Proofs.YtcdmgdegohcmhaaDoor.PA
open Go.RowKit Go.Proofs.YtcdmgdegohcmhaaDoorW.PrintWords Go.Proofs.YtcdmgdegohcmhaaDoorW.PrintLast Go.Proofs.YtcdmgdegohcmhaaDoorW.PrintMore
attribute [local go_sem] max2_int min2_int max_two min_two max_three min_three max_four min_four   -- for this text's walks alone
set_option linter.unusedVariables false
set_option linter.unusedSimpArgs false
def meta_Bytes.f (a0_0 : Int) (a0_1 : Int) (a0_2 : Int) (a0_3 : Int) (a0_4 : Int) : Option (List Int × Int) := (meta_Check.f a0_0 a0_1 a0_2 a0_3 a0_4).bind fun t102 => (if t102 = 0 then ((num_Put.f ([] : List Int) a0_0).bind fun t103 => ((num_PutInt.f t103 a0_1).bind fun t106 => ((num_Put.f t106 a0_2).bind fun t109 => ((num_Put.f t109 a0_3).bind fun t112 => ((num_Put.f t112 a0_4).bind fun t115 => (some (t115, 0))))))) else (some (([] : List Int), t102)))
def meta_Bytes.T5 : Bool × List (List Nat × List Nat) := (true, [([], []), ([], []), ([1], [1]), ([0, 2], [0, 2]), ([], []), ([4], [4]), ([3, 5, 3], [3, 5]), ([], []), ([7], [7]), ([6, 8, 6], [6, 8]), ([9, 9, 0, 1, 2, 3, 4, 5, 6, 7, 8, 9], [9]), ([10, 0, 1, 2, 3, 4, 5, 6, 7, 8, 9, 10], [])])
def meta_Bytes.B5 : List Nat := [0, 0, 2, 7, 0, 16, 63, 0, 128, 511, 1023, 2047]
theorem meta_Bytes.tab5 : rtab .any (opsOf Tryd.f36 5) = meta_Bytes.T5 := by kernel_rfl
theorem meta_Bytes.bits5 : waitsOk meta_Bytes.T5.2 meta_Bytes.B5 = true := by kernel_rfl
set_option maxHeartbeats 8000000 in
set_option maxRecDepth 100000 in
theorem meta_Bytes.calls (a0_0 : Int) (a0_1 : Int) (a0_2 : Int) (a0_3 : Int) (a0_4 : Int) (r1 : List Int) (r2 : Int) (w : World) (h : meta_Bytes.f a0_0 a0_1 a0_2 a0_3 a0_4 = some (r1, r2)) :
  Calls Tryd.prog 36 #[.agg #[.int .i64 a0_0, .int .i64 a0_1, .int .i64 a0_2, .int .i64 a0_3, .int .i64 a0_4]] w fun e w' => ∃ v0_ : Value, e = .returned (.tuple #[v0_, .int .i64 r2]) ∧ Kd.R (Kd.int .u8) 5 w' w.heap.size (fun _ => True) v0_ r1 ∧ Below w.heap.size w w' := by
 have hu33 := Tryd.underlying33
 have HB := Aside0.mk (Below.refl w.heap.size w)
 have H : ((meta_Check.f a0_0 a0_1 a0_2 a0_3 a0_4).bind fun t102 => (if t102 = 0 then ((num_Put.f ([] : List Int) a0_0).bind fun t103 => ((num_PutInt.f t103 a0_1).bind fun t106 => ((num_Put.f t106 a0_2).bind fun t109 => ((num_Put.f t109 a0_3).bind fun t112 => ((num_Put.f t112 a0_4).bind fun t115 => (some (t115, 0))))))) else (some (([] : List Int), t102)))) = some (r1, r2) := h
 clear h
 replace H := Option.bind_eq_some_iff.mp H
 obtain ⟨t102, A20, H⟩ := H
 replace H : (if t102 = 0 then ((num_Put.f ([] : List Int) a0_0).bind fun t103 => ((num_PutInt.f t103 a0_1).bind fun t106 => ((num_Put.f t106 a0_2).bind fun t109 => ((num_Put.f t109 a0_3).bind fun t112 => ((num_Put.f t112 a0_4).bind fun t115 => (some (t115, 0))))))) else (some (([] : List Int), t102))) = some (r1, r2) := H
 have A2 := Aside0.mk A20
 clear A20
 by_cases c3 : t102 = 0
 ·rw [if_pos c3] at H
  have c3b0 : (t102 == 0) = true := beq_iff_eq.mpr c3
  have c3b1 : (t102 != 0) = false := bne_eq_false_iff_eq.mpr c3
  clear c3
  replace H := Option.bind_eq_some_iff.mp H
  obtain ⟨t103, A40, H⟩ := H
  replace H : ((num_PutInt.f t103 a0_1).bind fun t106 => ((num_Put.f t106 a0_2).bind fun t109 => ((num_Put.f t109 a0_3).bind fun t112 => ((num_Put.f t112 a0_4).bind fun t115 => (some (t115, 0)))))) = some (r1, r2) := H
  have A4 := Aside0.mk A40
  clear A40
  replace H := Option.bind_eq_some_iff.mp H
  obtain ⟨t106, A50, H⟩ := H
  replace H : ((num_Put.f t106 a0_2).bind fun t109 => ((num_Put.f t109 a0_3).bind fun t112 => ((num_Put.f t112 a0_4).bind fun t115 => (some (t115, 0))))) = some (r1, r2) := H
  have A5 := Aside0.mk A50
  clear A50
  replace H := Option.bind_eq_some_iff.mp H
  obtain ⟨t109, A60, H⟩ := H
  replace H : ((num_Put.f t109 a0_3).bind fun t112 => ((num_Put.f t112 a0_4).bind fun t115 => (some (t115, 0)))) = some (r1, r2) := H
  have A6 := Aside0.mk A60
  clear A60
  replace H := Option.bind_eq_some_iff.mp H
  obtain ⟨t112, A70, H⟩ := H
  replace H : ((num_Put.f t112 a0_4).bind fun t115 => (some (t115, 0))) = some (r1, r2) := H
  have A7 := Aside0.mk A70
  clear A70
  replace H := Option.bind_eq_some_iff.mp H
  obtain ⟨t115, A80, H⟩ := H
  replace H : (some (t115, 0)) = some (r1, r2) := H
  have A8 := Aside0.mk A80
  clear A80
  simp only [Option.some.injEq, Prod.mk.injEq] at H
  obtain ⟨rfl, rfl⟩ := H
  go_enter Tryd.func36, Tryd.ntmps36
  try go_wp2_with (first | ((with_reducible refine gate_dst (N := 1) rfl ?_); refine box_event ?hg (N := 1) ?hd (cs := #[.int .i64 a0_0, .int .i64 a0_1, .int .i64 a0_2, .int .i64 a0_3, .int .i64 a0_4]) (t := 33) ?hr ?_; (case hd => rfl); (case hg => rfl); (case hr => first | (go_simp; done) | (go_simp; rfl)); intro gb101 hg w9 hbox hb; have n0_ := Aside0.mk (below_step (by repeat (first | (with_reducible first | exact HB.out | apply below_alloc | apply pw_below_drewN | apply below_drew1) | exact HB.out)) hb); have n1_ := Aside0.mk (hbox); have n2_ := Aside0.mk ((by rw [hg]; exact (below_size (by repeat (first | (with_reducible first | exact HB.out | apply below_alloc | apply pw_below_drewN | apply below_drew1) | exact HB.out))) : w.heap.size ≤ gb101)); have n3_ := Aside0.mk ((by rw [hg]; exact (below_size (by repeat (first | (with_reducible first | exact HB.out | apply below_alloc | apply pw_below_drewN | apply below_drew1) | exact HB.out))) : w.heap.size ≤ gb101)); clear HB; have HB := n0_; have BK101 := n1_; have GW101 := n2_; have GE101 := n3_; clear n0_ n1_ n2_ n3_; clear hb hbox hg; have hcz10_0 : w9.cell? ⟨gb101, 0, none⟩ = some (.int .i64 a0_0) := (blk_cell BK101.out 0).trans rfl; have hcz10_1 : w9.cell? ⟨gb101, 1, none⟩ = some (.int .i64 a0_1) := (blk_cell BK101.out 1).trans rfl; have hcz10_2 : w9.cell? ⟨gb101, 2, none⟩ = some (.int .i64 a0_2) := (blk_cell BK101.out 2).trans rfl; have hcz10_3 : w9.cell? ⟨gb101, 3, none⟩ = some (.int .i64 a0_3) := (blk_cell BK101.out 3).trans rfl; have hcz10_4 : w9.cell? ⟨gb101, 4, none⟩ = some (.int .i64 a0_4) := (blk_cell BK101.out 4).trans rfl; have hfz10_0 := blk_frozen BK101.out 0; have hfz10_1 := blk_frozen BK101.out 1; have hfz10_2 := blk_frozen BK101.out 2; have hfz10_3 := blk_frozen BK101.out 3; have hfz10_4 := blk_frozen BK101.out 4) | ((with_reducible refine gate_callee (f := 61) rfl ?_); refine goesL_ (some 7) rfl rfl Tryd.func61 (by kernel_rfl) rfl #[.agg #[.int .i64 a0_0, .int .i64 a0_1, .int .i64 a0_2, .int .i64 a0_3, .int .i64 a0_4]] rfl (by (try simp only [List.map_toArray, List.map_cons, List.map_nil]); first | done | rfl | (simp only [List.length_drop, List.length_take]; rfl)) ?_; (with_reducible refine (meta_Check.calls a0_0 a0_1 a0_2 a0_3 a0_4 t102 _ A2.out).mono ?_); rintro e w11 ⟨rfl, hb⟩; refine ⟨_, rfl, ?_⟩; have n0_ := Aside0.mk (blk_below (g := gb101) (o := .cells #[.int .i64 a0_0, .int .i64 a0_1, .int .i64 a0_2, .int .i64 a0_3, .int .i64 a0_4] 33 (0, 0)) (by (with_reducible repeat (first | refine blk_drewN ?_ _ | refine blk_drew ?_ | refine blk_alloc ?_ _)); exact BK101.out) hb); have n1_ := Aside0.mk (below_step (by repeat (first | (with_reducible first | exact HB.out | apply below_alloc | apply pw_below_drewN | apply below_drew1 | refine below_set ?_ GE101.out) | exact HB.out)) hb); clear BK101; clear HB; have BK101 := n0_; have HB := n1_; clear n0_ n1_; (try clear hb); (try clear hb2); (try clear hk); (try clear hi)))
  have n0_ := Aside0.mk (blk_drew BK101.out)
  have n1_ := Aside0.mk (below_drew1 HB.out)
  clear BK101
  clear HB
  have BK101 := n0_
  have HB := n1_
  clear n0_ n1_
  refine start_ (n := 7) (S := fun w' => w'.cell? ⟨gb101, 0, none⟩ = some (.int .i64 a0_0) ∧ w'.cell? ⟨gb101, 1, none⟩ = some (.int .i64 a0_1) ∧ w'.cell? ⟨gb101, 2, none⟩ = some (.int .i64 a0_2) ∧ w'.cell? ⟨gb101, 3, none⟩ = some (.int .i64 a0_3) ∧ w'.cell? ⟨gb101, 4, none⟩ = some (.int .i64 a0_4)) (ds := []) #[false, false, false, false, false, false, false] (by kernel_rfl) rfl rfl ⟨(blk_cell BK101.out 0).trans rfl, (blk_cell BK101.out 1).trans rfl, (blk_cell BK101.out 2).trans rfl, (blk_cell BK101.out 3).trans rfl, (blk_cell BK101.out 4).trans rfl⟩ (fun hHeld => ?_)
  generalize w11.drew = w12 at BK101 HB hHeld ⊢
  refine pure_ (i := 0) (N := some 11) (v := ?_) (a' := ?_) #[true, false, false, false, false, false, false] rfl rfl (by kernel_rfl) (fun _ _ _ h => h) (Or.inl ⟨by rfl, ?_⟩) ?_ ?_
  rotate_left
  ·intro w'
   go_simp
   with_reducible rfl
  rotate_left
  ·simp only [Act.put, List.setIfInBounds_toArray, List.set_cons_zero, List.set_cons_succ, i64_w, i32_w]
   rfl
  refine pure_ (i := 3) (N := some 14) (v := ?_) (a' := ?_) #[true, false, false, true, false, false, false] rfl rfl (by kernel_rfl) (fun _ _ _ h => h) (Or.inl ⟨by rfl, ?_⟩) ?_ ?_
  rotate_left
  ·intro w'
   go_simp
   with_reducible rfl
  rotate_left
  ·simp only [Act.put, List.setIfInBounds_toArray, List.set_cons_zero, List.set_cons_succ, i64_w, i32_w]
   rfl
  refine take_ (i := 1) (N := some 12) (v := ?_) (a' := ?_) #[true, true, false, true, false, false, false] rfl rfl (by kernel_rfl) (fun _ _ _ h => h) (Or.inl ⟨by rfl, ?_⟩) hHeld ?_ ?_
  rotate_left
  ·rintro w' ⟨s0, s1, s2, s3, s4⟩
   go_simp
   with_reducible rfl
  rotate_left
  ·simp only [Act.put, List.setIfInBounds_toArray, List.set_cons_zero, List.set_cons_succ, i64_w, i32_w]
   rfl
  refine take_ (i := 4) (N := some 15) (v := ?_) (a' := ?_) #[true, true, false, true, true, false, false] rfl rfl (by kernel_rfl) (fun _ _ _ h => h) (Or.inl ⟨by rfl, ?_⟩) hHeld ?_ ?_
  rotate_left
  ·rintro w' ⟨s0, s1, s2, s3, s4⟩
   go_simp
   with_reducible rfl
  rotate_left
  ·simp only [Act.put, List.setIfInBounds_toArray, List.set_cons_zero, List.set_cons_succ, i64_w, i32_w]
   rfl
  refine one_ (i := 2) (N := some 13) #[true, true, true, true, true, false, false] rfl rfl (by kernel_rfl) (by decide) (fun K hK => ?_)
  refine goes_ Tryd.func33 (by kernel_rfl) rfl #[.slice none 0 0, .int .i64 a0_0] (by rfl) rfl rfl (by (try simp only [List.map_toArray, List.map_cons, List.map_nil]); first | done | rfl | (simp only [List.length_drop, List.length_take]; rfl)) ?_
  refine (num_Put.calls _ _ ([] : List Int) a0_0 t103 _ ?side1 ?side2 A4.out).mono ?_
  (case side1 => exact Kd.C_nil _ _)
  (case side2 => exact Nat.le_refl _)
  rintro e w13 ⟨v104, rfl, ho0, hb⟩
  refine ⟨_, rfl, ?_⟩
  have n0_ := Aside0.mk (Kd.R_lower ho0 (below_size (by repeat (first | (with_reducible first | exact HB.out | apply below_alloc | apply pw_below_drewN | apply below_drew1 | refine below_set ?_ GE101.out) | exact HB.out))))
  have n1_ := Aside0.mk (blk_below (g := gb101) (o := .cells #[.int .i64 a0_0, .int .i64 a0_1, .int .i64 a0_2, .int .i64 a0_3, .int .i64 a0_4] 33 (0, 0)) (by (with_reducible repeat (first | refine blk_drewN ?_ _ | refine blk_drew ?_ | refine blk_alloc ?_ _)); exact BK101.out) hb)
  have n2_ := Aside0.mk (below_step (by repeat (first | (with_reducible first | exact HB.out | apply below_alloc | apply pw_below_drewN | apply below_drew1 | refine below_set ?_ GE101.out) | exact HB.out)) hb)
  clear BK101
  clear HB
  have HO105 := n0_
  have BK101 := n1_
  have HB := n2_
  clear n0_ n1_ n2_
  (try clear hb)
  (try clear hb2)
  (try clear hk)
  (try clear hi)
  (try clear ho0)
  obtain ⟨Ao14, co14, eo14⟩ := Kd.R_slice HO105.out
  (first | subst eo14 | (injection eo14 with f1_ f2_ f3_; have f4_ := f1_.symm; have f5_ := f3_.symm; clear f1_ f2_ f3_; subst f4_; subst f5_))
  refine hK.out _ _ ⟨(blk_cell BK101.out 0).trans rfl, (blk_cell BK101.out 1).trans rfl, (blk_cell BK101.out 2).trans rfl, (blk_cell BK101.out 3).trans rfl, (blk_cell BK101.out 4).trans rfl⟩ (fun hHeld => ?_)
  clear hK K
  refine norm_ (a' := ?_) ?_ ?_
  rotate_left
  ·show Act.put _ (some 13) _ = _
   simp only [Act.put, List.setIfInBounds_toArray, List.set_cons_zero, List.set_cons_succ, i64_w, i32_w]
   rfl
  refine one_ (i := 5) (N := some 16) #[true, true, true, true, true, true, false] rfl rfl (by kernel_rfl) (by decide) (fun K hK => ?_)
  refine goes_ Tryd.func69 (by kernel_rfl) rfl #[.slice Ao14 t103.length co14, .int .i64 a0_1] (by rfl) rfl rfl (by (try simp only [List.map_toArray, List.map_cons, List.map_nil]); first | done | rfl | (simp only [List.length_drop, List.length_take]; rfl)) ?_
  with_reducible refine (num_PutInt.calls _ _ t103 a0_1 t106 _ ?side1 ?side2 A5.out).mono ?_
  (case side1 => repeat (first | exact (Kd.R_reads' HO105.out).2.2 | (with_reducible refine Kd.C_alloc ?_ _) | (with_reducible refine Kd.C_drewN ?_ _) | (with_reducible refine Kd.C_drew ?_)))
  (case side2 => exact (Kd.R_reads' HO105.out).2.1)
  rintro e w15 ⟨v107, rfl, ho0, hb⟩
  refine ⟨_, rfl, ?_⟩
  have n0_ := Aside0.mk (Kd.R_elder' (by (with_reducible repeat (first | apply Kd.R_alloc | apply Kd.R_drewN | apply Kd.R_drew)); exact HO105.out) (Kd.R_base ho0) hb)
  have n1_ := Aside0.mk (Kd.R_lower (Kd.R_new' ho0 (Kd.R_lt (by (with_reducible repeat (first | apply Kd.R_alloc | apply Kd.R_drewN | apply Kd.R_drew)); exact HO105.out))) (below_size (by repeat (first | (with_reducible first | exact HB.out | apply below_alloc | apply pw_below_drewN | apply below_drew1 | refine below_set ?_ GE101.out) | exact HB.out))))
  have n2_ := Aside0.mk (blk_below (g := gb101) (o := .cells #[.int .i64 a0_0, .int .i64 a0_1, .int .i64 a0_2, .int .i64 a0_3, .int .i64 a0_4] 33 (0, 0)) (by (with_reducible repeat (first | refine blk_drewN ?_ _ | refine blk_drew ?_ | refine blk_alloc ?_ _)); exact BK101.out) hb)
  have n3_ := Aside0.mk (below_step (by repeat (first | (with_reducible first | exact HB.out | apply below_alloc | apply pw_below_drewN | apply below_drew1 | refine below_set ?_ GE101.out) | exact HB.out)) hb)
  clear HO105
  clear BK101
  clear HB
  have HO105 := n0_
  have HO108 := n1_
  have BK101 := n2_
  have HB := n3_
  clear n0_ n1_ n2_ n3_
  (try clear hb)
  (try clear hb2)
  (try clear hk)
  (try clear hi)
  (try clear ho0)
  refine hK.out _ _ ⟨(blk_cell BK101.out 0).trans rfl, (blk_cell BK101.out 1).trans rfl, (blk_cell BK101.out 2).trans rfl, (blk_cell BK101.out 3).trans rfl, (blk_cell BK101.out 4).trans rfl⟩ (fun hHeld => ?_)
  clear hK K
  refine norm_ (a' := ?_) ?_ ?_
  rotate_left
  ·show Act.put _ (some 16) _ = _
   simp only [Act.put, List.setIfInBounds_toArray, List.set_cons_zero, List.set_cons_succ, i64_w, i32_w]
   rfl
  refine pure_ (i := 6) (N := some 5) (v := ?_) (a' := ?_) #[true, true, true, true, true, true, true] rfl rfl (by kernel_rfl) (fun _ _ _ h => h) (Or.inl ⟨by rfl, ?_⟩) ?_ ?_
  rotate_left
  ·intro w'
   go_simp
   with_reducible rfl
  rotate_left
  ·simp only [Act.put, List.setIfInBounds_toArray, List.set_cons_zero, List.set_cons_succ, i64_w, i32_w]
   rfl
  refine done_ (by kernel_rfl) ?_
  try go_wp2
  have n0_ := Aside0.mk (Kd.R_drew HO105.out)
  have n1_ := Aside0.mk (Kd.R_drew HO108.out)
  have n2_ := Aside0.mk (blk_drew BK101.out)
  have n3_ := Aside0.mk (below_drew1 HB.out)
  clear HO105
  clear HO108
  clear BK101
  clear HB
  have HO105 := n0_
  have HO108 := n1_
  have BK101 := n2_
  have HB := n3_
  clear n0_ n1_ n2_ n3_
  obtain ⟨Ao17, co17, eo17⟩ := Kd.R_slice HO108.out
  (first | subst eo17 | (injection eo17 with f1_ f2_ f3_; have f4_ := f1_.symm; have f5_ := f3_.symm; clear f1_ f2_ f3_; subst f4_; subst f5_))
  refine start_ (n := 12) (S := fun w' => w'.cell? ⟨gb101, 0, none⟩ = some (.int .i64 a0_0) ∧ w'.cell? ⟨gb101, 1, none⟩ = some (.int .i64 a0_1) ∧ w'.cell? ⟨gb101, 2, none⟩ = some (.int .i64 a0_2) ∧ w'.cell? ⟨gb101, 3, none⟩ = some (.int .i64 a0_3) ∧ w'.cell? ⟨gb101, 4, none⟩ = some (.int .i64 a0_4)) (ds := []) #[false, false, false, false, false, false, false, false, false, false, false, false] (by kernel_rfl) rfl rfl ⟨(blk_cell BK101.out 0).trans rfl, (blk_cell BK101.out 1).trans rfl, (blk_cell BK101.out 2).trans rfl, (blk_cell BK101.out 3).trans rfl, (blk_cell BK101.out 4).trans rfl⟩ (fun hHeld => ?_); refine with_tabW meta_Bytes.tab5 meta_Bytes.bits5 (fun HT_ HW_ => ?_)
  generalize w15.drew = w16 at HO105 HO108 BK101 HB hHeld ⊢
  refine pure_ (i := 0) (N := some 17) (v := ?_) (a' := ?_) #[true, false, false, false, false, false, false, false, false, false, false, false] rfl rfl (any_of HT_.out (by kernel_rfl)) (fun _ _ _ h => h) (Or.inl ⟨by rfl, ?_⟩) ?_ ?_
  rotate_left
  ·intro w'
   go_simp
   with_reducible rfl
  rotate_left
  ·simp only [Act.put, List.setIfInBounds_toArray, List.set_cons_zero, List.set_cons_succ, i64_w, i32_w]
   rfl
  refine pure_ (i := 1) (N := some 18) (v := ?_) (a' := ?_) #[true, true, false, false, false, false, false, false, false, false, false, false] rfl rfl (any_of HT_.out (by kernel_rfl)) (fun _ _ _ h => h) (Or.inl ⟨by rfl, ?_⟩) ?_ ?_
  rotate_left
  ·intro w'
   go_simp
   with_reducible rfl
  rotate_left
  ·simp only [Act.put, List.setIfInBounds_toArray, List.set_cons_zero, List.set_cons_succ, i64_w, i32_w]
   rfl
  refine pure_ (i := 4) (N := some 21) (v := ?_) (a' := ?_) #[true, true, false, false, true, false, false, false, false, false, false, false] rfl rfl (any_of HT_.out (by kernel_rfl)) (fun _ _ _ h => h) (Or.inl ⟨by rfl, ?_⟩) ?_ ?_
  rotate_left
  ·intro w'
   go_simp
   with_reducible rfl
  rotate_left
  ·simp only [Act.put, List.setIfInBounds_toArray, List.set_cons_zero, List.set_cons_succ, i64_w, i32_w]
   rfl
  refine pure_ (i := 7) (N := some 24) (v := ?_) (a' := ?_) #[true, true, false, false, true, false, false, true, false, false, false, false] rfl rfl (any_of HT_.out (by kernel_rfl)) (fun _ _ _ h => h) (Or.inl ⟨by rfl, ?_⟩) ?_ ?_
  rotate_left
  ·intro w'
   go_simp
   with_reducible rfl
  rotate_left
  ·simp only [Act.put, List.setIfInBounds_toArray, List.set_cons_zero, List.set_cons_succ, i64_w, i32_w]
   rfl
  refine take_ (i := 2) (N := some 19) (v := ?_) (a' := ?_) #[true, true, true, false, true, false, false, true, false, false, false, false] rfl rfl (take_ofW HT_.out HW_.out (by kernel_rfl)) (fun _ _ _ h => h) (Or.inl ⟨by rfl, ?_⟩) hHeld ?_ ?_
  rotate_left
  ·rintro w' ⟨s0, s1, s2, s3, s4⟩
   go_simp
   with_reducible rfl
  rotate_left
  ·simp only [Act.put, List.setIfInBounds_toArray, List.set_cons_zero, List.set_cons_succ, i64_w, i32_w]
   rfl
  refine take_ (i := 5) (N := some 22) (v := ?_) (a' := ?_) #[true, true, true, false, true, true, false, true, false, false, false, false] rfl rfl (take_ofW HT_.out HW_.out (by kernel_rfl)) (fun _ _ _ h => h) (Or.inl ⟨by rfl, ?_⟩) hHeld ?_ ?_
  rotate_left
  ·rintro w' ⟨s0, s1, s2, s3, s4⟩
   go_simp
   with_reducible rfl
  rotate_left
  ·simp only [Act.put, List.setIfInBounds_toArray, List.set_cons_zero, List.set_cons_succ, i64_w, i32_w]
   rfl
  refine take_ (i := 8) (N := some 25) (v := ?_) (a' := ?_) #[true, true, true, false, true, true, false, true, true, false, false, false] rfl rfl (take_ofW HT_.out HW_.out (by kernel_rfl)) (fun _ _ _ h => h) (Or.inl ⟨by rfl, ?_⟩) hHeld ?_ ?_
  rotate_left
  ·rintro w' ⟨s0, s1, s2, s3, s4⟩
   go_simp
   with_reducible rfl
  rotate_left
  ·simp only [Act.put, List.setIfInBounds_toArray, List.set_cons_zero, List.set_cons_succ, i64_w, i32_w]
   rfl
  refine one_ (i := 3) (N := some 20) #[true, true, true, true, true, true, false, true, true, false, false, false] rfl rfl (one_of HT_.out (by kernel_rfl)) (by decide) (fun K hK => ?_)
  refine goes_ Tryd.func33 (by kernel_rfl) rfl #[.slice Ao17 t106.length co17, .int .i64 a0_2] (by rfl) rfl rfl (by (try simp only [List.map_toArray, List.map_cons, List.map_nil]); first | done | rfl | (simp only [List.length_drop, List.length_take]; rfl)) ?_
  with_reducible refine (num_Put.calls _ _ t106 a0_2 t109 _ ?side1 ?side2 A6.out).mono ?_
  (case side1 => repeat (first | exact (Kd.R_reads' HO108.out).2.2 | (with_reducible refine Kd.C_alloc ?_ _) | (with_reducible refine Kd.C_drewN ?_ _) | (with_reducible refine Kd.C_drew ?_)))
  (case side2 => exact (Kd.R_reads' HO108.out).2.1)
  rintro e w18 ⟨v110, rfl, ho0, hb⟩
  refine ⟨_, rfl, ?_⟩
  have n0_ := Aside0.mk (Kd.R_elder' (by (with_reducible repeat (first | apply Kd.R_alloc | apply Kd.R_drewN | apply Kd.R_drew)); exact HO105.out) (Kd.R_base ho0) hb)
  have n1_ := Aside0.mk (Kd.R_elder' (by (with_reducible repeat (first | apply Kd.R_alloc | apply Kd.R_drewN | apply Kd.R_drew)); exact HO108.out) (Kd.R_base ho0) hb)
  have n2_ := Aside0.mk (Kd.R_lower (Kd.R_new' (Kd.R_new' ho0 (Kd.R_lt (by (with_reducible repeat (first | apply Kd.R_alloc | apply Kd.R_drewN | apply Kd.R_drew)); exact HO105.out))) (Kd.R_lt (by (with_reducible repeat (first | apply Kd.R_alloc | apply Kd.R_drewN | apply Kd.R_drew)); exact HO108.out))) (below_size (by repeat (first | (with_reducible first | exact HB.out | apply below_alloc | apply pw_below_drewN | apply below_drew1 | refine below_set ?_ GE101.out) | exact HB.out))))
  have n3_ := Aside0.mk (blk_below (g := gb101) (o := .cells #[.int .i64 a0_0, .int .i64 a0_1, .int .i64 a0_2, .int .i64 a0_3, .int .i64 a0_4] 33 (0, 0)) (by (with_reducible repeat (first | refine blk_drewN ?_ _ | refine blk_drew ?_ | refine blk_alloc ?_ _)); exact BK101.out) hb)
  have n4_ := Aside0.mk (below_step (by repeat (first | (with_reducible first | exact HB.out | apply below_alloc | apply pw_below_drewN | apply below_drew1 | refine below_set ?_ GE101.out) | exact HB.out)) hb)
  clear HO105
  clear HO108
  clear BK101
  clear HB
  have HO105 := n0_
  have HO108 := n1_
  have HO111 := n2_
  have BK101 := n3_
  have HB := n4_
  clear n0_ n1_ n2_ n3_ n4_
  (try clear hb)
  (try clear hb2)
  (try clear hk)
  (try clear hi)
  (try clear ho0)
  obtain ⟨Ao19, co19, eo19⟩ := Kd.R_slice HO111.out
  (first | subst eo19 | (injection eo19 with f1_ f2_ f3_; have f4_ := f1_.symm; have f5_ := f3_.symm; clear f1_ f2_ f3_; subst f4_; subst f5_))
  refine hK.out _ _ ⟨(blk_cell BK101.out 0).trans rfl, (blk_cell BK101.out 1).trans rfl, (blk_cell BK101.out 2).trans rfl, (blk_cell BK101.out 3).trans rfl, (blk_cell BK101.out 4).trans rfl⟩ (fun hHeld => ?_)
  clear hK K
  refine norm_ (a' := ?_) ?_ ?_
  rotate_left
  ·show Act.put _ (some 20) _ = _
   simp only [Act.put, List.setIfInBounds_toArray, List.set_cons_zero, List.set_cons_succ, i64_w, i32_w]
   rfl
  refine one_ (i := 6) (N := some 23) #[true, true, true, true, true, true, true, true, true, false, false, false] rfl rfl (one_of HT_.out (by kernel_rfl)) (by decide) (fun K hK => ?_)
  refine goes_ Tryd.func33 (by kernel_rfl) rfl #[.slice Ao19 t109.length co19, .int .i64 a0_3] (by rfl) rfl rfl (by (try simp only [List.map_toArray, List.map_cons, List.map_nil]); first | done | rfl | (simp only [List.length_drop, List.length_take]; rfl)) ?_
  with_reducible refine (num_Put.calls _ _ t109 a0_3 t112 _ ?side1 ?side2 A7.out).mono ?_
  (case side1 => repeat (first | exact (Kd.R_reads' HO111.out).2.2 | (with_reducible refine Kd.C_alloc ?_ _) | (with_reducible refine Kd.C_drewN ?_ _) | (with_reducible refine Kd.C_drew ?_)))
  (case side2 => exact (Kd.R_reads' HO111.out).2.1)
  rintro e w20 ⟨v113, rfl, ho0, hb⟩
  refine ⟨_, rfl, ?_⟩
  have n0_ := Aside0.mk (Kd.R_elder' (by (with_reducible repeat (first | apply Kd.R_alloc | apply Kd.R_drewN | apply Kd.R_drew)); exact HO105.out) (Kd.R_base ho0) hb)
  have n1_ := Aside0.mk (Kd.R_elder' (by (with_reducible repeat (first | apply Kd.R_alloc | apply Kd.R_drewN | apply Kd.R_drew)); exact HO108.out) (Kd.R_base ho0) hb)
  have n2_ := Aside0.mk (Kd.R_elder' (by (with_reducible repeat (first | apply Kd.R_alloc | apply Kd.R_drewN | apply Kd.R_drew)); exact HO111.out) (Kd.R_base ho0) hb)
  have n3_ := Aside0.mk (Kd.R_lower (Kd.R_new' (Kd.R_new' (Kd.R_new' ho0 (Kd.R_lt (by (with_reducible repeat (first | apply Kd.R_alloc | apply Kd.R_drewN | apply Kd.R_drew)); exact HO105.out))) (Kd.R_lt (by (with_reducible repeat (first | apply Kd.R_alloc | apply Kd.R_drewN | apply Kd.R_drew)); exact HO108.out))) (Kd.R_lt (by (with_reducible repeat (first | apply Kd.R_alloc | apply Kd.R_drewN | apply Kd.R_drew)); exact HO111.out))) (below_size (by repeat (first | (with_reducible first | exact HB.out | apply below_alloc | apply pw_below_drewN | apply below_drew1 | refine below_set ?_ GE101.out) | exact HB.out))))
  have n4_ := Aside0.mk (blk_below (g := gb101) (o := .cells #[.int .i64 a0_0, .int .i64 a0_1, .int .i64 a0_2, .int .i64 a0_3, .int .i64 a0_4] 33 (0, 0)) (by (with_reducible repeat (first | refine blk_drewN ?_ _ | refine blk_drew ?_ | refine blk_alloc ?_ _)); exact BK101.out) hb)
  have n5_ := Aside0.mk (below_step (by repeat (first | (with_reducible first | exact HB.out | apply below_alloc | apply pw_below_drewN | apply below_drew1 | refine below_set ?_ GE101.out) | exact HB.out)) hb)
  clear HO105
  clear HO108
  clear HO111
  clear BK101
  clear HB
  have HO105 := n0_
  have HO108 := n1_
  have HO111 := n2_
  have HO114 := n3_
  have BK101 := n4_
  have HB := n5_
  clear n0_ n1_ n2_ n3_ n4_ n5_
  (try clear hb)
  (try clear hb2)
  (try clear hk)
  (try clear hi)
  (try clear ho0)
  obtain ⟨Ao21, co21, eo21⟩ := Kd.R_slice HO114.out
  (first | subst eo21 | (injection eo21 with f1_ f2_ f3_; have f4_ := f1_.symm; have f5_ := f3_.symm; clear f1_ f2_ f3_; subst f4_; subst f5_))
  refine hK.out _ _ ⟨(blk_cell BK101.out 0).trans rfl, (blk_cell BK101.out 1).trans rfl, (blk_cell BK101.out 2).trans rfl, (blk_cell BK101.out 3).trans rfl, (blk_cell BK101.out 4).trans rfl⟩ (fun hHeld => ?_)
  clear hK K
  refine norm_ (a' := ?_) ?_ ?_
  rotate_left
  ·show Act.put _ (some 23) _ = _
   simp only [Act.put, List.setIfInBounds_toArray, List.set_cons_zero, List.set_cons_succ, i64_w, i32_w]
   rfl
  refine one_ (i := 9) (N := some 26) #[true, true, true, true, true, true, true, true, true, true, false, false] rfl rfl (one_of HT_.out (by kernel_rfl)) (by decide) (fun K hK => ?_)
  refine goes_ Tryd.func33 (by kernel_rfl) rfl #[.slice Ao21 t112.length co21, .int .i64 a0_4] (by rfl) rfl rfl (by (try simp only [List.map_toArray, List.map_cons, List.map_nil]); first | done | rfl | (simp only [List.length_drop, List.length_take]; rfl)) ?_
  with_reducible refine (num_Put.calls _ _ t112 a0_4 t115 _ ?side1 ?side2 A8.out).mono ?_
  (case side1 => repeat (first | exact (Kd.R_reads' HO114.out).2.2 | (with_reducible refine Kd.C_alloc ?_ _) | (with_reducible refine Kd.C_drewN ?_ _) | (with_reducible refine Kd.C_drew ?_)))
  (case side2 => exact (Kd.R_reads' HO114.out).2.1)
  rintro e w22 ⟨v116, rfl, ho0, hb⟩
  refine ⟨_, rfl, ?_⟩
  have n0_ := Aside0.mk (Kd.R_elder' (by (with_reducible repeat (first | apply Kd.R_alloc | apply Kd.R_drewN | apply Kd.R_drew)); exact HO105.out) (Kd.R_base ho0) hb)
  have n1_ := Aside0.mk (Kd.R_elder' (by (with_reducible repeat (first | apply Kd.R_alloc | apply Kd.R_drewN | apply Kd.R_drew)); exact HO108.out) (Kd.R_base ho0) hb)
  have n2_ := Aside0.mk (Kd.R_elder' (by (with_reducible repeat (first | apply Kd.R_alloc | apply Kd.R_drewN | apply Kd.R_drew)); exact HO111.out) (Kd.R_base ho0) hb)
  have n3_ := Aside0.mk (Kd.R_elder' (by (with_reducible repeat (first | apply Kd.R_alloc | apply Kd.R_drewN | apply Kd.R_drew)); exact HO114.out) (Kd.R_base ho0) hb)
  have n4_ := Aside0.mk (Kd.R_lower (Kd.R_new' (Kd.R_new' (Kd.R_new' (Kd.R_new' ho0 (Kd.R_lt (by (with_reducible repeat (first | apply Kd.R_alloc | apply Kd.R_drewN | apply Kd.R_drew)); exact HO105.out))) (Kd.R_lt (by (with_reducible repeat (first | apply Kd.R_alloc | apply Kd.R_drewN | apply Kd.R_drew)); exact HO108.out))) (Kd.R_lt (by (with_reducible repeat (first | apply Kd.R_alloc | apply Kd.R_drewN | apply Kd.R_drew)); exact HO111.out))) (Kd.R_lt (by (with_reducible repeat (first | apply Kd.R_alloc | apply Kd.R_drewN | apply Kd.R_drew)); exact HO114.out))) (below_size (by repeat (first | (with_reducible first | exact HB.out | apply below_alloc | apply pw_below_drewN | apply below_drew1 | refine below_set ?_ GE101.out) | exact HB.out))))
  have n5_ := Aside0.mk (blk_below (g := gb101) (o := .cells #[.int .i64 a0_0, .int .i64 a0_1, .int .i64 a0_2, .int .i64 a0_3, .int .i64 a0_4] 33 (0, 0)) (by (with_reducible repeat (first | refine blk_drewN ?_ _ | refine blk_drew ?_ | refine blk_alloc ?_ _)); exact BK101.out) hb)
  have n6_ := Aside0.mk (below_step (by repeat (first | (with_reducible first | exact HB.out | apply below_alloc | apply pw_below_drewN | apply below_drew1 | refine below_set ?_ GE101.out) | exact HB.out)) hb)
  clear HO105
  clear HO108
  clear HO111
  clear HO114
  clear BK101
  clear HB
  have HO105 := n0_
  have HO108 := n1_
  have HO111 := n2_
  have HO114 := n3_
  have HO117 := n4_
  have BK101 := n5_
  have HB := n6_
  clear n0_ n1_ n2_ n3_ n4_ n5_ n6_
  (try clear hb)
  (try clear hb2)
  (try clear hk)
  (try clear hi)
  (try clear ho0)
  refine hK.out _ _ ⟨(blk_cell BK101.out 0).trans rfl, (blk_cell BK101.out 1).trans rfl, (blk_cell BK101.out 2).trans rfl, (blk_cell BK101.out 3).trans rfl, (blk_cell BK101.out 4).trans rfl⟩ (fun hHeld => ?_)
  clear hK K
  refine norm_ (a' := ?_) ?_ ?_
  rotate_left
  ·show Act.put _ (some 26) _ = _
   simp only [Act.put, List.setIfInBounds_toArray, List.set_cons_zero, List.set_cons_succ, i64_w, i32_w]
   rfl
  refine pure_ (i := 10) (N := some 2) (v := ?_) (a' := ?_) #[true, true, true, true, true, true, true, true, true, true, true, false] rfl rfl (any_of HT_.out (by kernel_rfl)) (fun _ _ _ h => h) (Or.inl ⟨by rfl, ?_⟩) ?_ ?_
  rotate_left
  ·intro w'
   go_simp
   with_reducible rfl
  rotate_left
  ·simp only [Act.put, List.setIfInBounds_toArray, List.set_cons_zero, List.set_cons_succ, i64_w, i32_w]
   rfl
  refine pure_ (i := 11) (N := some 3) (v := ?_) (a' := ?_) #[true, true, true, true, true, true, true, true, true, true, true, true] rfl rfl (any_of HT_.out (by kernel_rfl)) (fun _ _ _ h => h) (Or.inl ⟨by rfl, ?_⟩) ?_ ?_
  rotate_left
  ·intro w'
   go_simp
   with_reducible rfl
  rotate_left
  ·simp only [Act.put, List.setIfInBounds_toArray, List.set_cons_zero, List.set_cons_succ, i64_w, i32_w]
   rfl
  refine done_ (done_of HT_.out (by kernel_rfl)) ?_
  try go_wp2
  go_ret2
  exact ⟨_, by first | rfl | (simp [errW_none, errW_some] <;> rfl) | (simp [*, errW_none, errW_some] <;> rfl), by (with_reducible repeat (first | apply Kd.R_alloc | apply Kd.R_drewN | apply Kd.R_drew)); exact Kd.R_mono HO117.out (fun _ hk => trivial), by repeat (first | (with_reducible first | exact HB.out | apply below_alloc | apply pw_below_drewN | apply below_drew1 | refine below_set ?_ GE101.out) | exact HB.out)⟩
 ·rw [if_neg c3] at H
  have c3b0 : (t102 == 0) = false := beq_eq_false_iff_ne.mpr c3
  have c3b1 : (t102 != 0) = true := bne_iff_ne.mpr c3
  simp only [Option.some.injEq, Prod.mk.injEq] at H
  obtain ⟨rfl, rfl⟩ := H
  go_enter Tryd.func36, Tryd.ntmps36
  go_wp2_with (first | ((with_reducible refine gate_dst (N := 1) rfl ?_); refine box_event ?hg (N := 1) ?hd (cs := #[.int .i64 a0_0, .int .i64 a0_1, .int .i64 a0_2, .int .i64 a0_3, .int .i64 a0_4]) (t := 33) ?hr ?_; (case hd => rfl); (case hg => rfl); (case hr => first | (go_simp; done) | (go_simp; rfl)); intro gb101 hg w23 hbox hb; have n0_ := Aside0.mk (below_step (by repeat (first | (with_reducible first | exact HB.out | apply below_alloc | apply pw_below_drewN | apply below_drew1) | exact HB.out)) hb); have n1_ := Aside0.mk (hbox); have n2_ := Aside0.mk ((by rw [hg]; exact (below_size (by repeat (first | (with_reducible first | exact HB.out | apply below_alloc | apply pw_below_drewN | apply below_drew1) | exact HB.out))) : w.heap.size ≤ gb101)); have n3_ := Aside0.mk ((by rw [hg]; exact (below_size (by repeat (first | (with_reducible first | exact HB.out | apply below_alloc | apply pw_below_drewN | apply below_drew1) | exact HB.out))) : w.heap.size ≤ gb101)); clear HB; have HB := n0_; have BK101 := n1_; have GW101 := n2_; have GE101 := n3_; clear n0_ n1_ n2_ n3_; clear hb hbox hg; have hcz24_0 : w23.cell? ⟨gb101, 0, none⟩ = some (.int .i64 a0_0) := (blk_cell BK101.out 0).trans rfl; have hcz24_1 : w23.cell? ⟨gb101, 1, none⟩ = some (.int .i64 a0_1) := (blk_cell BK101.out 1).trans rfl; have hcz24_2 : w23.cell? ⟨gb101, 2, none⟩ = some (.int .i64 a0_2) := (blk_cell BK101.out 2).trans rfl; have hcz24_3 : w23.cell? ⟨gb101, 3, none⟩ = some (.int .i64 a0_3) := (blk_cell BK101.out 3).trans rfl; have hcz24_4 : w23.cell? ⟨gb101, 4, none⟩ = some (.int .i64 a0_4) := (blk_cell BK101.out 4).trans rfl; have hfz24_0 := blk_frozen BK101.out 0; have hfz24_1 := blk_frozen BK101.out 1; have hfz24_2 := blk_frozen BK101.out 2; have hfz24_3 := blk_frozen BK101.out 3; have hfz24_4 := blk_frozen BK101.out 4) | ((with_reducible refine gate_callee (f := 61) rfl ?_); refine goesL_ (some 7) rfl rfl Tryd.func61 (by kernel_rfl) rfl #[.agg #[.int .i64 a0_0, .int .i64 a0_1, .int .i64 a0_2, .int .i64 a0_3, .int .i64 a0_4]] rfl (by (try simp only [List.map_toArray, List.map_cons, List.map_nil]); first | done | rfl | (simp only [List.length_drop, List.length_take]; rfl)) ?_; (with_reducible refine (meta_Check.calls a0_0 a0_1 a0_2 a0_3 a0_4 t102 _ A2.out).mono ?_); rintro e w25 ⟨rfl, hb⟩; refine ⟨_, rfl, ?_⟩; have n0_ := Aside0.mk (blk_below (g := gb101) (o := .cells #[.int .i64 a0_0, .int .i64 a0_1, .int .i64 a0_2, .int .i64 a0_3, .int .i64 a0_4] 33 (0, 0)) (by (with_reducible repeat (first | refine blk_drewN ?_ _ | refine blk_drew ?_ | refine blk_alloc ?_ _)); exact BK101.out) hb); have n1_ := Aside0.mk (below_step (by repeat (first | (with_reducible first | exact HB.out | apply below_alloc | apply pw_below_drewN | apply below_drew1 | refine below_set ?_ GE101.out) | exact HB.out)) hb); clear BK101; clear HB; have BK101 := n0_; have HB := n1_; clear n0_ n1_; (try clear hb); (try clear hb2); (try clear hk); (try clear hi)))
  go_ret2
  exact ⟨_, by first | rfl | (simp [errW_none, errW_some] <;> rfl) | (simp [*, errW_none, errW_some] <;> rfl), by first | exact Kd.R_nil _ _ _ _ _ | exact Kd.N_nil _ _ _ _ _ | exact Kd.V_nil _ _ _ _ _ | exact Kd.Q_nil _ _ _ _ _ | exact Kd.S_nil _ _ _ _ _, by repeat (first | (with_reducible first | exact HB.out | apply below_alloc | apply pw_below_drewN | apply below_drew1 | refine below_set ?_ GE101.out) | exact HB.out)⟩
end Go.Proofs.YtcdmgdegohcmhaaDoor.PA
namespace Go.Proofs.YtcdmgdegohcmhaaDoor.PA
open Go.RowKit Go.Proofs.YtcdmgdegohcmhaaDoorW.PrintWords Go.Proofs.YtcdmgdegohcmhaaDoorW.PrintLast Go.Proofs.YtcdmgdegohcmhaaDoorW.PrintMore
attribute [local go_sem] max2_int min2_int max_two min_two max_three min_three max_four min_four   -- for this text's walks alone
set_option linter.unusedVariables false
set_option linter.unusedSimpArgs false
def num_PutText.f (l0 : List Int) (a1 : ByteArray) : Option (List Int) := (num_Put.f l0 (a1.size : Int)).bind fun t101 => (if t101.length + a1.size < 140737488355328 then (some (t101 ++ bytesOf a1)) else (none))
set_option maxHeartbeats 8000000 in
set_option maxRecDepth 100000 in
theorem num_PutText.calls (A0 : Option Addr) (c0 : Nat) (l0 : List Int) (a1 : ByteArray) (r : List Int) (w : World) (hr0 : Kd.C (Kd.int .u8) w A0 l0.length l0) (hc0 : l0.length ≤ c0) (h : num_PutText.f l0 a1 = some r) :
  Calls Tryd.prog 35 #[.slice A0 l0.length c0, .string a1] w fun e w' => ∃ v0_ : Value, e = .returned (v0_) ∧ Kd.R (Kd.int .u8) 5 w' w.heap.size (fun _ => True) v0_ r ∧ Below w.heap.size w w' := by
 have HR0 := Aside0.mk hr0
 have HC0 := Aside0.mk hc0
 clear hr0 hc0
 have HB := Aside0.mk (Below.refl w.heap.size w)
 have H : ((num_Put.f l0 (a1.size : Int)).bind fun t101 => (if t101.length + a1.size < 140737488355328 then (some (t101 ++ bytesOf a1)) else (none))) = some r := h
 clear h
 replace H := Option.bind_eq_some_iff.mp H
 obtain ⟨t101, A30, H⟩ := H
 replace H : (if t101.length + a1.size < 140737488355328 then (some (t101 ++ bytesOf a1)) else (none)) = some r := H
 have A3 := Aside0.mk A30
 clear A30
 by_cases c4 : t101.length + a1.size < 140737488355328
 ·rw [if_pos c4] at H
  have LMc4 := Aside0.mk c4
  clear c4
  obtain ⟨y104, hy104⟩ : ∃ y_ : List Int, y_ = (t101 ++ bytesOf a1) := ⟨_, rfl⟩
  replace H : (some y104) = some r := by first | (rw [hy104]; with_reducible exact H) | (have H2_ := (Option.bind_some _ _).symm.trans H; rw [hy104]; with_reducible exact H2_) | (have H2_ := (Option.bind_some _ _).symm.trans H; with_reducible exact H2_) | with_reducible exact H | (rw [hy104]; exact H) | exact H
  have Ny104 := Aside0.mk hy104
  clear hy104
  obtain rfl := Option.some.inj H
  go_enter Tryd.func35, Tryd.ntmps35
  go_wp2_with (first | ((with_reducible refine gate_callee (f := 33) rfl ?_); refine goesL_ (some 8) rfl rfl Tryd.func33 (by kernel_rfl) rfl #[.slice A0 l0.length c0, .int .i64 (a1.size : Int)] rfl (by (try simp only [List.map_toArray, List.map_cons, List.map_nil]); first | done | rfl | (simp only [List.length_drop, List.length_take]; rfl)) ?_; (with_reducible refine (num_Put.calls _ _ l0 (a1.size : Int) t101 _ ?side1 ?side2 A3.out).mono ?_); (case side1 => repeat (first | exact HR0.out | (with_reducible refine Kd.C_alloc ?_ _) | (with_reducible refine Kd.C_drewN ?_ _) | (with_reducible refine Kd.C_drew ?_))); (case side2 => exact HC0.out); rintro e w5 ⟨v102, rfl, ho0, hb⟩; refine ⟨_, rfl, ?_⟩; have n0_ := Aside0.mk (Kd.R_lower ho0 (below_size (by repeat (first | (with_reducible first | exact HB.out | apply below_alloc | apply pw_below_drewN | apply below_drew1) | exact HB.out)))); have n1_ := Aside0.mk (below_step (by repeat (first | (with_reducible first | exact HB.out | apply below_alloc | apply pw_below_drewN | apply below_drew1) | exact HB.out)) hb); clear HB; have HO103 := n0_; have HB := n1_; clear n0_ n1_; (try clear hb); (try clear hb2); (try clear hk); (try clear hi); (try clear ho0)) | (at_builtin; refine print_append_str (w0 := w) w.heap.size rfl (.tmp 8) _ 27 9 5 rfl Tryd.underlying27 Tryd.underlying9 info5 v102 t101 a1 rfl rfl ?aO ?aB ?aS ?aL ?_; (case aB => exact (by repeat (first | (with_reducible first | exact HB.out | apply below_alloc | apply pw_below_drewN | apply below_drew1) | exact HB.out))); (case aO => exact (Kd.own_of_R (by (with_reducible repeat (first | apply Kd.R_alloc | apply Kd.R_drewN | apply Kd.R_drew)); exact HO103.out))); (case aS => exact (below_size (by repeat (first | (with_reducible first | exact HB.out | apply below_alloc | apply pw_below_drewN | apply below_drew1) | exact HB.out)))); (case aL => have := LMc4.out; omega); intro v105 w6 ho0 hb hg; have ho := Kd.R_of_own (h1 := fun _ => rfl) (ok := fun _ => True) ho0 (fun _ _ => trivial); clear ho0; have hat := True.intro; rw [← Ny104.out] at ho; change Kd.R (Kd.int .u8) 5 w6 w.heap.size (fun _ => True) v105 y104 at ho; have n0_ := Aside0.mk (hb); have n1_ := Aside0.mk (ho); clear HB; clear HO103; have HB := n0_; have HO106 := n1_; clear n0_ n1_; clear ho hb hg hat))
  go_ret
  exact ⟨_, by first | rfl | (simp [errW_none, errW_some] <;> rfl) | (simp [*, errW_none, errW_some] <;> rfl), by (with_reducible repeat (first | apply Kd.R_alloc | apply Kd.R_drewN | apply Kd.R_drew)); exact HO106.out, by repeat (first | (with_reducible first | exact HB.out | apply below_alloc | apply pw_below_drewN | apply below_drew1) | exact HB.out)⟩
 ·rw [if_neg c4] at H
  exact absurd H (by simp)
end Go.Proofs.YtcdmgdegohcmhaaDoor.PA
namespace Go.Proofs.YtcdmgdegohcmhaaDoor.PA
open Go.RowKit Go.Proofs.YtcdmgdegohcmhaaDoorW.PrintWords Go.Proofs.YtcdmgdegohcmhaaDoorW.PrintLast Go.Proofs.YtcdmgdegohcmhaaDoorW.PrintMore
attribute [local go_sem] max2_int min2_int max_two min_two max_three min_three max_four min_four
set_option linter.unusedVariables false
set_option linter.unusedSimpArgs false
def tabN : List Int := [0, 498536548, 997073096, 651767980, 1994146192, 1802195444, 1303535960, 1342533948, 3988292384, 4027552580, 3604390888, 3412177804, 2607071920, 2262029012, 2685067896, 3183342108]
def TabW (w : World) : Prop := ∀ r, r < 16 → w.cell? ⟨1, r, none⟩ = some (.int .u32 (tabN.getD r 0))
theorem TabW.step {w w' : World} (h : TabW w) (hb : Below w.heap.size w w') : TabW w' := fun r hr => by
 have h1 := h r hr
 have hlt : 1 < w.heap.size := by
  have h0 := h1
  unfold World.cell? at h0
  cases hh : w.heap[1]? with
  | none => simp [hh] at h0
  | some o => exact (Array.getElem?_eq_some_iff.1 hh).1
 rw [← h1]
 unfold World.cell?
 rw [hb.block 1 hlt]
theorem u32_rng (op : BinOp) (x y : Int) : 0 ≤ bits op .u32 x y ∧ bits op .u32 x y < 4294967296 := by
 have h := bounds_u32 (wf_bits op .u32 x y)
 omega
theorem and15 (x : Int) (h0 : 0 ≤ x) (h1 : x < 4294967296) : ∃ k : Nat, bits .and .u32 x 15 = (k : Int) ∧ k < 16 := by
 have h := bits_mask .u32 32 (by decide) (fun n h0 h1 => by rw [IntKind.wrap_u32]; omega) 4 (by decide) x h0 (by omega)
 have e : ((2 : Int) ^ 4 - 1) = 15 := rfl
 have e2 : ((2 : Int) ^ 4) = 16 := rfl
 rw [e, e2] at h
 exact ⟨(x % 16).toNat, by rw [h]; omega, by omega⟩
def crcT (x : Int) : Int := bits .xor .u32 (x / 16) (tabN.getD (bits .and .u32 x 15).toNat 0)
def crcS (x c : Int) : Int := crcT (crcT (bits .xor .u32 x c))
def crcF (l : List Int) : Int := l.foldl crcS 4294967295
def crcL (l : List Int) : Int := bits .xor .u32 IntKind.u32.max (crcF l)
theorem rd_int (l : List Int) (i : Nat) (h : i < l.length) : rd l (i : Int) = l[i] := by simp [rd, rdOf, h]
set_option maxHeartbeats 8000000 in
set_option maxRecDepth 100000 in
theorem crc_Of_one (g : Nat) (A : Option Addr) (ca : Nat) (l : List Int) (w : World) (hT : TabW w) (hg : w.cell? ⟨g, 0, none⟩ = some (.slice A l.length ca)) (hC : Kd.C (Kd.int .u8) w A l.length l) (hl : l.length < 1000000000) (hu : ∀ c ∈ l, 0 ≤ c ∧ c < 256) :
  Calls Tryd.prog 94 #[.slice (some ⟨g, 0, none⟩) 1 1] w fun e w' => e = .returned (.int .u32 (crcL l)) ∧ w' = w := by
 have HT := Aside0.mk hT
 have HC := Aside0.mk hC
 clear hT hC
 go_enter Tryd.func94, Tryd.ntmps94
 go_wp2
 go_loopw [3, 10] (fun v3 v10 wr => wr = w ∧ ((v10 = .int .i64 0 ∧ v3 = .int .u32 4294967295) ∨ (v10 = .int .i64 1 ∧ v3 = .int .u32 (crcF l)))) (fun _ v10 _ => 1 - (intOf v10).toNat)
 case atStart => exact ⟨rfl, .inl ⟨rfl, rfl⟩⟩
 case round =>
  obtain ⟨rfl, h | h⟩ := hrel
  ·obtain ⟨rfl, rfl⟩ := h
   go_wp2
   go_loopw [3, 16] (fun v3 v16 wi => wi = wr ∧ ∃ (i : Nat) (x : Int), v16 = .int .i64 i ∧ v3 = .int .u32 x ∧ 0 ≤ x ∧ x < 4294967296 ∧ i ≤ l.length ∧ Aside0 (x = (l.take i).foldl crcS 4294967295)) (fun _ v16 _ => l.length - (intOf v16).toNat)
   case atStart => exact ⟨rfl, 0, 4294967295, rfl, rfl, by omega, by omega, by omega, ⟨rfl⟩⟩
   case round =>
    obtain ⟨rfl, i, x, rfl, rfl, hx0, hx1, hi, HX⟩ := hrel
    by_cases hlt : i < l.length
    ·have e0 : ((i : Int) < (l.length : Int)) = True := eq_true (by omega)
     obtain ⟨ad, eA, hcell⟩ := Kd.at_int HC.out (i : Int) (by omega) (by omega)
     subst eA
     obtain ⟨c0, hc0⟩ : ∃ c0, c0 = rd l (i : Int) := ⟨_, rfl⟩
     rw [← hc0] at hcell
     have HC0 := Aside0.mk hc0
     clear hc0
     have hcr : 0 ≤ c0 ∧ c0 < 256 := by rw [HC0.out, rd_int l i hlt]; exact hu _ (List.getElem_mem hlt)
     rw [Int.toNat_natCast] at hcell
     obtain ⟨x1, hx1'⟩ : ∃ x1, bits .xor .u32 x c0 = x1 := ⟨_, rfl⟩
     have r1 := u32_rng .xor x c0
     rw [hx1'] at r1
     obtain ⟨k1, hk1, hk1'⟩ := and15 x1 r1.1 r1.2
     have ht1 := HT.out k1 hk1'
     obtain ⟨x2, hx2'⟩ : ∃ x2, bits .xor .u32 (x1 / 16) (tabN.getD k1 0) = x2 := ⟨_, rfl⟩
     have r2 := u32_rng .xor (x1 / 16) (tabN.getD k1 0)
     rw [hx2'] at r2
     obtain ⟨k2, hk2, hk2'⟩ := and15 x2 r2.1 r2.2
     have ht2 := HT.out k2 hk2'
     obtain ⟨x3, hx3'⟩ : ∃ x3, bits .xor .u32 (x2 / 16) (tabN.getD k2 0) = x3 := ⟨_, rfl⟩
     have r3 := u32_rng .xor (x2 / 16) (tabN.getD k2 0)
     rw [hx3'] at r3
     have d1 : ((k1 : Int) < 16) = True := eq_true (by omega)
     have d2 : ((k2 : Int) < 16) = True := eq_true (by omega)
     have HE := Aside0.mk (show x3 = (l.take (i + 1)).foldl crcS 4294967295 by
      rw [List.take_succ_eq_append_getElem hlt, List.foldl_append, ← HX.out, List.foldl_cons, List.foldl_nil, ← rd_int l i hlt, ← HC0.out]
      show x3 = crcT (crcT (bits .xor .u32 x c0))
      rw [hx1']
      have e1 : crcT x1 = x2 := by unfold crcT; rw [hk1, Int.toNat_natCast]; exact hx2'
      rw [e1]
      unfold crcT
      rw [hk2, Int.toNat_natCast]
      exact hx3'.symm)
     clear HX HC0
     generalize tabN.getD k1 0 = t1 at ht1 hx2'
     generalize tabN.getD k2 0 = t2 at ht2 hx3'
     go_wp2
     exact ⟨⟨trivial, i + 1, x3, rfl, rfl, r3.1, r3.2, by omega, HE⟩, by show l.length - ((i : Int) + 1).toNat < l.length - ((i : Int)).toNat; omega⟩
    ·have e0 : ((i : Int) < (l.length : Int)) = False := eq_false (by omega)
     obtain rfl : i = l.length := by omega
     have HF := Aside0.mk (show x = crcF l by rw [HX.out, List.take_length]; rfl)
     clear HX
     go_wp2
     exact ⟨⟨trivial, .inr ⟨rfl, by rw [HF.out]⟩⟩, by show 1 - (1 : Int).toNat < 1 - (0 : Int).toNat; decide⟩
  ·obtain ⟨rfl, rfl⟩ := h
   go_wp2
   go_ret
   exact ⟨rfl, rfl⟩
end Go.Proofs.YtcdmgdegohcmhaaDoor.PA
namespace Go.Proofs.YtcdmgdegohcmhaaDoor.PA
open Go.RowKit Go.Proofs.YtcdmgdegohcmhaaDoorW.PrintWords Go.Proofs.YtcdmgdegohcmhaaDoorW.PrintLast Go.Proofs.YtcdmgdegohcmhaaDoorW.PrintMore
attribute [local go_sem] max2_int min2_int max_two min_two max_three min_three max_four min_four
set_option linter.unusedVariables false
set_option linter.unusedSimpArgs false
def sealL (l : List Int) : List Int := [crcL l % 256, crcL l / 256 % 256, crcL l / 65536 % 256, crcL l / 16777216 % 256]
def sealA (l : List Int) : Array Value := #[.int .u8 (crcL l % 256), .int .u8 (crcL l / 256 % 256), .int .u8 (crcL l / 65536 % 256), .int .u8 (crcL l / 16777216 % 256)]
set_option maxHeartbeats 8000000 in
set_option maxRecDepth 100000 in
theorem crc_seal_one (A : Option Addr) (ca : Nat) (l : List Int) (w : World) (hT : TabW w) (hC : Kd.C (Kd.int .u8) w A l.length l) (hl : l.length < 1000000000) (hu : ∀ c ∈ l, 0 ≤ c ∧ c < 256) :
  Calls Tryd.prog 70 #[.slice A l.length ca] w fun e w' => e = .returned (.agg (sealA l)) ∧ Below w.heap.size w w' := by
 have HT := Aside0.mk hT
 have HC := Aside0.mk hC
 have HU := Aside0.mk hu
 have HB := Aside0.mk (Below.refl w.heap.size w)
 clear hT hC hu
 go_enter Tryd.func70, Tryd.ntmps70
 obtain ⟨x, hx⟩ : ∃ x, crcL l = x := ⟨_, rfl⟩
 have hof : ∀ (o1 : Obj), Calls Tryd.prog 94 #[.slice (some ⟨w.heap.size + 1, 0, none⟩) 1 1] ((w.alloc o1).alloc (.cells #[.slice A l.length ca] 27)) fun e w' => e = .returned (.int .u32 x) ∧ w' = (w.alloc o1).alloc (.cells #[.slice A l.length ca] 27) := fun o1 => by
  have hb : Below w.heap.size w ((w.alloc o1).alloc (.cells #[.slice A l.length ca] 27)) := below_alloc (below_alloc (Below.refl _ _) _) _
  have h := blk_new (w.alloc o1) (.cells #[.slice A l.length ca] 27)
  rw [World.size_alloc] at h
  have := crc_Of_one (w.heap.size + 1) A ca l _ (HT.out.step hb) ((blk_cell h 0).trans rfl) (Kd.C_below HC.out hb) hl HU.out
  rwa [hx] at this
 have HX := Aside0.mk hx
 clear hx
 have hu1 := Tryd.underlying80
 have HD := Aside0.mk (show ∀ (S : Array Value) (o2 : Obj), ((w.alloc (.cells S 80)).alloc o2).heap[w.heap.size]? = some (.cells S 80 (0, 0)) from fun S o2 => blk_below (blk_new w _) (below_alloc (Below.refl _ _) _))
 go_wp2_with (first | (go_at_call 94; (with_reducible refine (hof _).mono ?_); rintro e w2 ⟨rfl, rfl⟩))
 refine bodyPost_ret (results_cell_row rfl _ _ w.heap.size 80 #[.int .u8 (x % 256), .int .u8 (x / 256 % 256), .int .u8 (x / 65536 % 256), .int .u8 (x / 16777216 % 256)] (0, 0) _ rfl (HD.out _ _) hu1 rfl (by kernel_rfl)) rfl ?_
 refine ⟨?_, below_alloc (below_alloc HB.out _) _⟩
 rw [← HX.out]
 rfl
end Go.Proofs.YtcdmgdegohcmhaaDoor.PA
namespace Go.Proofs.YtcdmgdegohcmhaaDoor.PA
open Go.RowKit Go.Proofs.YtcdmgdegohcmhaaDoorW.PrintWords Go.Proofs.YtcdmgdegohcmhaaDoorW.PrintLast Go.Proofs.YtcdmgdegohcmhaaDoorW.PrintMore
attribute [local go_sem] max2_int min2_int max_two min_two max_three min_three max_four min_four
set_option linter.unusedVariables false
set_option linter.unusedSimpArgs false
theorem C_block4 {W : World} {g t : Nat} {b0 b1 b2 b3 : Int} (h : W.heap[g]? = some (.cells #[.int .u8 b0, .int .u8 b1, .int .u8 b2, .int .u8 b3] t (0, 0))) : Kd.C (Kd.int .u8) W (some ⟨g, 0, none⟩) 4 [b0, b1, b2, b3] := by
 refine ⟨rfl, by decide, fun _ => ⟨_, rfl, fun j p hj => ⟨[.int .u8 p], rfl, rfl, fun i u hu => ?_⟩⟩⟩
 obtain ⟨rfl, rfl⟩ : i = 0 ∧ u = .int .u8 p := by
  cases i with
  | zero =>
   simp at hu
   exact ⟨rfl, hu.symm⟩
  | succ i => simp at hu
 have hadd : (⟨g, 0, none⟩ : Addr).add (j * (Kd.int .u8).sz + 0) = ⟨g, j, none⟩ := by
  show (⟨g, 0, none⟩ : Addr).add (j * 1 + 0) = _
  rw [Nat.mul_one, Nat.add_zero]
  unfold Addr.add
  split <;> simp_all
 rw [hadd, blk_cell h j]
 match j, hj with
 | 0, hj => simp at hj; rw [← hj]; rfl
 | 1, hj => simp at hj; rw [← hj]; rfl
 | 2, hj => simp at hj; rw [← hj]; rfl
 | 3, hj => simp at hj; rw [← hj]; rfl
 | j + 4, hj => simp at hj
theorem made_row1 {w0 : World} (W : World) (o : Obj) (cc : Nat) (hb : w0.heap.size ≤ W.heap.size) (hm : cc ≤ maxLen) : Kd.R (Kd.int .u8) 5 ((W.alloc o).alloc (.cells (madeCells #[.int .u8 0] cc) 5)) w0.heap.size (fun _ => True) (.slice (some ⟨W.heap.size + 1, 0, none⟩) 0 cc) [] := by
 have h := made_row (w0 := w0) (W.alloc o) cc (by rw [World.size_alloc]; omega) hm
 rwa [World.size_alloc] at h
set_option maxHeartbeats 8000000 in
set_option maxRecDepth 100000 in
theorem crc_Seal_one (A : Option Addr) (ca : Nat) (l0 : List Int) (w : World) (hT : TabW w) (hC : Kd.C (Kd.int .u8) w A l0.length l0) (hl : l0.length < 1000000000) (hu : ∀ c ∈ l0, 0 ≤ c ∧ c < 256) :
  Calls Tryd.prog 37 #[.slice A l0.length ca] w fun e w' => ∃ v0_ : Value, e = .returned v0_ ∧ Kd.R (Kd.int .u8) 5 w' w.heap.size (fun _ => True) v0_ (l0 ++ sealL l0) ∧ Below w.heap.size w w' := by
 have HT := Aside0.mk hT
 have HR := Aside0.mk hC
 have HU := Aside0.mk hu
 have HB := Aside0.mk (Below.refl w.heap.size w)
 clear hT hC hu
 obtain ⟨b0, b1, b2, b3, hs, hsA⟩ : ∃ b0 b1 b2 b3, sealL l0 = [b0, b1, b2, b3] ∧ sealA l0 = #[.int .u8 b0, .int .u8 b1, .int .u8 b2, .int .u8 b3] := ⟨_, _, _, _, rfl, rfl⟩
 have hse : ∀ w1, Below w.heap.size w w1 → Calls Tryd.prog 70 #[.slice A l0.length ca] w1 fun e w' => e = .returned (.agg #[.int .u8 b0, .int .u8 b1, .int .u8 b2, .int .u8 b3]) ∧ Below w1.heap.size w1 w' := fun w1 hb => by
  have := crc_seal_one A ca l0 w1 (HT.out.step hb) (Kd.C_below HR.out hb) hl HU.out
  rwa [hsA] at this
 have HS := Aside0.mk hs
 clear hs hsA
 obtain ⟨cc, hcc⟩ : ∃ cc : Nat, cc = l0.length + 4 := ⟨_, rfl⟩
 have hw3 : (l0.length : Int) + 4 = (cc : Int) := by omega
 have hcm : cc ≤ maxLen := by simp [maxLen]; omega
 have Hcc := Aside0.mk hcc
 clear hcc
 have hmk : ∀ W : World, (Instr.makeSlice 27 (.int .i64 0) (.int .i64 (cc : Int))).run Tryd.prog W = .ok (.slice (some ⟨W.heap.size, 0, none⟩) 0 cc) (W.alloc (.cells (madeCells #[.int .u8 0] cc) 5)) := fun W => by
  obtain ⟨i, hi, hz, hb1, hs1⟩ : ∃ i, Tryd.prog.info? 5 = some i ∧ i.zero = some (.int .u8 0) ∧ i.bytes = 1 ∧ i.size = 1 := ⟨_, rfl, rfl, rfl, rfl⟩
  have := run_make (P := Tryd.prog) W 27 5 i (.int .u8 0) Tryd.underlying27 hi hz .i64 .i64 0 (cc : Int) (by omega) (by omega) (by have := Hcc.out; rw [hb1]; omega) (by have := Hcc.out; omega)
  rw [hs1, Nat.mul_one, Int.toNat_natCast] at this
  exact this
 go_enter Tryd.func37, Tryd.ntmps37
 go_wp2_with (first | (go_at_call 70; (with_reducible refine (hse _ HB.out).mono ?_); rintro e w2 ⟨rfl, hb⟩; have n0_ := Aside0.mk (below_step HB.out hb); clear HB hb; have HB := n0_; clear n0_) | ((with_reducible refine gate_builtin (b := .append) (xs := #[.tmp 11, .tmp 12]) rfl ?_); at_builtin; refine Kd.R_append_rows (Kd.int .u8) (w0 := w) w.heap.size rfl (.tmp 11) (.tmp 12) 27 5 (.int .u8 0) 1 rfl Tryd.underlying27 info5 rfl (by decide) (by omega) (.slice (some ⟨w2.heap.size + 1, 0, none⟩) 0 cc) (([] : List Int)) (l0) _ _ _ (fun _ => True) (fun _ => False) rfl rfl ?aO ?aR (fun _ _ h => h) (fun _ h => h.elim) ?aF ?aB ?aS ?aL ?_; (case aR => exact (Kd.C_below HR.out (below_alloc (below_alloc HB.out _) _))); (case aB => exact (below_alloc (below_alloc HB.out _) _)); (case aF => exact (fun _ _ => trivial)); (case aO => exact (made_row1 w2 _ cc (below_size HB.out) hcm)); (case aS => exact below_size (below_alloc (below_alloc HB.out _) _)); (case aL => (simp; omega)); intro u5 w5 ho hb hg hat; have HK := Aside0.mk (show w5.heap[w2.heap.size]? = some (.cells #[.int .u8 b0, .int .u8 b1, .int .u8 b2, .int .u8 b3] 80 (0, 0)) from (hg.block w2.heap.size (by simp; omega) (by simp [Value.ownBlock])).trans (blk_below (blk_new w2 _) (below_alloc (Below.refl _ _) _))); have n0_ := Aside0.mk hb; have n1_ := Aside0.mk ho; clear HB; have HB := n0_; have HO := n1_; clear n0_ n1_ ho hb hg hat) | ((with_reducible refine gate_builtin (b := .append) (xs := #[.tmp 14, .tmp 15]) rfl ?_); at_builtin; refine Kd.R_append_rows (Kd.int .u8) (w0 := w) w.heap.size rfl (.tmp 14) (.tmp 15) 27 5 (.int .u8 0) 1 rfl Tryd.underlying27 info5 rfl (by decide) (by omega) (u5) (([] ++ l0)) ([b0, b1, b2, b3]) _ _ _ (fun _ => True) (fun _ => False) rfl rfl ?aO ?aR (fun _ _ h => h) (fun _ h => h.elim) ?aF ?aB ?aS ?aL ?_; (case aR => exact (C_block4 HK.out)); (case aB => exact HB.out); (case aF => exact (fun _ _ => trivial)); (case aO => exact HO.out); (case aS => exact below_size HB.out); (case aL => (simp; omega)); intro u6 w6 ho hb hg hat; have n0_ := Aside0.mk hb; have n1_ := Aside0.mk ho; clear HB HO; have HB := n0_; have HO := n1_; clear n0_ n1_ ho hb hg hat))
 go_ret
 exact ⟨_, rfl, by have := HO.out; rw [HS.out]; exact this, HB.out⟩
def crc_Seal.f (l0 : List Int) : Option (List Int) := if l0.length < 1000000000 ∧ ∀ c ∈ l0, 0 ≤ c ∧ c < 256 then some (l0 ++ sealL l0) else none
theorem crc_Seal.calls (A0 : Option Addr) (c0 : Nat) (l0 : List Int) (r : List Int) (w : World) (hr0 : Kd.C (Kd.int .u8) w A0 l0.length l0) (hc0 : l0.length ≤ c0) (h : crc_Seal.f l0 = some r) (hT : TabW w) :
  Calls Tryd.prog 37 #[.slice A0 l0.length c0] w fun e w' => ∃ v0_ : Value, e = .returned v0_ ∧ Kd.R (Kd.int .u8) 5 w' w.heap.size (fun _ => True) v0_ r ∧ Below w.heap.size w w' := by
 unfold crc_Seal.f at h
 split at h
 ·rename_i hl
  obtain rfl := Option.some.inj h
  exact crc_Seal_one A0 c0 l0 w hT hr0 hl.1 hl.2
 ·exact absurd h (by simp)
end Go.Proofs.YtcdmgdegohcmhaaDoor.PA
