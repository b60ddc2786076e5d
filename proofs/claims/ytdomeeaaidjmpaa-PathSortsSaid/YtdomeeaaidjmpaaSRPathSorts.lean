/- PathSorts: for any texts the law returns true and leaves its arguments as they were. -/
import Derived.Lib.QuietBelow
import Derived.Shelf.SlSortCmp.InsertionK
import Derived.Test.YtdomeeaaidjmpaaSRG1
import Derived.Deep.CutRange
import Derived.Deep.DeepCutAuto
import Derived.BigQuiet
import Derived.Deep.QuietTactic
import Derived.Great.BuildSlice
import Derived.Laws.MakeOwn
import Derived.Laws.NewBlocks
import Derived.Outline
import Derived.WalkSpells
import Derived.ProofKit
import Derived.Test.YtdomeeaaidjmpaaRows
import Derived.WalkKit
import Derived.Below
import Derived.Carry
import Derived.ChangeOld
import Derived.OpenShut
import Derived.ShutString
import Derived.SizedLaws
import Derived.Sort.Statements
namespace Go.Proofs.Ytdomeeaaidjmpaa.PA
open Go.RowKit Go.Proofs.YtdomeeaaidjmpaaW.PrintWords Go.Proofs.YtdomeeaaidjmpaaW.PrintLast Go.Proofs.YtdomeeaaidjmpaaW.PrintMore
attribute [local go_sem] max2_int min2_int max_two min_two max_three min_three max_four min_four
set_option linter.unusedVariables false
set_option linter.unusedSimpArgs false
open Go Go.Shelf Go.Lib Go.Sort
structure LS (P : Program) : Prop where
 mixed : P.follows .mixedOrders = true
 f66 : P.funcs[66]? = some Try.f66
 f65 : P.funcs[65]? = some Try.f65
 f61 : P.funcs[61]? = some Try.f61
 f60 : P.funcs[60]? = some Try.f60
 f55 : P.funcs[55]? = some Try.f55
 t9 : P.underlying 9 = some (TypeDesc.string)
 a9 : ∀ w, (isAgg 9).run P w = .ok false w
 z9 : ∀ w, (Go.sizeOf 9).run P w = .ok 1 w
 v9 : ∀ w, (zeroValue 9).run P w = .ok (Value.string ⟨#[]⟩) w
 t3 : P.underlying 3 = some (TypeDesc.int IntKind.i64)
 a3 : ∀ w, (isAgg 3).run P w = .ok false w
 z3 : ∀ w, (Go.sizeOf 3).run P w = .ok 1 w
 v3 : ∀ w, (zeroValue 3).run P w = .ok (Value.int IntKind.i64 0) w
 t4 : P.underlying 4 = some (TypeDesc.bool)
 a4 : ∀ w, (isAgg 4).run P w = .ok false w
 z4 : ∀ w, (Go.sizeOf 4).run P w = .ok 1 w
 v4 : ∀ w, (zeroValue 4).run P w = .ok (Value.bool false) w
 t64 : P.underlying 64 = some (TypeDesc.int IntKind.u64)
 a64 : ∀ w, (isAgg 64).run P w = .ok false w
 z64 : ∀ w, (Go.sizeOf 64).run P w = .ok 1 w
 v64 : ∀ w, (zeroValue 64).run P w = .ok (Value.int IntKind.u64 0) w
 t22 : P.underlying 22 = some (TypeDesc.slice 9)
 a22 : ∀ w, (isAgg 22).run P w = .ok false w
 z22 : ∀ w, (Go.sizeOf 22).run P w = .ok 1 w
 v22 : ∀ w, (zeroValue 22).run P w = .ok (Value.slice none 0 0) w
theorem LS.here : LS Try.prog where
 mixed := by kernel_rfl
 f66 := Try.func66
 f65 := Try.func65
 f61 := Try.func61
 f60 := Try.func60
 f55 := Try.func55
 t9 := Try.underlying9
 a9 := Try.isAgg9
 z9 := Try.sizeOf9
 v9 := Try.zeroValue9
 t3 := Try.underlying3
 a3 := Try.isAgg3
 z3 := Try.sizeOf3
 v3 := Try.zeroValue3
 t4 := Try.underlying4
 a4 := Try.isAgg4
 z4 := Try.sizeOf4
 v4 := Try.zeroValue4
 t64 := Try.underlying64
 a64 := Try.isAgg64
 z64 := Try.sizeOf64
 v64 := Try.zeroValue64
 t22 := Try.underlying22
 a22 := Try.isAgg22
 z22 := Try.sizeOf22
 v22 := Try.zeroValue22
theorem LS.e66 {P : Program} (L : LS P) : ∀ args w, (callFunc 66 args).run P w = .ok (.enter 66 args) w := enters_of L.f66 (by kernel_rfl) rfl
theorem LS.e65 {P : Program} (L : LS P) : ∀ args w, (callFunc 65 args).run P w = .ok (.enter 65 args) w := enters_of L.f65 (by kernel_rfl) rfl
theorem LS.e61 {P : Program} (L : LS P) : ∀ args w, (callFunc 61 args).run P w = .ok (.enter 61 args) w := enters_of L.f61 (by kernel_rfl) rfl
theorem LS.e60 {P : Program} (L : LS P) : ∀ args w, (callFunc 60 args).run P w = .ok (.enter 60 args) w := enters_of L.f60 (by kernel_rfl) rfl
section
variable {α : Type} [Inhabited α] (enc : α → List Value) (k : Nat)
def sWB (w : World) (blk off q : Nat) (dk : Array α) (os : Array Obj) : World := grow (redrawn (putRowK enc k w blk off dk) q) os
theorem sWB_regrown (w : World) (blk off q q' : Nat) (dk : Array α) (os os' : Array Obj) : grow (redrawn (sWB enc k w blk off q dk os) q') os' = sWB enc k w blk off q' dk (os ++ os') := by
 unfold sWB
 show grow (grow (redrawn (putRowK enc k w blk off dk) q') os) os' = _
 rw [grow_grow]
theorem sWB_start (w : World) (blk off : Nat) (d : Array α) (h : HoldsK enc k w blk off d) : sWB enc k w blk off w.drawn d #[] = w := by
 unfold sWB
 rw [grow_empty, putRowK_self enc k w blk off d h]
 rfl
theorem sWB_drew (w : World) (blk off q : Nat) (dk : Array α) (os : Array Obj) : (sWB enc k w blk off q dk os).drew = sWB enc k w blk off (q + 1) dk os := rfl
theorem sWB_holds (w : World) (blk off q : Nat) (d dk : Array α) (os : Array Obj) (hH : HoldsK enc k w blk off d) (hblk : blk < w.heap.size) (hs : dk.size = d.size) : HoldsK enc k (sWB enc k w blk off q dk os) blk off dk := by
 unfold sWB
 exact holdsK_grow enc k _ os blk off dk (by show blk < (putRowK enc k w blk off dk).heap.size; rw [size_putRowK]; exact hblk) (show HoldsK enc k (putRowK enc k w blk off dk) blk off dk from holdsK_putRowK enc k _ blk off d dk hH hs)
theorem sWB_size (w : World) (blk off q : Nat) (dk : Array α) (os : Array Obj) : w.heap.size ≤ (sWB enc k w blk off q dk os).heap.size := by
 unfold sWB
 rw [size_grow]
 show w.heap.size ≤ (putRowK enc k w blk off dk).heap.size + _
 rw [size_putRowK]
 exact Nat.le_add_right _ _
theorem setCells_redrawn (b : Nat) : ∀ (vs : List Value) (o q : Nat) (w : World), (redrawn w q).setCells b o vs = redrawn (w.setCells b o vs) q
 | [], _, _, _ => rfl
 | v :: r, o, q, w => by
  rw [World.setCells, World.setCells, ← setCells_redrawn b r (o + 1) q]
  rfl
theorem sWB_swp (hk : ∀ x, (enc x).length = k) (w : World) (blk off q : Nat) (dk : Array α) (os : Array Obj) (hblk : blk < w.heap.size) (i j : Nat) (hi : i < dk.size) (hj : j < dk.size) :
  (((sWB enc k w blk off q dk os).setCells blk (off + i * k) (enc dk[j]!)).setCells blk (off + j * k) (enc dk[i]!)) = sWB enc k w blk off q (swp dk i j) os := by
 have hs : ∀ X : World, X.heap.size = w.heap.size → blk < (redrawn X q).heap.size := fun X h => by show blk < X.heap.size; rw [h]; exact hblk
 unfold sWB
 rw [setCells_grow os blk _ _ _ (hs _ (size_putRowK enc k w blk off dk)), setCells_redrawn, setCells_grow os blk _ _ _ (hs _ (by rw [size_setCells]; exact size_putRowK enc k w blk off dk)), setCells_redrawn, putRowK_swp enc k hk w blk off dk i j hi hj]
theorem sWB_on (w : World) (blk off q q' : Nat) (dk dk' : Array α) (os os' : Array Obj) (hblk : blk < w.heap.size) (h : dk'.size = dk.size) : sWB enc k (sWB enc k w blk off q dk os) blk off q' dk' os' = sWB enc k w blk off q' dk' (os ++ os') := by
 have := grow_step_growK enc k w os os' 0 0 blk off dk dk' hblk h
 unfold sWB
 exact congrArg (fun X => redrawn X q') this
end
abbrev E13 := {x : ByteArray // x.size ≤ 1048576}
instance : Inhabited E13 := ⟨⟨ByteArray.empty, Nat.zero_le _⟩⟩
def strE (x : E13) : List Value := [.string x.1]
theorem strE_len (x : E13) : (strE x).length = 1 := rfl
theorem cell_str {W : World} {blk off i : Nat} {d : Array E13} (h : HoldsK strE 1 W blk off d) (hi : i < d.size) : W.cell? ⟨blk, off + i, none⟩ = some (.string d[i]!.1) := by
 have := HoldsK.cells h strE_len hi 0 (.string d[i]!.1) rfl
 rwa [Addr.add_lit, Nat.mul_one, Nat.add_zero] at this
theorem froz_str {W : World} {blk off i : Nat} {d : Array E13} (h : HoldsK strE 1 W blk off d) (hi : i < d.size) : W.frozen? ⟨blk, off + i, none⟩ = false := by
 have := (h.cell (i := i) (c := 0) hi (by decide)).2
 rwa [Nat.mul_one, Nat.add_zero] at this
theorem next_str {W : World} {blk off i j : Nat} {d : Array E13} (h : HoldsK strE 1 W blk off d) (hi : i < d.size) (hj : j < d.size) (v : Value) : ∃ u, (W.setCell ⟨blk, off + i, none⟩ v).cell? ⟨blk, off + j, none⟩ = some u := by
 by_cases e : i = j
 ·subst e; exact ⟨v, World.cell?_setCell_same _ _ _ (cell_str h hi)⟩
 ·exact ⟨_, (World.cell?_setCell_other _ _ _ _ (by intro e'; simp only [Addr.mk.injEq] at e'; omega)).trans (cell_str h hj)⟩
theorem sWB_swp1 (w : World) (blk off q : Nat) (dk : Array E13) (os : Array Obj) (hblk : blk < w.heap.size) (i j : Nat) (hi : i < dk.size) (hj : j < dk.size) : (((sWB strE 1 w blk off q dk os).setCell ⟨blk, off + i, none⟩ (.string dk[j]!.1)).setCell ⟨blk, off + j, none⟩ (.string dk[i]!.1)).drew = sWB strE 1 w blk off (q + 1) (swp dk i j) os := by
 have := sWB_swp strE 1 strE_len w blk off q dk os hblk i j hi hj
 rw [Nat.mul_one, Nat.mul_one] at this
 rw [← sWB_drew, ← this]
 rfl
def CmpB (P : Program) (g : Nat) (cb : Array Value) (cf : E13 → E13 → Int) (blk off size : Nat) (w : World) : Prop :=
 ∀ (q : Nat) (os : Array Obj) (dk : Array E13), dk.size = size → ∀ x y : E13,
  Calls P g (#[.string x.1, .string y.1] ++ cb) (sWB strE 1 w blk off q dk os) fun e w' => e = .returned (.int .i64 (cf x y)) ∧ Below (sWB strE 1 w blk off q dk os).heap.size (sWB strE 1 w blk off q dk os) w'
theorem CmpB.on {P : Program} {g : Nat} {cb : Array Value} {cf : E13 → E13 → Int} {blk off size : Nat} {w : World} (h : CmpB P g cb cf blk off size w) (hblk : blk < w.heap.size) (q : Nat) (dk : Array E13) (os : Array Obj) (hs : dk.size = size) : CmpB P g cb cf blk off size (sWB strE 1 w blk off q dk os) := fun q' os' dk' hs' x y => by
 rw [sWB_on strE 1 w blk off q q' dk dk' os os' hblk (hs'.trans hs.symm)]
 exact h q' _ dk' hs' x y
def swapsA {α : Type} [Inhabited α] (d : Array α) (a b : Nat) : Nat → Array α
 | 0 => d
 | n + 1 => swp (swapsA d a b n) (a + n) (b + n)
theorem size_swapsA {α : Type} [Inhabited α] (d : Array α) (a b : Nat) : ∀ n, (swapsA d a b n).size = d.size
 | 0 => rfl
 | n + 1 => by rw [swapsA, size_swp, size_swapsA d a b n]
set_option maxHeartbeats 4000000 in
set_option maxRecDepth 1000000 in
theorem swapRange_call {P : Program} (L : LS P) 
  (fv : Value) (blk off cap a b n : Nat) (d : Array E13) (w : World) (hH : HoldsK strE 1 w blk off d) (hblk : blk < w.heap.size) (ha : a + n ≤ d.size) (hb : b + n ≤ d.size) (hsz : d.size < 1000000000000) :
  Calls P 66 #[.slice (some ⟨blk, off, none⟩) d.size cap, .int .i64 a, .int .i64 b, .int .i64 n, fv] w fun e w' =>
   e = .returned (.tuple #[]) ∧ ∃ q os, w' = sWB strE 1 w blk off q (swapsA d a b n) os := by
 have mixed := L.mixed
 have t9 := L.t9; have a9 := L.a9; have z9 := L.z9; have v9 := L.v9; have t3 := L.t3; have a3 := L.a3; have z3 := L.z3; have v3 := L.v3; have t4 := L.t4; have a4 := L.a4; have z4 := L.z4; have v4 := L.v4; have t64 := L.t64; have a64 := L.a64; have z64 := L.z64; have v64 := L.v64; have t22 := L.t22; have a22 := L.a22; have z22 := L.z22; have v22 := L.v22
 have F := L.f66
 have HST : Hid (w = sWB strE 1 w blk off w.drawn d #[]) := (sWB_start strE 1 w blk off d hH).symm
 have HH : Hid (HoldsK strE 1 w blk off d) := hH
 clear hH
 go_enter F, Try.ntmps66
 go_wp2
 go_loopg [10] n (fun g1 vi wr => ∃ (i q : Nat) (os : Array Obj), vi = .int .i64 i ∧ i ≤ n ∧ n - i ≤ g1 ∧ wr = sWB strE 1 w blk off q (swapsA d a b i) os)
 case atStart => exact ⟨0, _, #[], by go_num, by omega, by omega, HST.out⟩
 case round =>
  obtain ⟨i, q, os, rfl, hi, hg1, rfl⟩ := hrel
  obtain ⟨dk, hdk⟩ : ∃ dk, swapsA d a b i = dk := ⟨_, rfl⟩
  have hsk : dk.size = d.size := by rw [← hdk, size_swapsA]
  by_cases hlt : i < n
  ·have hltz : (i : Int) < (n : Int) := by omega
   obtain ⟨xa, hxa⟩ : ∃ x, dk[a + i]! = x := ⟨_, rfl⟩
   obtain ⟨xb, hxb⟩ : ∃ x, dk[b + i]! = x := ⟨_, rfl⟩
   have ja0 : (0 : Int) ≤ (a : Int) + (i : Int) := by omega
   have jb0 : (0 : Int) ≤ (b : Int) + (i : Int) := by omega
   have ja : (a : Int) + (i : Int) < (d.size : Int) := by omega
   have jb : (b : Int) + (i : Int) < (d.size : Int) := by omega
   have ea : ((a : Int) + (i : Int)).toNat = a + i := by omega
   have eb : ((b : Int) + (i : Int)).toNat = b + i := by omega
   have hHd : HoldsK strE 1 (sWB strE 1 w blk off q dk os) blk off dk := sWB_holds strE 1 w blk off q d dk os HH.out hblk hsk
   rw [hdk]
   have HDK : Hid (swapsA d a b (i + 1) = swp dk (a + i) (b + i)) := by show _ = _; rw [swapsA, hdk]
   clear hdk
   have HSW : Hid ((((sWB strE 1 w blk off q dk os).setCell ⟨blk, off + (a + i), none⟩ (.string xb.1)).setCell ⟨blk, off + (b + i), none⟩ (.string xa.1)).drew = sWB strE 1 w blk off (q + 1) (swp dk (a + i) (b + i)) os) := by
    show _ = _
    rw [← hxb, ← hxa]
    exact sWB_swp1 w blk off q dk os hblk (a + i) (b + i) (by omega) (by omega)
   generalize sWB strE 1 w blk off q dk os = wq at hHd HSW ⊢
   have la : wq.cell? ⟨blk, off + (a + i), none⟩ = some (.string xa.1) := by rw [← hxa]; exact cell_str hHd (by omega)
   have lb : wq.cell? ⟨blk, off + (b + i), none⟩ = some (.string xb.1) := by rw [← hxb]; exact cell_str hHd (by omega)
   have fa : wq.frozen? ⟨blk, off + (a + i), none⟩ = false := froz_str hHd (by omega)
   have fb : wq.frozen? ⟨blk, off + (b + i), none⟩ = false := froz_str hHd (by omega)
   obtain ⟨u2, l2⟩ := next_str hHd (show a + i < dk.size by omega) (show b + i < dk.size by omega) (.string xb.1)
   clear hHd hxa hxb
   obtain ⟨ai, hai⟩ : ∃ z, a + i = z := ⟨_, rfl⟩
   obtain ⟨bi, hbi⟩ : ∃ z, b + i = z := ⟨_, rfl⟩
   rw [hai] at la fa l2 ea HSW
   rw [hbi] at lb fb l2 eb HSW
   rw [hai, hbi] at HDK
   clear hai hbi
   go_wp2_with fail
   go_big_region_o
   all_goals go_wp2
   go_roundg (n - (i + 1))
   case measure => omega
   case rel => exact ⟨i + 1, q + 1, os, by go_num, by omega, Nat.le_refl _, by rw [HDK.out]; exact HSW.out⟩
  ·have hltz : ¬ (i : Int) < (n : Int) := by omega
   obtain rfl : i = n := by omega
   go_wp2
   go_end0
   exact ⟨rfl, q, os, rfl⟩
end Go.Proofs.Ytdomeeaaidjmpaa.PA
namespace Go.Proofs.Ytdomeeaaidjmpaa.PA
open Go.RowKit Go.Proofs.YtdomeeaaidjmpaaW.PrintWords Go.Proofs.YtdomeeaaidjmpaaW.PrintLast Go.Proofs.YtdomeeaaidjmpaaW.PrintMore
attribute [local go_sem] max2_int min2_int max_two min_two max_three min_three max_four min_four
set_option linter.unusedVariables false
set_option linter.unusedSimpArgs false
open Go Go.Shelf Go.Lib Go.Sort
theorem swp_list {α : Type} [Inhabited α] (d : Array α) (P R Q : List α) (x y : α) (h : d.toList = P ++ x :: (R ++ y :: Q)) : (swp d P.length (P.length + 1 + R.length)).toList = P ++ y :: (R ++ x :: Q) := by
 obtain ⟨l⟩ := d
 subst h
 have ex : ((P ++ x :: (R ++ y :: Q)).toArray)[P.length]! = x := by simp
 have ey : ((P ++ x :: (R ++ y :: Q)).toArray)[P.length + 1 + R.length]! = y := by
  have h2 : P ++ x :: (R ++ y :: Q) = (P ++ x :: R) ++ y :: Q := by simp
  rw [h2]
  have h3 : P.length + 1 + R.length = (P ++ x :: R).length := by simp; omega
  rw [h3]
  simp
 show ((((P ++ x :: (R ++ y :: Q)).toArray).setIfInBounds P.length _).setIfInBounds (P.length + 1 + R.length) _).toList = _
 rw [ex, ey, List.setIfInBounds_toArray, List.setIfInBounds_toArray]
 show ((P ++ x :: (R ++ y :: Q)).set P.length y).set (P.length + 1 + R.length) x = _
 rw [List.set_append_right _ _ (Nat.le_refl _), Nat.sub_self, List.set_cons_zero, List.set_append_right _ _ (by omega), show P.length + 1 + R.length - P.length = R.length + 1 by omega, List.set_cons_succ, List.set_append_right _ _ (Nat.le_refl _), Nat.sub_self, List.set_cons_zero]
theorem swapsA_list {α : Type} [Inhabited α] (d : Array α) (P U M V Q : List α) (hl : U.length = V.length) (h : d.toList = P ++ U ++ M ++ V ++ Q) : ∀ i, i ≤ U.length → (swapsA d P.length (P.length + U.length + M.length) i).toList = P ++ V.take i ++ U.drop i ++ M ++ U.take i ++ V.drop i ++ Q := by
 intro i
 induction i with
 | zero =>
  intro _
  show d.toList = _
  rw [h]
  simp
 | succ i ih =>
  intro hi
  have hu : i < U.length := by omega
  have hv : i < V.length := by omega
  have h0 := ih (by omega)
  rw [List.drop_eq_getElem_cons hu, List.drop_eq_getElem_cons hv] at h0
  have h1 : (swapsA d P.length (P.length + U.length + M.length) i).toList = (P ++ V.take i) ++ U[i] :: ((U.drop (i + 1) ++ M ++ U.take i) ++ V[i] :: (V.drop (i + 1) ++ Q)) := by
   rw [h0]
   simp only [List.append_assoc, List.cons_append]
  have h2 := swp_list _ _ _ _ _ _ h1
  have e1 : (P ++ V.take i).length = P.length + i := by rw [List.length_append, List.length_take]; omega
  have e2 : P.length + i + 1 + (U.drop (i + 1) ++ M ++ U.take i).length = P.length + U.length + M.length + i := by
   rw [List.length_append, List.length_append, List.length_drop, List.length_take]
   omega
  rw [e1, e2] at h2
  rw [swapsA, h2, List.take_succ_eq_append_getElem hu, List.take_succ_eq_append_getElem hv]
  simp only [List.append_assoc, List.cons_append, List.nil_append]
theorem swapsA_full {α : Type} [Inhabited α] (d : Array α) (P U M V Q : List α) (hl : U.length = V.length) (h : d.toList = P ++ U ++ M ++ V ++ Q) : (swapsA d P.length (P.length + U.length + M.length) U.length).toList = P ++ V ++ M ++ U ++ Q := by
 rw [swapsA_list d P U M V Q hl h U.length (Nat.le_refl _), List.take_length, List.drop_length, hl, List.take_length, List.drop_length]
 simp
set_option maxHeartbeats 4000000 in
set_option maxRecDepth 1000000 in
theorem rotate_call {P : Program} (L : LS P) 
  (fv : Value) (blk off cap : Nat) (A X Y B : List E13) (d : Array E13) (w : World) (hH : HoldsK strE 1 w blk off d) (hblk : blk < w.heap.size) (hd : d.toList = A ++ X ++ Y ++ B) (hX : X ≠ []) (hY : Y ≠ []) (a m b : Nat) (ha : a = A.length) (hm : m = A.length + X.length) (hb : b = A.length + X.length + Y.length) (hsz : d.size < 1000000000000) :
  Calls P 65 #[.slice (some ⟨blk, off, none⟩) d.size cap, .int .i64 a, .int .i64 m, .int .i64 b, fv] w fun e w' =>
   e = .returned (.tuple #[]) ∧ ∃ q os dk, dk.toList = A ++ Y ++ X ++ B ∧ dk.size = d.size ∧ w' = sWB strE 1 w blk off q dk os := by
 have mixed := L.mixed
 have t3 := L.t3; have a3 := L.a3; have z3 := L.z3; have v3 := L.v3; have t4 := L.t4; have a4 := L.a4; have z4 := L.z4; have v4 := L.v4; have t64 := L.t64; have a64 := L.a64; have z64 := L.z64; have v64 := L.v64; have t22 := L.t22; have a22 := L.a22; have z22 := L.z22; have v22 := L.v22; have t9 := L.t9; have a9 := L.a9; have z9 := L.z9; have v9 := L.v9
 have F := L.f65
 have esw := L.e66
 have hsl : d.size = A.length + X.length + Y.length + B.length := by
  rw [← Array.length_toList, hd]
  simp
  omega
 have HD := Aside0.mk hd
 have HST : Hid (w = sWB strE 1 w blk off w.drawn d #[]) := (sWB_start strE 1 w blk off d hH).symm
 have HH : Hid (HoldsK strE 1 w blk off d) := hH
 have HXl : 0 < X.length := List.length_pos_iff.2 hX
 have HYl : 0 < Y.length := List.length_pos_iff.2 hY
 have hsr : ∀ (W : World) (dk : Array E13) (a' b' n' : Nat), HoldsK strE 1 W blk off dk → blk < W.heap.size → dk.size = d.size → a' + n' ≤ d.size → b' + n' ≤ d.size → Calls P 66 #[.slice (some ⟨blk, off, none⟩) d.size cap, .int .i64 a', .int .i64 b', .int .i64 n', fv] W fun e w' => e = .returned (.tuple #[]) ∧ ∃ q os, w' = sWB strE 1 W blk off q (swapsA dk a' b' n') os := fun W dk a' b' n' x1 x2 x3 x4 x5 => by
  have := swapRange_call L fv blk off cap a' b' n' dk W x1 x2 (by omega) (by omega) (by omega)
  rwa [x3] at this
 have HSR := Aside0.mk hsr
 have HM := Aside0.mk (And.intro ha (And.intro hm hb))
 have hma : a ≤ m := by omega
 have hmb : m ≤ b := by omega
 have hbd : b ≤ d.size := by omega
 have HXa : a + X.length = m := by omega
 have HYa : m + Y.length = b := by omega
 have HXY := Aside0.mk (And.intro HXa HYa)
 clear hsr hH hd hX hY ha hm hb HXa HYa hsl
 go_enter F, Try.ntmps65
 go_wp2
 go_loopg [10, 11] (X.length + Y.length) (fun g vi vj wr => ∃ (i j q : Nat) (os : Array Obj) (dk : Array E13) (Pp U V Q : List E13), vi = .int .i64 i ∧ vj = .int .i64 j ∧ 0 < i ∧ 0 < j ∧ i + j ≤ g ∧ Pp.length + i = m ∧ m + j ≤ d.size ∧ dk.size = d.size ∧ wr = sWB strE 1 w blk off q dk os ∧ Hid (dk.toList = Pp ++ U ++ V ++ Q ∧ U.length = i ∧ V.length = j ∧ Pp ++ V ++ U ++ Q = A ++ Y ++ X ++ B))
 case atStart =>
  have h1 := HXY.out.1
  have h2 := HXY.out.2
  have h3 := HM.out.1
  exact ⟨X.length, Y.length, _, #[], d, A, X, Y, B, by congr 1; omega, by congr 1; omega, HXl, HYl, Nat.le_refl _, by omega, by omega, rfl, HST.out, ⟨HD.out, rfl, rfl, rfl⟩⟩
 case round =>
  obtain ⟨i, j, q, os, dk, Pp, U, V, Q, rfl, rfl, hi0, hj0, hg, hPi, hmj, hsk, rfl, HI⟩ := hrel
  have HHk : Hid (HoldsK strE 1 (sWB strE 1 w blk off q dk os) blk off dk) := sWB_holds strE 1 w blk off q d dk os HH.out hblk hsk
  have HBk : Hid (blk < (sWB strE 1 w blk off q dk os).heap.size) := Nat.lt_of_lt_of_le hblk (sWB_size strE 1 w blk off q dk os)
  have HON : Hid (∀ q' dk' os', dk'.size = dk.size → sWB strE 1 (sWB strE 1 w blk off q dk os) blk off q' dk' os' = sWB strE 1 w blk off q' dk' (os ++ os')) := fun q' dk' os' h => sWB_on strE 1 w blk off q q' dk dk' os os' hblk h
  generalize hwq : sWB strE 1 w blk off q dk os = wq at HHk HBk HON ⊢
  clear hwq
  have hmi : (m : Int) - (i : Int) = ((Pp.length : Nat) : Int) := by omega
  by_cases hne : i = j
  ·have heq : ((i : Int) != (j : Int)) = false := by rw [hne]; simp
   have hc : Calls P 66 #[.slice (some ⟨blk, off, none⟩) d.size cap, .int .i64 ((Pp.length : Nat) : Int), .int .i64 m, .int .i64 i, fv] wq fun e w' => e = .returned (.tuple #[]) ∧ ∃ q os, w' = sWB strE 1 wq blk off q (swapsA dk Pp.length m i) os := by
    exact HSR.out wq dk Pp.length m i HHk.out HBk.out hsk (by omega) (by omega)
   have HFIN : Hid ((swapsA dk Pp.length m i).toList = A ++ Y ++ X ++ B) := by
    show _ = _
    obtain ⟨u1, u2, u3, u4⟩ := HI.out
    have := swapsA_full dk Pp U [] V Q (by omega) (by rw [u1]; simp)
    rw [u2, List.length_nil, Nat.add_zero, hPi] at this
    rw [this, ← u4]
    simp
   have HNE := Aside0.mk hne
   clear hne
   go_wp2_with (go_at_call 66; refine hc.mono ?_; rintro e w1 ⟨rfl, q1, os1, rfl⟩)
   go_end0
   exact ⟨rfl, q1, os ++ os1, _, HFIN.out, by rw [size_swapsA]; exact hsk, HON.out _ _ _ (size_swapsA _ _ _ _)⟩
  ·have heq : ((i : Int) != (j : Int)) = true := by rw [bne_iff_ne]; omega
   by_cases hgt : j < i
   ·have hgz : decide ((i : Int) > (j : Int)) = true := decide_eq_true (by omega)
    have hgz2 : (j : Int) < (i : Int) := by omega
    have hc : Calls P 66 #[.slice (some ⟨blk, off, none⟩) d.size cap, .int .i64 ((Pp.length : Nat) : Int), .int .i64 m, .int .i64 j, fv] wq fun e w' => e = .returned (.tuple #[]) ∧ ∃ q os, w' = sWB strE 1 wq blk off q (swapsA dk Pp.length m j) os := by
     exact HSR.out wq dk Pp.length m j HHk.out HBk.out hsk (by omega) (by omega)
    have HFIN : Hid (∃ Pp' U' V' Q' : List E13, Pp'.length + (i - j) = m ∧ (swapsA dk Pp.length m j).toList = Pp' ++ U' ++ V' ++ Q' ∧ U'.length = i - j ∧ V'.length = j ∧ Pp' ++ V' ++ U' ++ Q' = A ++ Y ++ X ++ B) := by
     obtain ⟨u1, u2, u3, u4⟩ := HI.out
     have e1 : (U.take j).length = j := by rw [List.length_take]; omega
     have e2 : (U.drop j).length = i - j := by rw [List.length_drop, u2]
     have hU : U = U.take j ++ U.drop j := (List.take_append_drop j U).symm
     have := swapsA_full dk Pp (U.take j) (U.drop j) V Q (by omega) (by rw [u1]; (conv => lhs; rw [hU]); simp only [List.append_assoc])
     rw [e1, e2, show Pp.length + j + (i - j) = m by omega] at this
     refine ⟨Pp ++ V, U.drop j, U.take j, Q, by rw [List.length_append]; omega, this, e2, e1, ?_⟩
     rw [← u4]
     (conv => rhs; rw [hU])
     simp only [List.append_assoc]
    go_wp2_with (go_at_call 66; refine hc.mono ?_; rintro e w1 ⟨rfl, q1, os1, rfl⟩)
    go_roundg (i - j + j)
    case measure => omega
    case rel =>
     obtain ⟨Pp', U', V', Q', v1, v2, v3, v4, v5⟩ := HFIN.out
     exact ⟨i - j, j, q1, os ++ os1, _, Pp', U', V', Q', by first | go_num | (congr 1; omega), rfl, by omega, hj0, Nat.le_refl _, v1, by omega, by rw [size_swapsA]; exact hsk, HON.out _ _ _ (size_swapsA _ _ _ _), ⟨v2, v3, v4, v5⟩⟩
   ·have hgz : decide ((i : Int) > (j : Int)) = false := decide_eq_false (by omega)
    have hgz2 : ¬ (j : Int) < (i : Int) := by omega
    obtain ⟨z, hz⟩ : ∃ z, z = m + j - i := ⟨_, rfl⟩
    have hmji : (m : Int) + (j : Int) - (i : Int) = (z : Int) := by omega
    have hc : Calls P 66 #[.slice (some ⟨blk, off, none⟩) d.size cap, .int .i64 ((Pp.length : Nat) : Int), .int .i64 z, .int .i64 i, fv] wq fun e w' => e = .returned (.tuple #[]) ∧ ∃ q os, w' = sWB strE 1 wq blk off q (swapsA dk Pp.length z i) os := by
     exact HSR.out wq dk Pp.length z i HHk.out HBk.out hsk (by omega) (by omega)
    have HZ := Aside0.mk hz
    have HFIN : Hid (∃ U' V' Q' : List E13, (swapsA dk Pp.length z i).toList = Pp ++ U' ++ V' ++ Q' ∧ U'.length = i ∧ V'.length = j - i ∧ Pp ++ V' ++ U' ++ Q' = A ++ Y ++ X ++ B) := by
     obtain ⟨u1, u2, u3, u4⟩ := HI.out
     have e1 : (V.take (j - i)).length = j - i := by rw [List.length_take]; omega
     have e2 : (V.drop (j - i)).length = i := by rw [List.length_drop, u3]; omega
     have hV : V = V.take (j - i) ++ V.drop (j - i) := (List.take_append_drop _ V).symm
     have := swapsA_full dk Pp U (V.take (j - i)) (V.drop (j - i)) Q (by omega) (by rw [u1]; (conv => lhs; rw [hV]); simp only [List.append_assoc])
     rw [u2, e1, show Pp.length + i + (j - i) = z by omega] at this
     refine ⟨V.drop (j - i), V.take (j - i), U ++ Q, by rw [this]; simp only [List.append_assoc], e2, e1, ?_⟩
     rw [← u4]
     (conv => rhs; rw [hV])
     simp only [List.append_assoc]
    clear hz
    go_wp2_with (go_at_call 66; refine hc.mono ?_; rintro e w1 ⟨rfl, q1, os1, rfl⟩)
    go_roundg (i + (j - i))
    case measure => omega
    case rel =>
     obtain ⟨U', V', Q', v2, v3, v4, v5⟩ := HFIN.out
     exact ⟨i, j - i, q1, os ++ os1, _, Pp, U', V', Q', rfl, by first | go_num | (congr 1; omega), hi0, by omega, Nat.le_refl _, hPi, by omega, by rw [size_swapsA]; exact hsk, HON.out _ _ _ (size_swapsA _ _ _ _), ⟨v2, v3, v4, v5⟩⟩
end Go.Proofs.Ytdomeeaaidjmpaa.PA
namespace Go.Proofs.Ytdomeeaaidjmpaa.PA
open Go.RowKit Go.Proofs.YtdomeeaaidjmpaaW.PrintWords Go.Proofs.YtdomeeaaidjmpaaW.PrintLast Go.Proofs.YtdomeeaaidjmpaaW.PrintMore
attribute [local go_sem] max2_int min2_int max_two min_two max_three min_three max_four min_four
set_option linter.unusedVariables false
set_option linter.unusedSimpArgs false
open Go Go.Shelf Go.Lib Go.Sort
theorem swp_comm {α : Type} [Inhabited α] (d : Array α) (i j : Nat) (h : i ≠ j) : swp d i j = swp d j i := by
 unfold swp
 exact Array.setIfInBounds_comm _ _ h
set_option maxHeartbeats 4000000 in
set_option maxRecDepth 1000000 in
theorem sym2_call {P : Program} (L : LS P) 
  (cf : E13 → E13 → Int) (hS : SWO (ltOf cf)) (g : Nat) (cb : Array Value) (eg : ∀ args w, (callFunc g args).run P w = .ok (.enter g args) w) (blk off cap : Nat) (A X : List E13) (y : E13) (B : List E13) (d : Array E13) (w : World) (hcmp : CmpB P g cb cf blk off d.size w) (hH : HoldsK strE 1 w blk off d) (hblk : blk < w.heap.size) (hd : d.toList = A ++ (X ++ y :: B)) (hX : SortedL (ltOf cf) X) (hX1 : X.length ≠ 1) (a m b : Nat) (ha : a = A.length) (hm : m = A.length + X.length) (hb : b = A.length + X.length + 1) (hsz : d.size < 1000000000000) :
  Calls P 61 #[.slice (some ⟨blk, off, none⟩) d.size cap, .int .i64 a, .int .i64 m, .int .i64 b, .func (.func g) #[] cb] w fun e w' =>
   e = .returned (.tuple #[]) ∧ ∃ q os dk, (∃ Z, dk.toList = A ++ (Z ++ B) ∧ StP (ltOf cf) (X ++ [y]) Z ∧ SortedL (ltOf cf) Z) ∧ dk.size = d.size ∧ w' = sWB strE 1 w blk off q dk os := by
 have mixed := L.mixed
 have t3 := L.t3; have a3 := L.a3; have z3 := L.z3; have v3 := L.v3; have t4 := L.t4; have a4 := L.a4; have z4 := L.z4; have v4 := L.v4; have t64 := L.t64; have a64 := L.a64; have z64 := L.z64; have v64 := L.v64; have t22 := L.t22; have a22 := L.a22; have z22 := L.z22; have v22 := L.v22; have t9 := L.t9; have a9 := L.a9; have z9 := L.z9; have v9 := L.v9
 have F := L.f61
 have hsl : d.size = A.length + (X.length + (1 + B.length)) := by
  rw [← Array.length_toList, hd]
  simp
  omega
 have hdy : d[m]! = y := by
  rw [hm, ← Array.getElem!_toList, hd, ← List.append_assoc, ← List.length_append]
  simp
 have hdx : ∀ t (h : t < X.length), d[a + t]! = X[t] := fun t h => by
  rw [ha, ← Array.getElem!_toList, hd]
  simp [h, List.getElem?_append]
  try rw [if_neg (by omega)]
  try rfl
 have HD := Aside0.mk hd
 have HDX := Aside0.mk hdx
 have HDY := Aside0.mk hdy
 have HXs := Aside0.mk hX
 have HSW := Aside0.mk hS
 have HST : Hid (w = sWB strE 1 w blk off w.drawn d #[]) := (sWB_start strE 1 w blk off d hH).symm
 have HH : Hid (HoldsK strE 1 w blk off d) := hH
 have HC := Aside0.mk hcmp
 have hmx : m = a + X.length := by omega
 have hma : ((m : Int) - (a : Int) == 1) = false := beq_eq_false_iff_ne.mpr (by omega)
 have hmz : (b : Int) - (m : Int) = 1 := by omega
 have hmd : m < d.size := by omega
 have HM := Aside0.mk (And.intro ha hmx)
 have ham : a ≤ m := by omega
 have hmb : m ≤ b := by omega
 have hbd : b ≤ d.size := by omega
 clear hsl hdx hdy hd hX hX1 hS hH hcmp ha hm hb hmx
 go_enter F, Try.ntmps61
 go_wp2
 (try rw [hma])
 go_loopg [14, 15] X.length (fun gg vi vj wr => ∃ (i j q : Nat) (os : Array Obj), vi = .int .i64 i ∧ vj = .int .i64 j ∧ a ≤ i ∧ i ≤ j ∧ j ≤ m ∧ j - i ≤ gg ∧ wr = sWB strE 1 w blk off q d os ∧ Hid ((∀ x ∈ X.take (i - a), ltOf cf y x = false) ∧ (∀ x ∈ X.drop (j - a), ltOf cf y x = true)))
 case atStart =>
  have h1 := HM.out.2
  exact ⟨a, m, _, #[], rfl, rfl, by omega, by omega, by omega, by omega, HST.out, ⟨by rw [Nat.sub_self, List.take_zero]; simp, by rw [show m - a = X.length by omega, List.drop_length]; simp⟩⟩
 case round =>
  obtain ⟨i, j, q, os, rfl, rfl, hi, hij, hjb, hg, rfl, HI⟩ := hrel
  obtain ⟨wq, hwq⟩ : ∃ wq, sWB strE 1 w blk off q d os = wq := ⟨_, rfl⟩
  have HWQ := Aside0.mk hwq
  rw [hwq]
  by_cases hlt : i < j
  ·have hltz : (i : Int) < (j : Int) := by omega
   obtain ⟨h, hh⟩ : ∃ h : Nat, ((i : Int) + (j : Int)) / 2 = (h : Int) := ⟨(i + j) / 2, by omega⟩
   have hih : i ≤ h := by omega
   have hhj : h < j := by omega
   have hhz : (h : Int) < (d.size : Int) := by omega
   have haz : (m : Int) < (d.size : Int) := by omega
   obtain ⟨xh, hxh⟩ : ∃ z, d[h]! = z := ⟨_, rfl⟩
   have hxh2 : ∃ hl : h - a < X.length, X[h - a] = xh := by
    have hq := HM.out.2
    refine ⟨by omega, ?_⟩
    rw [← HDX.out (h - a) (by omega), show a + (h - a) = h by omega, hxh]
   have HX2 := Aside0.mk hxh2
   have hHc : ∀ q' os', HoldsK strE 1 (grow (redrawn wq q') os') blk off d := fun q' os' => by
    rw [← HWQ.out, sWB_regrown]
    exact sWB_holds strE 1 w blk off q' d d _ HH.out hblk rfl
   have lh : ∀ q' os', World.cell? (grow (redrawn wq q') os') ⟨blk, off + h, none⟩ = some (.string (xh).1) := fun q' os' => by
    rw [← hxh]; exact cell_str (hHc q' os') (by omega)
   have la : ∀ q' os', World.cell? (grow (redrawn wq q') os') ⟨blk, off + m, none⟩ = some (.string (y).1) := fun q' os' => by
    rw [← HDY.out]; exact cell_str (hHc q' os') (by omega)
   have hcg : ∀ q' os', Calls P g (#[.string (y).1, .string (xh).1] ++ cb) (grow (redrawn wq q') os') fun e w' => e = .returned (.int .i64 (cf y xh)) ∧ Below (grow (redrawn wq q') os').heap.size (grow (redrawn wq q') os') w' := fun q' os' => by
    rw [← HWQ.out, sWB_regrown]
    exact HC.out q' _ d rfl y xh
   clear hHc hxh hxh2 hwq
   by_cases hlv : ¬ cf y xh < 0
   ·have HLV := Aside0.mk (show ltOf cf y xh = false from decide_eq_false hlv)
    have hdl : decide (cf y xh < 0) = false := decide_eq_false hlv
    go_wp2_with fail
    refine wp_region_quiet_below (by assumption) (by kernel_rfl) ?_
    repeat (quiet_step ((go_at_fn g; refine Calls.regrown_of (hcg _ _))))
    refine wpQuiet_nil ?_
    intro _ hw'
    obtain ⟨⟨dq, osq⟩, hw''⟩ := hw'
    subst hw''
    go_wp2_with fail
    go_roundg (j - (h + 1))
    case measure => omega
    case rel =>
     refine ⟨h + 1, j, dq, os ++ osq, by go_num, rfl, by omega, by omega, by omega, Nat.le_refl _, by rw [← HWQ.out, sWB_regrown], ⟨?_, HI.out.2⟩⟩
     obtain ⟨hl, he⟩ := HX2.out
     rw [show h + 1 - a = h - a + 1 by omega]
     exact up2 HSW.out HXs.out y (h - a) hl (by rw [he]; exact HLV.out)
   ·have hlv2 : cf y xh < 0 := Classical.not_not.1 hlv
    have HLV := Aside0.mk (show ltOf cf y xh = true from decide_eq_true (Classical.not_not.1 hlv))
    have hdl : decide (cf y xh < 0) = true := decide_eq_true hlv2
    go_wp2_with fail
    refine wp_region_quiet_below (by assumption) (by kernel_rfl) ?_
    repeat (quiet_step ((go_at_fn g; refine Calls.regrown_of (hcg _ _))))
    refine wpQuiet_nil ?_
    intro _ hw'
    obtain ⟨⟨dq, osq⟩, hw''⟩ := hw'
    subst hw''
    go_wp2_with fail
    go_roundg (h - i)
    case measure => omega
    case rel =>
     refine ⟨i, h, dq, os ++ osq, rfl, rfl, hi, hih, by omega, Nat.le_refl _, by rw [← HWQ.out, sWB_regrown], ⟨HI.out.1, ?_⟩⟩
     obtain ⟨hl, he⟩ := HX2.out
     exact down2 HSW.out HXs.out y (h - a) hl (by rw [he]; exact HLV.out)
  ·have hltz : ¬ (i : Int) < (j : Int) := by omega
   obtain rfl : i = j := by omega
   have HI2 := HI
   have hst0 : wq = sWB strE 1 w blk off q d os := HWQ.out.symm
   have HST2 := Aside0.mk hst0
   clear hst0 hwq HWQ HI
   go_wp2_with fail
   go_loopg [17] (m - i) (fun gg vk wr => ∃ (t q : Nat) (os : Array Obj) (dk : Array E13), vk = .int .i64 ((a + t : Nat) : Int) ∧ i ≤ a + t ∧ a + t ≤ m ∧ a + t - i ≤ gg ∧ dk.size = d.size ∧ wr = sWB strE 1 w blk off q dk os ∧ Hid (dk.toList = A ++ (X.take t ++ y :: (X.drop t ++ B))))
   case atStart =>
    have h1 := HM.out.2
    exact ⟨X.length, q, os, d, by rw [← h1], by omega, by omega, by omega, rfl, HST2.out, (by show _ = _; rw [List.take_length, List.drop_length]; exact HD.out)⟩
   case round =>
    obtain ⟨t, q2, os2, dk, rfl, ht, htm, hg2, hsk, rfl, HT⟩ := hrel
    obtain ⟨kj, hkj⟩ : ∃ kj, kj = a + t := ⟨_, rfl⟩
    have HKK := Aside0.mk hkj
    rw [← hkj] at ht htm hg2 ⊢
    clear hkj
    by_cases hlt2 : i < kj
    ·obtain ⟨kk, rfl⟩ : ∃ kk, kj = kk + 1 := ⟨kj - 1, by omega⟩
     have hltz2 : (i : Int) < (kk : Int) + 1 := by omega
     obtain ⟨x0, hx0⟩ : ∃ z, dk[kk]! = z := ⟨_, rfl⟩
     obtain ⟨x1, hx1⟩ : ∃ z, dk[kk + 1]! = z := ⟨_, rfl⟩
     have j0 : (kk : Int) < (d.size : Int) := by omega
     have j1 : (kk : Int) + 1 < (d.size : Int) := by omega
     have j2 : (0 : Int) ≤ (kk : Int) + 1 := by omega
     have e1 : ((kk : Int) + 1).toNat = kk + 1 := by omega
     have hwp : IntKind.i64.wrap (kk : Int) = (kk : Int) := by rw [IntKind.wrap_i64]; omega
     have hHd : HoldsK strE 1 (sWB strE 1 w blk off q2 dk os2) blk off dk := sWB_holds strE 1 w blk off q2 d dk os2 HH.out hblk hsk
     have HNX : Hid ((swp dk (kk + 1) kk).toList = A ++ (X.take (t - 1) ++ y :: (X.drop (t - 1) ++ B))) := by
      show _ = _
      have hk2 := HKK.out
      have q1 := HM.out.1
      have q3 := HM.out.2
      obtain ⟨s, rfl⟩ : ∃ s, t = s + 1 := ⟨t - 1, by omega⟩
      have hty : s < X.length := by omega
      have hT := HT.out
      rw [List.take_succ_eq_append_getElem hty] at hT
      have hT2 : dk.toList = (A ++ X.take s) ++ X[s] :: ([] ++ y :: (X.drop (s + 1) ++ B)) := by rw [hT]; simp only [List.append_assoc, List.cons_append, List.nil_append]
      have := swp_list dk _ _ _ _ _ hT2
      rw [List.length_append, List.length_take, Nat.min_eq_left (by omega), ← q1, show a + s = kk by omega, List.length_nil, Nat.add_zero] at this
      rw [swp_comm _ _ _ (by omega), this, Nat.add_sub_cancel, List.drop_eq_getElem_cons hty]
      simp only [List.append_assoc, List.cons_append, List.nil_append]
     have HSWP : Hid ((((sWB strE 1 w blk off q2 dk os2).setCell ⟨blk, off + (kk + 1), none⟩ (.string (x0).1)).setCell ⟨blk, off + kk, none⟩ (.string (x1).1)).drew = sWB strE 1 w blk off (q2 + 1) (swp dk (kk + 1) kk) os2) := by
      show _ = _
      rw [← hx0, ← hx1]
      exact sWB_swp1 w blk off q2 dk os2 hblk (kk + 1) kk (by omega) (by omega)
     generalize sWB strE 1 w blk off q2 dk os2 = wq at hHd HSWP ⊢
     have l0 : wq.cell? ⟨blk, off + (kk + 1), none⟩ = some (.string x1.1) := by rw [← hx1]; exact cell_str hHd (by omega)
     have l1 : wq.cell? ⟨blk, off + kk, none⟩ = some (.string x0.1) := by rw [← hx0]; exact cell_str hHd (by omega)
     have f0 : wq.frozen? ⟨blk, off + (kk + 1), none⟩ = false := froz_str hHd (by omega)
     have f1 : wq.frozen? ⟨blk, off + kk, none⟩ = false := froz_str hHd (by omega)
     have l2 : (wq.setCell ⟨blk, off + (kk + 1), none⟩ (.string x0.1)).cell? ⟨blk, off + kk, none⟩ = some _ := (World.cell?_setCell_other _ _ _ _ (by intro e'; simp only [Addr.mk.injEq] at e'; omega)).trans l1
     clear hHd hx1 hx0
     go_wp2_with fail
     go_big_region_o
     all_goals go_wp2
     go_roundg (kk - i)
     case measure => omega
     case rel =>
      have hk2 := HKK.out
      have q3 := HM.out.2
      exact ⟨t - 1, q2 + 1, os2, _, by rw [show a + (t - 1) = kk by omega], by omega, by omega, by omega, by rw [size_swp]; exact hsk, HSWP.out, HNX⟩
    ·have hltz2 : ¬ (i : Int) < (kj : Int) := by omega
     go_wp2
     refine bodyPost_ret (results_none rfl _ _ _) rfl ?_
     have hk2 := HKK.out
     obtain ⟨z1, z2⟩ := HI2.out
     have et : i - a = t := by omega
     rw [et] at z1 z2
     have hf := fin2 HSW.out HXs.out y t z1 z2
     exact ⟨rfl, q2, os2, dk, ⟨_, by rw [HT.out]; simp only [List.append_assoc, List.cons_append], hf.1, hf.2⟩, hsk, rfl⟩
end Go.Proofs.Ytdomeeaaidjmpaa.PA
namespace Go.Proofs.Ytdomeeaaidjmpaa.PA
open Go.RowKit Go.Proofs.YtdomeeaaidjmpaaW.PrintWords Go.Proofs.YtdomeeaaidjmpaaW.PrintLast Go.Proofs.YtdomeeaaidjmpaaW.PrintMore
attribute [local go_sem] max2_int min2_int max_two min_two max_three min_three max_four min_four
set_option linter.unusedVariables false
set_option linter.unusedSimpArgs false
open Go Go.Shelf Go.Lib Go.Sort
theorem get_mid {α : Type} [Inhabited α] (l r : List α) (x : α) (n : Nat) (h : n = l.length) : (l ++ x :: r)[n]! = x := by
 subst h
 simp
theorem split_at {α : Type} (Pp : List α) (t u : Nat) (hu : u = t + 1) (h : t < Pp.length) : ∃ z, Pp[t]? = some z ∧ Pp.take u = Pp.take t ++ [z] ∧ Pp.drop t = z :: Pp.drop u := by
 subst hu
 exact ⟨Pp[t], List.getElem?_eq_getElem h, List.take_succ_eq_append_getElem h, List.drop_eq_getElem_cons h⟩
set_option maxHeartbeats 8000000 in
set_option maxRecDepth 1000000 in
theorem ins_call {P : Program} (L : LS P) 
  (cf : E13 → E13 → Int) (hS : SWO (ltOf cf)) (g : Nat) (cb : Array Value) (eg : ∀ args w, (callFunc g args).run P w = .ok (.enter g args) w) (blk off cap : Nat) (A X B : List E13) (d : Array E13) (w : World) (hcmp : CmpB P g cb cf blk off d.size w) (hH : HoldsK strE 1 w blk off d) (hblk : blk < w.heap.size) (hd : d.toList = A ++ (X ++ B)) (a b : Nat) (ha : a = A.length) (hb : b = A.length + X.length) (hsz : d.size < 1000000000000) :
  Calls P 60 #[.slice (some ⟨blk, off, none⟩) d.size cap, .int .i64 a, .int .i64 b, .func (.func g) #[] cb] w fun e w' =>
   e = .returned (.tuple #[]) ∧ ∃ q os dk, (∃ Z, dk.toList = A ++ (Z ++ B) ∧ StP (ltOf cf) X Z ∧ SortedL (ltOf cf) Z) ∧ dk.size = d.size ∧ w' = sWB strE 1 w blk off q dk os := by
 have mixed := L.mixed
 have t3 := L.t3; have a3 := L.a3; have z3 := L.z3; have v3 := L.v3; have t4 := L.t4; have a4 := L.a4; have z4 := L.z4; have v4 := L.v4; have t64 := L.t64; have a64 := L.a64; have z64 := L.z64; have v64 := L.v64; have t22 := L.t22; have a22 := L.a22; have z22 := L.z22; have v22 := L.v22; have t9 := L.t9; have a9 := L.a9; have z9 := L.z9; have v9 := L.v9
 have F := L.f60
 have hsl : d.size = A.length + (X.length + B.length) := by
  rw [← Array.length_toList, hd]
  simp
 have HD := Aside0.mk hd
 have HSW := Aside0.mk hS
 have HST : Hid (w = sWB strE 1 w blk off w.drawn d #[]) := (sWB_start strE 1 w blk off d hH).symm
 have HH : Hid (HoldsK strE 1 w blk off d) := hH
 have HC := Aside0.mk hcmp
 have hbx : b = a + X.length := by omega
 have HM := Aside0.mk (And.intro ha hbx)
 have hab : a ≤ b := by omega
 have hbd : b ≤ d.size := by omega
 clear hsl hd hS hH hcmp ha hb hbx
 go_enter F, Try.ntmps60
 go_wp2
 go_loopg [8] (b - a) (fun g1 vi wr => ∃ (i q : Nat) (os : Array Obj) (dk : Array E13), vi = .int .i64 i ∧ a < i ∧ i ≤ b + 1 ∧ b + 1 - i ≤ g1 + 1 ∧ dk.size = d.size ∧ wr = sWB strE 1 w blk off q dk os ∧ Hid (∃ Pp, dk.toList = A ++ (Pp ++ (X.drop (i - a) ++ B)) ∧ StP (ltOf cf) (X.take (i - a)) Pp ∧ SortedL (ltOf cf) Pp))
 case atStart => exact ⟨a + 1, _, #[], d, by go_num, by omega, by omega, by omega, rfl, HST.out, ⟨X.take (a + 1 - a), by rw [HD.out, ← List.append_assoc (X.take _), List.take_append_drop], StP.refl _, by
  rw [show a + 1 - a = 1 by omega]
  cases X with
  | nil => exact List.Pairwise.nil
  | cons x l => exact List.pairwise_singleton _ _⟩⟩
 case round =>
  obtain ⟨i, q, os, dk, rfl, hai, hib, hg1, hsk, rfl, HP⟩ := hrel
  by_cases hlt : i < b
  ·have hltz : (i : Int) < (b : Int) := by omega
   obtain ⟨Pp, hP1, hP2, hP3⟩ := HP.out
   have hxl : i - a < X.length := by have := HM.out.2; omega
   obtain ⟨x, hx⟩ : ∃ x, X[i - a] = x := ⟨_, rfl⟩
   have hPl : Pp.length = i - a := by rw [hP2.len, List.length_take]; omega
   have hP4 : dk.toList = A ++ (Pp ++ x :: (X.drop (i + 1 - a) ++ B)) := by
    rw [hP1, List.drop_eq_getElem_cons hxl, hx, show i - a + 1 = i + 1 - a by omega]
    rfl
   have hP5 : StP (ltOf cf) (X.take (i + 1 - a)) (Pp ++ [x]) := by
    rw [show i + 1 - a = i - a + 1 by omega, List.take_succ_eq_append_getElem hxl, hx]
    exact hP2.app (StP.refl _)
   have HPP := Aside0.mk (And.intro hPl (And.intro hP3 hP5))
   have HP4 := Aside0.mk hP4
   clear hxl hx hPl hP1 hP2 hP3 hP4 hP5 HP
   go_wp2
   go_loopg [9] i (fun g2 vj wr2 => ∃ (j q : Nat) (os : Array Obj) (dj : Array E13), vj = .int .i64 j ∧ a ≤ j ∧ j ≤ i ∧ j ≤ g2 ∧ dj.size = d.size ∧ wr2 = sWB strE 1 w blk off q dj os ∧ Hid (dj.toList = A ++ (Pp.take (j - a) ++ x :: (Pp.drop (j - a) ++ (X.drop (i + 1 - a) ++ B))) ∧ ∀ p ∈ Pp.drop (j - a), ltOf cf x p = true))
   case atStart => exact ⟨i, q, os, dk, rfl, by omega, Nat.le_refl _, Nat.le_refl _, hsk, rfl, ⟨by rw [← HPP.out.1, List.take_length, List.drop_length]; exact HP4.out, by rw [← HPP.out.1, List.drop_length]; simp⟩⟩
   case round =>
    obtain ⟨j, m, oj, dj, rfl, haj, hji, hg2, hsj, rfl, HI⟩ := hrel
    have out : ((j ≤ a) ∨ ∃ z, Pp[j - a - 1]? = some z ∧ ltOf cf x z = false) → Hid (∃ Pq, dj.toList = A ++ (Pq ++ (X.drop (i + 1 - a) ++ B)) ∧ StP (ltOf cf) (X.take (i + 1 - a)) Pq ∧ SortedL (ltOf cf) Pq) := fun hs => by
     obtain ⟨q1, q2⟩ := HI.out
     have h1 : ∀ p ∈ Pp.take (j - a), ltOf cf x p = false := by
      rcases hs with h | ⟨z, hz, h2⟩
      ·rw [show j - a = 0 by omega, List.take_zero]
       simp
      ·by_cases e0 : j - a = 0
       ·rw [e0, List.take_zero]
        simp
       ·obtain ⟨h, he⟩ := List.getElem?_eq_some_iff.1 hz
        have := up2 HSW.out HPP.out.2.1 x (j - a - 1) h (by rw [he]; exact h2)
        rwa [show j - a - 1 + 1 = j - a by omega] at this
     have hf := fin2 HSW.out HPP.out.2.1 x (j - a) h1 q2
     exact ⟨Pp.take (j - a) ++ x :: Pp.drop (j - a), by rw [q1]; simp only [List.append_assoc, List.cons_append], HPP.out.2.2.trans hf.1, hf.2⟩
    have OUT : Aside _ := out
    clear out
    by_cases hja : a < j
    ·have hjaz : (a : Int) < (j : Int) := by omega
     obtain ⟨kk, rfl⟩ : ∃ kk, j = kk + 1 := ⟨j - 1, by omega⟩
     obtain ⟨z, hz1, hz2, hz3⟩ := split_at Pp (kk - a) (kk + 1 - a) (by omega) (by have h0 := HPP.out.1; omega)
     have HZ := Aside0.mk (And.intro hz1 (And.intro hz2 hz3))
     have hJ : dj.toList = (A ++ Pp.take (kk - a)) ++ z :: ([] ++ x :: (Pp.drop (kk + 1 - a) ++ (X.drop (i + 1 - a) ++ B))) := by
      rw [HI.out.1, hz2]
      simp only [List.append_assoc, List.cons_append, List.nil_append]
     have HJ := Aside0.mk hJ
     clear hz1 hz2 hz3 hJ
     have HAL : Aside0 ((A ++ Pp.take (kk - a)).length = kk) := ⟨by
      have h0 := HPP.out.1
      have h1 := HM.out.1
      rw [List.length_append, List.length_take]
      omega⟩
     obtain ⟨x0, hz0⟩ : ∃ z, dj[kk]! = z := ⟨_, rfl⟩
     obtain ⟨x1, hz1⟩ : ∃ z, dj[kk + 1]! = z := ⟨_, rfl⟩
     have HX01 : Aside0 (x1 = x ∧ x0 = z) := by
      have hL := HJ.out
      have hA := HAL.out
      refine ⟨⟨?_, ?_⟩⟩
      ·rw [← hz1, ← Array.getElem!_toList, hL]
       have e : kk + 1 = ((A ++ Pp.take (kk - a)) ++ [z]).length := by rw [List.length_append, hA]; rfl
       rw [show (A ++ Pp.take (kk - a)) ++ z :: ([] ++ x :: (Pp.drop (kk + 1 - a) ++ (X.drop (i + 1 - a) ++ B))) = ((A ++ Pp.take (kk - a)) ++ [z]) ++ x :: (Pp.drop (kk + 1 - a) ++ (X.drop (i + 1 - a) ++ B)) by simp only [List.append_assoc, List.cons_append, List.nil_append]]
       exact get_mid _ _ _ _ e
      ·rw [← hz0, ← Array.getElem!_toList, hL]
       exact get_mid _ _ _ _ hA.symm
     have j0 : (kk : Int) < (d.size : Int) := by omega
     have j1 : (kk : Int) + 1 < (d.size : Int) := by omega
     have j2 : (0 : Int) ≤ (kk : Int) + 1 := by omega
     have e1 : ((kk : Int) + 1).toNat = kk + 1 := by omega
     have hwp : IntKind.i64.wrap (kk : Int) = (kk : Int) := by rw [IntKind.wrap_i64]; omega
     have hjaz' : (a : Int) < (kk : Int) + 1 := by omega
     have hkd : kk < dj.size := by omega
     have hkd1 : kk + 1 < dj.size := by omega
     have hcls : ∀ q' os', grow (redrawn (sWB strE 1 w blk off m dj oj) q') os' = sWB strE 1 w blk off q' dj (oj ++ os') := fun q' os' => sWB_regrown strE 1 w blk off m q' dj oj os'
     have hHc : ∀ q' os', HoldsK strE 1 (grow (redrawn (sWB strE 1 w blk off m dj oj) q') os') blk off dj := fun q' os' => by rw [hcls]; exact sWB_holds strE 1 w blk off q' d dj _ HH.out hblk hsj
     have l0q : ∀ q' os', World.cell? (grow (redrawn (sWB strE 1 w blk off m dj oj) q') os') ⟨blk, off + kk, none⟩ = some (.string (x0).1) := fun q' os' => by
      rw [← hz0]; exact cell_str (hHc q' os') hkd
     have l1q : ∀ q' os', World.cell? (grow (redrawn (sWB strE 1 w blk off m dj oj) q') os') ⟨blk, off + (kk + 1), none⟩ = some (.string (x1).1) := fun q' os' => by
      rw [← hz1]; exact cell_str (hHc q' os') hkd1
     have hcg : ∀ q' os', Calls P g (#[.string (x1).1, .string (x0).1] ++ cb) (grow (redrawn (sWB strE 1 w blk off m dj oj) q') os') fun e w' => e = .returned (.int .i64 (cf x1 x0)) ∧ Below (grow (redrawn (sWB strE 1 w blk off m dj oj) q') os').heap.size (grow (redrawn (sWB strE 1 w blk off m dj oj) q') os') w' := fun q' os' => by
      rw [hcls]; exact HC.out q' _ dj hsj x1 x0
     have CLS : Hid _ := hcls
     clear hcls hHc
     generalize sWB strE 1 w blk off m dj oj = wq at l0q l1q hcg CLS ⊢
     by_cases hlv : cf x1 x0 < 0
     ·have HLV := Aside0.mk (show ltOf cf x1 x0 = true from decide_eq_true hlv)
      go_wp2_with fail
      refine wp_region_quiet_below (by assumption) (by kernel_rfl) ?_
      repeat (quiet_step ((go_at_fn g; refine Calls.regrown_of (hcg _ _))))
      refine wpQuiet_nil ?_
      intro _ hw'
      obtain ⟨⟨dq, osq⟩, hw''⟩ := hw'
      subst hw''
      go_wp2_with fail
      have hw2 : grow (redrawn wq dq) osq = sWB strE 1 w blk off dq dj (oj ++ osq) := CLS.out dq osq
      rw [hw2]
      have hHd : HoldsK strE 1 (sWB strE 1 w blk off dq dj (oj ++ osq)) blk off dj := sWB_holds strE 1 w blk off dq d dj _ HH.out hblk hsj
      have HNX : Hid ((swp dj (kk + 1) kk).toList = A ++ (Pp.take (kk - a) ++ x :: (Pp.drop (kk - a) ++ (X.drop (i + 1 - a) ++ B))) ∧ ∀ p ∈ Pp.drop (kk - a), ltOf cf x p = true) := by
       have hL := HJ.out
       obtain ⟨hx1, hx0⟩ := HX01.out
       have hd2 := HZ.out.2.2
       constructor
       ·have := swp_list dj _ _ _ _ _ hL
        rw [HAL.out, List.length_nil, Nat.add_zero] at this
        rw [swp_comm _ _ _ (by omega), this, hd2]
        simp only [List.append_assoc, List.cons_append, List.nil_append]
       ·intro p hp
        rw [hd2] at hp
        rcases List.mem_cons.1 hp with h | h
        ·rw [h, ← hx0, ← hx1]
         exact HLV.out
        ·exact HI.out.2 p h
      have HSWP : Hid ((((sWB strE 1 w blk off dq dj (oj ++ osq)).setCell ⟨blk, off + (kk + 1), none⟩ (.string (x0).1)).setCell ⟨blk, off + kk, none⟩ (.string (x1).1)).drew = sWB strE 1 w blk off (dq + 1) (swp dj (kk + 1) kk) (oj ++ osq)) := by
       show _ = _
       rw [← hz0, ← hz1]
       exact sWB_swp1 w blk off dq dj (oj ++ osq) hblk (kk + 1) kk hkd1 hkd
      clear l0q l1q hcg hw2
      generalize sWB strE 1 w blk off dq dj (oj ++ osq) = wq at hHd HSWP ⊢
      have l0 : wq.cell? ⟨blk, off + (kk + 1), none⟩ = some (.string x1.1) := by rw [← hz1]; exact cell_str hHd (by omega)
      have l1 : wq.cell? ⟨blk, off + kk, none⟩ = some (.string x0.1) := by rw [← hz0]; exact cell_str hHd (by omega)
      have f0 : wq.frozen? ⟨blk, off + (kk + 1), none⟩ = false := froz_str hHd (by omega)
      have f1 : wq.frozen? ⟨blk, off + kk, none⟩ = false := froz_str hHd (by omega)
      have l2 : (wq.setCell ⟨blk, off + (kk + 1), none⟩ (.string x0.1)).cell? ⟨blk, off + kk, none⟩ = some _ := (World.cell?_setCell_other _ _ _ _ (by intro e'; simp only [Addr.mk.injEq] at e'; omega)).trans l1
      clear hHd hz1 hz0
      go_wp2_with fail
      go_big_region_o
      all_goals go_wp2
      go_roundg kk
      case measure => omega
      case rel => exact ⟨kk, dq + 1, oj ++ osq, _, rfl, by omega, by omega, Nat.le_refl _, by rw [size_swp]; exact hsj, HSWP.out, HNX⟩
     ·have HLV := Aside0.mk (show ltOf cf x1 x0 = false from decide_eq_false hlv)
      have HOUT := OUT.out (Or.inr (by
       obtain ⟨hx1, hx0⟩ := HX01.out
       exact ⟨z, by rw [show kk + 1 - a - 1 = kk - a by omega]; exact HZ.out.1, by rw [← hx0, ← hx1]; exact HLV.out⟩))
      go_wp2_with fail
      refine wp_region_quiet_below (by assumption) (by kernel_rfl) ?_
      repeat (quiet_step ((go_at_fn g; refine Calls.regrown_of (hcg _ _))))
      refine wpQuiet_nil ?_
      intro _ hw'
      obtain ⟨⟨dq, osq⟩, hw''⟩ := hw'
      subst hw''
      go_wp2
      go_roundg (b - (i + 1))
      case measure => omega
      case rel => exact ⟨i + 1, dq, oj ++ osq, dj, by go_num, by omega, by omega, by omega, hsj, CLS.out dq osq, HOUT⟩
    ·have hjaz : decide ((j : Int) > (a : Int)) = false := decide_eq_false (by omega)
     have hjaz' : ¬ (a : Int) < (j : Int) := by omega
     have HOUT := OUT.out (Or.inl (by omega))
     have HDR : Hid ((sWB strE 1 w blk off m dj oj).drew = sWB strE 1 w blk off (m + 1) dj oj) := sWB_drew strE 1 w blk off m dj oj
     generalize sWB strE 1 w blk off m dj oj = wq at HDR ⊢
     go_wp2_with fail
     go_big_region_o
     all_goals go_wp2
     go_roundg (b - (i + 1))
     case measure => omega
     case rel => exact ⟨i + 1, m + 1, oj, dj, by go_num, by omega, by omega, by omega, hsj, HDR.out, HOUT⟩
  ·have hltz : ¬ (i : Int) < (b : Int) := by omega
   go_wp2
   go_end0
   obtain ⟨Pp, hP1, hP2, hP3⟩ := HP.out
   have hx := HM.out.2
   rw [List.take_of_length_le (by omega)] at hP2
   rw [List.drop_eq_nil_of_le (by omega), List.nil_append] at hP1
   exact ⟨rfl, q, os, dk, ⟨Pp, hP1, hP2, hP3⟩, hsk, rfl⟩
end Go.Proofs.Ytdomeeaaidjmpaa.PA
namespace Go.Proofs.Ytdomeeaaidjmpaa.PA
open Go.RowKit Go.Proofs.YtdomeeaaidjmpaaW.PrintWords Go.Proofs.YtdomeeaaidjmpaaW.PrintLast Go.Proofs.YtdomeeaaidjmpaaW.PrintMore
attribute [local go_sem] max2_int min2_int max_two min_two max_three min_three max_four min_four
set_option linter.unusedVariables false
set_option linter.unusedSimpArgs false
open Go Go.Shelf Go.Lib Go.Sort
set_option maxHeartbeats 4000000 in
set_option maxRecDepth 1000000 in
theorem sym1_call {P : Program} (L : LS P) 
  (cf : E13 → E13 → Int) (hS : SWO (ltOf cf)) (g : Nat) (cb : Array Value) (eg : ∀ args w, (callFunc g args).run P w = .ok (.enter g args) w) (blk off cap : Nat) (A : List E13) (x : E13) (Y B : List E13) (d : Array E13) (w : World) (hcmp : CmpB P g cb cf blk off d.size w) (hH : HoldsK strE 1 w blk off d) (hblk : blk < w.heap.size) (hd : d.toList = A ++ x :: (Y ++ B)) (hY : SortedL (ltOf cf) Y) (a m b : Nat) (ha : a = A.length) (hm : m = A.length + 1) (hb : b = A.length + 1 + Y.length) (hsz : d.size < 1000000000000) :
  Calls P 61 #[.slice (some ⟨blk, off, none⟩) d.size cap, .int .i64 a, .int .i64 m, .int .i64 b, .func (.func g) #[] cb] w fun e w' =>
   e = .returned (.tuple #[]) ∧ ∃ q os dk, (∃ Z, dk.toList = A ++ (Z ++ B) ∧ StP (ltOf cf) ([x] ++ Y) Z ∧ SortedL (ltOf cf) Z) ∧ dk.size = d.size ∧ w' = sWB strE 1 w blk off q dk os := by
 have mixed := L.mixed
 have t3 := L.t3; have a3 := L.a3; have z3 := L.z3; have v3 := L.v3; have t4 := L.t4; have a4 := L.a4; have z4 := L.z4; have v4 := L.v4; have t64 := L.t64; have a64 := L.a64; have z64 := L.z64; have v64 := L.v64; have t22 := L.t22; have a22 := L.a22; have z22 := L.z22; have v22 := L.v22; have t9 := L.t9; have a9 := L.a9; have z9 := L.z9; have v9 := L.v9
 have F := L.f61
 have hsl : d.size = A.length + (1 + Y.length + B.length) := by
  rw [← Array.length_toList, hd]
  simp
  omega
 have hdx : d[a]! = x := by
  rw [ha, ← Array.getElem!_toList, hd]
  simp
 have hdy : ∀ t (h : t < Y.length), d[m + t]! = Y[t] := fun t h => by
  rw [hm, ← Array.getElem!_toList, hd, show A.length + 1 + t = A.length + (1 + t) by omega]
  simp [h, List.getElem?_append, show 1 + t = t + 1 by omega]
  rw [if_neg (by omega)]
  rfl
 have HD := Aside0.mk hd
 have HDX := Aside0.mk hdx
 have HDY := Aside0.mk hdy
 have HYs := Aside0.mk hY
 have HSW := Aside0.mk hS
 have HST : Hid (w = sWB strE 1 w blk off w.drawn d #[]) := (sWB_start strE 1 w blk off d hH).symm
 have HH : Hid (HoldsK strE 1 w blk off d) := hH
 have HC := Aside0.mk hcmp
 have hma : m = a + 1 := by omega
 have hmz : (m : Int) - (a : Int) = 1 := by omega
 have hbm : b = m + Y.length := by omega
 have hbd : b ≤ d.size := by omega
 have HM := Aside0.mk (And.intro ha (And.intro hma hbm))
 have hm0 : a + 1 ≤ m := by omega
 have hmb : m ≤ b := by omega
 clear hsl hdx hdy hd hY hS hH hcmp ha hm hb hma hbm
 go_enter F, Try.ntmps61
 go_wp2
 go_loopg [10, 11] Y.length (fun gg vi vj wr => ∃ (i j q : Nat) (os : Array Obj), vi = .int .i64 i ∧ vj = .int .i64 j ∧ m ≤ i ∧ i ≤ j ∧ j ≤ b ∧ j - i ≤ gg ∧ wr = sWB strE 1 w blk off q d os ∧ Hid ((∀ y ∈ Y.take (i - m), ltOf cf y x = true) ∧ (∀ y ∈ Y.drop (j - m), ltOf cf y x = false)))
 case atStart =>
  have h1 := HM.out.2.2
  exact ⟨m, b, _, #[], rfl, rfl, by omega, by omega, by omega, by omega, HST.out, ⟨by rw [Nat.sub_self, List.take_zero]; simp, by rw [show b - m = Y.length by omega, List.drop_length]; simp⟩⟩
 case round =>
  obtain ⟨i, j, q, os, rfl, rfl, hi, hij, hjb, hg, rfl, HI⟩ := hrel
  obtain ⟨wq, hwq⟩ : ∃ wq, sWB strE 1 w blk off q d os = wq := ⟨_, rfl⟩
  have HWQ := Aside0.mk hwq
  rw [hwq]
  by_cases hlt : i < j
  ·have hltz : (i : Int) < (j : Int) := by omega
   obtain ⟨h, hh⟩ : ∃ h : Nat, ((i : Int) + (j : Int)) / 2 = (h : Int) := ⟨(i + j) / 2, by omega⟩
   have hih : i ≤ h := by omega
   have hhj : h < j := by omega
   have hhz : (h : Int) < (d.size : Int) := by omega
   have haz : (a : Int) < (d.size : Int) := by omega
   obtain ⟨xh, hxh⟩ : ∃ z, d[h]! = z := ⟨_, rfl⟩
   have hxh2 : ∃ hl : h - m < Y.length, Y[h - m] = xh := by
    have hq := HM.out.2.2
    refine ⟨by omega, ?_⟩
    rw [← HDY.out (h - m) (by omega), show m + (h - m) = h by omega, hxh]
   have HX2 := Aside0.mk hxh2
   have hHc : ∀ q' os', HoldsK strE 1 (grow (redrawn wq q') os') blk off d := fun q' os' => by
    rw [← HWQ.out, sWB_regrown]
    exact sWB_holds strE 1 w blk off q' d d _ HH.out hblk rfl
   have lh : ∀ q' os', World.cell? (grow (redrawn wq q') os') ⟨blk, off + h, none⟩ = some (.string (xh).1) := fun q' os' => by
    rw [← hxh]; exact cell_str (hHc q' os') (by omega)
   have la : ∀ q' os', World.cell? (grow (redrawn wq q') os') ⟨blk, off + a, none⟩ = some (.string (x).1) := fun q' os' => by
    rw [← HDX.out]; exact cell_str (hHc q' os') (by omega)
   have hcg : ∀ q' os', Calls P g (#[.string (xh).1, .string (x).1] ++ cb) (grow (redrawn wq q') os') fun e w' => e = .returned (.int .i64 (cf xh x)) ∧ Below (grow (redrawn wq q') os').heap.size (grow (redrawn wq q') os') w' := fun q' os' => by
    rw [← HWQ.out, sWB_regrown]
    exact HC.out q' _ d rfl xh x
   clear hHc hxh hxh2 hwq
   by_cases hlv : cf xh x < 0
   ·have HLV := Aside0.mk (show ltOf cf xh x = true from decide_eq_true hlv)
    go_wp2_with fail
    refine wp_region_quiet_below (by assumption) (by kernel_rfl) ?_
    repeat (quiet_step ((go_at_fn g; refine Calls.regrown_of (hcg _ _))))
    refine wpQuiet_nil ?_
    intro _ hw'
    obtain ⟨⟨dq, osq⟩, hw''⟩ := hw'
    subst hw''
    go_wp2_with fail
    go_roundg (j - (h + 1))
    case measure => omega
    case rel =>
     refine ⟨h + 1, j, dq, os ++ osq, by go_num, rfl, by omega, by omega, by omega, Nat.le_refl _, by rw [← HWQ.out, sWB_regrown], ⟨?_, HI.out.2⟩⟩
     obtain ⟨hl, he⟩ := HX2.out
     rw [show h + 1 - m = h - m + 1 by omega]
     exact up1 HSW.out HYs.out x (h - m) hl (by rw [he]; exact HLV.out)
   ·have HLV := Aside0.mk (show ltOf cf xh x = false from decide_eq_false hlv)
    go_wp2_with fail
    refine wp_region_quiet_below (by assumption) (by kernel_rfl) ?_
    repeat (quiet_step ((go_at_fn g; refine Calls.regrown_of (hcg _ _))))
    refine wpQuiet_nil ?_
    intro _ hw'
    obtain ⟨⟨dq, osq⟩, hw''⟩ := hw'
    subst hw''
    go_wp2_with fail
    go_roundg (h - i)
    case measure => omega
    case rel =>
     refine ⟨i, h, dq, os ++ osq, rfl, rfl, hi, hih, by omega, Nat.le_refl _, by rw [← HWQ.out, sWB_regrown], ⟨HI.out.1, ?_⟩⟩
     obtain ⟨hl, he⟩ := HX2.out
     exact down1 HSW.out HYs.out x (h - m) hl (by rw [he]; exact HLV.out)
  ·have hltz : ¬ (i : Int) < (j : Int) := by omega
   obtain rfl : i = j := by omega
   have HI2 := HI
   have hst0 : wq = sWB strE 1 w blk off q d os := HWQ.out.symm
   have HST2 := Aside0.mk hst0
   clear hst0 hwq HWQ HI
   go_wp2_with fail
   go_loopg [13] (i - 1 - a) (fun gg vk wr => ∃ (t q : Nat) (os : Array Obj) (dk : Array E13), vk = .int .i64 ((a + t : Nat) : Int) ∧ a + t ≤ i - 1 ∧ i - 1 - (a + t) ≤ gg ∧ dk.size = d.size ∧ wr = sWB strE 1 w blk off q dk os ∧ Hid (dk.toList = A ++ (Y.take t ++ x :: (Y.drop t ++ B))))
   case atStart => exact ⟨0, q, os, d, by go_num, by omega, by omega, rfl, HST2.out, (by show _ = _; rw [List.take_zero, List.drop_zero]; exact HD.out)⟩
   case round =>
    obtain ⟨t, q2, os2, dk, rfl, ht, hg2, hsk, rfl, HT⟩ := hrel
    obtain ⟨kk, hkk⟩ : ∃ kk, kk = a + t := ⟨_, rfl⟩
    have HKK := Aside0.mk hkk
    rw [← hkk] at ht hg2 ⊢
    clear hkk
    by_cases hlt2 : kk < i - 1
    ·have hltz2 : (kk : Int) < (i : Int) - 1 := by omega
     obtain ⟨x0, hx0⟩ : ∃ z, dk[kk]! = z := ⟨_, rfl⟩
     obtain ⟨x1, hx1⟩ : ∃ z, dk[kk + 1]! = z := ⟨_, rfl⟩
     have j0 : (kk : Int) < (d.size : Int) := by omega
     have j1 : (kk : Int) + 1 < (d.size : Int) := by omega
     have j2 : (0 : Int) ≤ (kk : Int) + 1 := by omega
     have e1 : ((kk : Int) + 1).toNat = kk + 1 := by omega
     have hHd : HoldsK strE 1 (sWB strE 1 w blk off q2 dk os2) blk off dk := sWB_holds strE 1 w blk off q2 d dk os2 HH.out hblk hsk
     have HNX : Hid ((swp dk kk (kk + 1)).toList = A ++ (Y.take (t + 1) ++ x :: (Y.drop (t + 1) ++ B))) := by
      show _ = _
      have hk2 := HKK.out
      have q1 := HM.out.1
      have q3 := HM.out.2.2
      have hty : t < Y.length := by omega
      have hT := HT.out
      rw [List.drop_eq_getElem_cons hty] at hT
      have hT2 : dk.toList = (A ++ Y.take t) ++ x :: ([] ++ Y[t] :: (Y.drop (t + 1) ++ B)) := by rw [hT]; simp only [List.append_assoc, List.cons_append, List.nil_append]
      have := swp_list dk _ _ _ _ _ hT2
      rw [List.length_append, List.length_take, Nat.min_eq_left (by omega), ← q1, ← hk2, List.length_nil, Nat.add_zero] at this
      rw [this, List.take_succ_eq_append_getElem hty]
      simp only [List.append_assoc, List.cons_append, List.nil_append]
     have HSWP : Hid ((((sWB strE 1 w blk off q2 dk os2).setCell ⟨blk, off + kk, none⟩ (.string (x1).1)).setCell ⟨blk, off + (kk + 1), none⟩ (.string (x0).1)).drew = sWB strE 1 w blk off (q2 + 1) (swp dk kk (kk + 1)) os2) := by
      show _ = _
      rw [← hx0, ← hx1]
      exact sWB_swp1 w blk off q2 dk os2 hblk kk (kk + 1) (by omega) (by omega)
     generalize sWB strE 1 w blk off q2 dk os2 = wq at hHd HSWP ⊢
     have l0 : wq.cell? ⟨blk, off + kk, none⟩ = some (.string x0.1) := by rw [← hx0]; exact cell_str hHd (by omega)
     have l1 : wq.cell? ⟨blk, off + (kk + 1), none⟩ = some (.string x1.1) := by rw [← hx1]; exact cell_str hHd (by omega)
     have f0 : wq.frozen? ⟨blk, off + kk, none⟩ = false := froz_str hHd (by omega)
     have f1 : wq.frozen? ⟨blk, off + (kk + 1), none⟩ = false := froz_str hHd (by omega)
     have l2 : (wq.setCell ⟨blk, off + kk, none⟩ (.string x1.1)).cell? ⟨blk, off + (kk + 1), none⟩ = some _ := (World.cell?_setCell_other _ _ _ _ (by intro e'; simp only [Addr.mk.injEq] at e'; omega)).trans l1
     clear hHd hx0 hx1
     go_wp2_with fail
     go_big_region_o
     all_goals go_wp2
     go_roundg (i - 1 - (kk + 1))
     case measure => omega
     case rel =>
      have hk2 := HKK.out
      exact ⟨t + 1, q2 + 1, os2, _, by rw [hk2]; go_num, by omega, by omega, by rw [size_swp]; exact hsk, HSWP.out, HNX⟩
    ·have hltz2 : ¬ (kk : Int) < (i : Int) - 1 := by omega
     go_wp2
     refine bodyPost_ret (results_none rfl _ _ _) rfl ?_
     have hk2 := HKK.out
     have q1 := HM.out.2.1
     obtain ⟨z1, z2⟩ := HI2.out
     have et : i - m = t := by omega
     rw [et] at z1 z2
     have hf := fin1 HSW.out HYs.out x t z1 z2
     exact ⟨rfl, q2, os2, dk, ⟨_, by rw [HT.out]; simp, hf.1, hf.2⟩, hsk, rfl⟩
end Go.Proofs.Ytdomeeaaidjmpaa.PA
namespace Go.Proofs.Ytdomeeaaidjmpaa.PA
open Go.RowKit Go.Proofs.YtdomeeaaidjmpaaW.PrintWords Go.Proofs.YtdomeeaaidjmpaaW.PrintLast Go.Proofs.YtdomeeaaidjmpaaW.PrintMore
attribute [local go_sem] max2_int min2_int max_two min_two max_three min_three max_four min_four
set_option linter.unusedVariables false
set_option linter.unusedSimpArgs false
open Go Go.Shelf Go.Lib Go.Sort
def SymT (P : Program) (cf : E13 → E13 → Int) (g : Nat) (cb : Array Value) (blk off cap N : Nat) : Prop :=
 ∀ (A X Y B : List E13) (d : Array E13) (w : World) (a m b : Nat), X.length + Y.length ≤ N → X ≠ [] → Y ≠ [] → CmpB P g cb cf blk off d.size w → HoldsK strE 1 w blk off d → blk < w.heap.size → d.toList = A ++ (X ++ (Y ++ B)) → SortedL (ltOf cf) X → SortedL (ltOf cf) Y → a = A.length → m = A.length + X.length → b = A.length + X.length + Y.length → d.size < 1000000000000 →
  Calls P 61 #[.slice (some ⟨blk, off, none⟩) d.size cap, .int .i64 a, .int .i64 m, .int .i64 b, .func (.func g) #[] cb] w fun e w' =>
   e = .returned (.tuple #[]) ∧ ∃ q os dk, (∃ Z, dk.toList = A ++ (Z ++ B) ∧ StP (ltOf cf) (X ++ Y) Z ∧ SortedL (ltOf cf) Z) ∧ dk.size = d.size ∧ w' = sWB strE 1 w blk off q dk os
theorem sorted_one {α : Type} {lt : α → α → Bool} {X Y : List α} (h : X = [] ∨ Y = []) (hX : SortedL lt X) (hY : SortedL lt Y) : SortedL lt (X ++ Y) := by
 rcases h with rfl | rfl
 ·exact hY
 ·rw [List.append_nil]
  exact hX
theorem part_sorted {α : Type} {lt : α → α → Bool} {X : List α} (h : SortedL lt X) (s : Nat) : SortedL lt (X.take s) ∧ SortedL lt (X.drop s) := by
 have : SortedL lt (X.take s ++ X.drop s) := by rw [List.take_append_drop]; exact h
 rw [sorted_app] at this
 exact ⟨this.1, this.2.1⟩
def subC : Code → List Bool → Code
 | .seq a b, false :: l => subC a l
 | .seq a b, true :: l => subC b l
 | c, _ => c
set_option maxHeartbeats 8000000 in
set_option maxRecDepth 1000000 in
theorem sym_t41 {P : Program} (L : LS P) 
  (cf : E13 → E13 → Int) (hS : SWO (ltOf cf)) (g : Nat) (cb : Array Value) (blk off cap N : Nat) (HIH : Aside0 (SymT P cf g cb blk off cap N)) (A X Y B : List E13) (d : Array E13) (w : World) (a m b s e mid nn : Nat) (HM : Aside0 (a = A.length ∧ m = a + X.length ∧ b = m + Y.length ∧ X.length + Y.length ≤ N + 1)) (HXs : Aside0 (SortedL (ltOf cf) X)) (HYs : Aside0 (SortedL (ltOf cf) Y)) (HH : Hid (HoldsK strE 1 w blk off d)) (HC : Aside0 (CmpB P g cb cf blk off d.size w)) (hblk : blk < w.heap.size) (hsz : d.size < 1000000000000) (hbd : b ≤ d.size) (hmb : m + 2 ≤ b) (hmid2 : mid < b) (hmid1 : a < mid) (hnn : (mid : Int) + (m : Int) = (nn : Int)) (has : a ≤ s) (hsm : s ≤ m) (hme : m ≤ e) (heb : e ≤ b) (HEE : Aside0 (e = nn - s))
  (HCUT : Aside0 (s - a ≤ X.length ∧ nn - s - m ≤ Y.length ∧ m + s ≤ nn ∧ a ≤ s ∧ s ≤ m ∧ nn - s ≤ b ∧ (∀ x ∈ X.drop (s - a), ∀ y ∈ Y.take (nn - s - m), ltOf cf y x = true) ∧ (∀ x ∈ X.take (s - a), ∀ y ∈ Y.drop (nn - s - m), ltOf cf y x = false)))
  (q2 : Nat) (os2 : Array Obj) (d2 : Array E13) (HD2 : Hid (d2.size = d.size ∧ d2.toList = A ++ (X.take (s - a) ++ (Y.take (nn - s - m) ++ (X.drop (s - a) ++ (Y.drop (nn - s - m) ++ B)))))) (t5 t6 t7 t8 t9 t10 t11 t12 t13 t14 t15 t16 t17 t19 t21 t22 t23 t25 t26 t27 t28 t29 t30 t31 t32 t33 t34 t35 t36 t37 t38 t39 t40 t41 t42 t43 t44 t45 t46 t47 t48 t49 t50 t51 t52 t53 t54 t55 t56 t57 t58 t59 t60 t61 t62 t63 t64 t65 t66 t67 t68 t69 t70 t71 t72 t73 t74 t75 t76 t77 t78 t79 t80 t81 t82 t83 t84 t85 t86 t87 t88 t89 t90 t91 t92 t93 t94 t95 t96 t97 t98 t99 t100 t101 t102 t103 t104 t105 t106 t107 t108 t109 t110 t111 t112 t113 t114 t115 t116 t117 t118 t119 t120 t121 t122 t123 t124 t125 t126 t127 t128 t129 t130 t131 t132 t133 t134 t135 t136 t137 t138 t139 t140 t141 t142 t143 t144 t145 t146 t147 t148 t149 t150 t151 t152 t153 t154 t155 t156 t157 t158 t159 t160 t161 t162 t163 t164 t165 t166 t167 t168 t169 t170 t171 t172 t173 t174 t175 t176 t177 t178 t179 t180 t181 t182 t183 t184 t185 t186 t187 t188 t189 t190 t191 t192 t193 t194 t195 t196 t197 t198 t199 t200 t201 t202 t203 t204 t205 t206 t207 t208 t209 t210 t211 t212 t213 t214 t215 t216 t217 t218 t219 : Value)
  (cR cC cN : Code) (hcR : cR = subC (Try.f61.body.getD .skip) [true, true, true, true, true, true, true, true, true, true, false, false]) (hcC : cC = subC (Try.f61.body.getD .skip) [true, true, true, true, true, true, true, true, true, true, false, true]) (hcN : cN = subC (Try.f61.body.getD .skip) [true, true, true, true, true, true, true, true, true, true, true]) (K K1 : Act → World → Prop) (Q : Exit → Act → World → Prop) (hQ : Q = (bodyPost P Try.f61 fun e w' => e = .returned (.tuple #[]) ∧ ∃ q os dk, (∃ Z, dk.toList = A ++ (Z ++ B) ∧ StP (ltOf cf) (X ++ Y) Z ∧ SortedL (ltOf cf) Z) ∧ dk.size = d.size ∧ w' = sWB strE 1 w blk off q dk os)) (hK : ∀ a w, Code.wp P cC (Exit.then K1 Q) a w → K a w) (hK1 : ∀ a w, Code.wp P cN Q a w → K1 a w) :
  Code.wp P cR (Exit.then K (Exit.then K1 Q)) { tmps := #[.slice (some ⟨blk, off, none⟩) d.size cap, .int .i64 a, .int .i64 m, .int .i64 b, .func (.func g) #[] cb, t5, t6, t7, t8, t9, t10, t11, t12, t13, t14, t15, t16, t17, .int .i64 mid, t19, .int .i64 s, t21, t22, t23, .int .i64 e, t25, t26, t27, t28, t29, t30, t31, t32, t33, t34, t35, t36, t37, t38, t39, t40, t41, t42, t43, t44, t45, t46, t47, t48, t49, t50, t51, t52, t53, t54, t55, t56, t57, t58, t59, t60, t61, t62, t63, t64, t65, t66, t67, t68, t69, t70, t71, t72, t73, t74, t75, t76, t77, t78, t79, t80, t81, t82, t83, t84, t85, t86, t87, t88, t89, t90, t91, t92, t93, t94, t95, t96, t97, t98, t99, t100, t101, t102, t103, t104, t105, t106, t107, t108, t109, t110, t111, t112, t113, t114, t115, t116, t117, t118, t119, t120, t121, t122, t123, t124, t125, t126, t127, t128, t129, t130, t131, t132, t133, t134, t135, t136, t137, t138, t139, t140, t141, t142, t143, t144, t145, t146, t147, t148, t149, t150, t151, t152, t153, t154, t155, t156, t157, t158, t159, t160, t161, t162, t163, t164, t165, t166, t167, t168, t169, t170, t171, t172, t173, t174, t175, t176, t177, t178, t179, t180, t181, t182, t183, t184, t185, t186, t187, t188, t189, t190, t191, t192, t193, t194, t195, t196, t197, t198, t199, t200, t201, t202, t203, t204, t205, t206, t207, t208, t209, t210, t211, t212, t213, t214, t215, t216, t217, t218, t219], defers := [] } (sWB strE 1 w blk off q2 d2 os2) := by
 have mixed := L.mixed
 have t3 := L.t3; have a3 := L.a3; have z3 := L.z3; have v3 := L.v3; have t4 := L.t4; have a4 := L.a4; have z4 := L.z4; have v4 := L.v4; have t64 := L.t64; have a64 := L.a64; have z64 := L.z64; have v64 := L.v64; have t22 := L.t22; have a22 := L.a22; have z22 := L.z22; have v22 := L.v22; have t9 := L.t9; have a9 := L.a9; have z9 := L.z9; have v9 := L.v9
 have ero := L.e65
 have esy := L.e61
 have HSW := Aside0.mk hS
 rw [hcC] at hK
 rw [hcN] at hK1
 rw [hcR]
 dsimp only [subC, Try.f61, Option.getD_some] at hK hK1 ⊢
 subst hQ
 clear hcR hcC hcN hS
 have hHO2 : Hid (HoldsK strE 1 (sWB strE 1 w blk off q2 d2 os2) blk off d2) := sWB_holds strE 1 w blk off q2 d d2 os2 HH.out hblk HD2.out.1
 have hBK2 : Hid (blk < (sWB strE 1 w blk off q2 d2 os2).heap.size) := Nat.lt_of_lt_of_le hblk (sWB_size strE 1 w blk off q2 d2 os2)
 have hON2 : Hid (∀ q' dk' os', dk'.size = d.size → sWB strE 1 (sWB strE 1 w blk off q2 d2 os2) blk off q' dk' os' = sWB strE 1 w blk off q' dk' (os2 ++ os')) := fun q' dk' os' h => sWB_on strE 1 w blk off q2 q' d2 dk' os2 os' hblk (h.trans HD2.out.1.symm)
 have hCM2 : Hid (CmpB P g cb cf blk off d.size (sWB strE 1 w blk off q2 d2 os2)) := CmpB.on HC.out hblk q2 d2 os2 HD2.out.1
 obtain ⟨w2, hw2⟩ : ∃ w2, sWB strE 1 w blk off q2 d2 os2 = w2 := ⟨_, rfl⟩
 have HW2 := Aside0.mk hw2
 rw [hw2] at hHO2 hBK2 hON2 hCM2 ⊢
 clear hw2
 go_cut [199] (fun v199 wd => v199 = .bool (decide (a < s) && decide (s < mid)) ∧ wd = w2)
 case first =>
  by_cases h1 : a < s
  ·have z1 : (a : Int) < (s : Int) := by omega
   by_cases h2 : s < mid
   ·have z2 : (s : Int) < (mid : Int) := by omega
    go_wp2_with fail
    go_meet
    case rel => exact ⟨by rw [decide_eq_true h1, decide_eq_true h2]; rfl, rfl⟩
   ·have z2 : ¬ (s : Int) < (mid : Int) := by omega
    go_wp2_with fail
    go_meet
    case rel => exact ⟨by rw [decide_eq_true h1, decide_eq_false h2]; rfl, rfl⟩
  ·have z1 : ¬ (a : Int) < (s : Int) := by omega
   go_wp2_with fail
   go_meet
   case rel => exact ⟨by rw [decide_eq_false h1]; rfl, rfl⟩
 case rest =>
  obtain ⟨rfl, rfl⟩ := hcut
  obtain ⟨w2, rfl⟩ : ∃ x, x = wc := ⟨_, rfl⟩
  obtain ⟨bb, hbb⟩ : ∃ bb, (decide (a < s) && decide (s < mid)) = bb := ⟨_, rfl⟩
  rw [hbb]
  have HBB := Aside0.mk hbb
  clear hbb
  go_upto_if 199 with fail
  go_cut [205] (fun v205 we => ∃ (q : Nat) (os : Array Obj) (d3 : Array E13), we = sWB strE 1 w blk off q d3 os ∧ Hid (d3.size = d.size ∧ ∃ Z1, d3.toList = A ++ (Z1 ++ (X.drop (s - a) ++ (Y.drop (nn - s - m) ++ B))) ∧ StP (ltOf cf) (X.take (s - a) ++ Y.take (nn - s - m)) Z1 ∧ SortedL (ltOf cf) Z1))
  case first =>
   obtain ⟨qa, qx, qy, qN⟩ := HM.out
   obtain ⟨k1, k2, k3, k4, k5, k6, _⟩ := HCUT.out
   have hge := HEE.out
   have hl1 : (X.take (s - a)).length = s - a := by rw [List.length_take]; omega
   have hl2 : (Y.take (nn - s - m)).length = nn - s - m := by rw [List.length_take]; omega
   have hn2 : nn = mid + m := by omega
   cases bb with
   | false =>
    have hone : X.take (s - a) = [] ∨ Y.take (nn - s - m) = [] := by
     have := HBB.out
     by_cases h1 : a < s
     ·by_cases h2 : s < mid
      ·rw [decide_eq_true h1, decide_eq_true h2] at this
       exact absurd this (by decide)
      ·exact Or.inr (List.length_eq_zero_iff.1 (by omega))
     ·exact Or.inl (List.length_eq_zero_iff.1 (by omega))
    have HONE := Aside0.mk hone
    clear hl1 hl2 hone k1 k2 k3 k4 k5 k6 qa qx qy qN hge hn2
    go_wp2_with fail
    go_meet
    case rel => exact ⟨q2, os2, d2, HW2.out.symm, ⟨HD2.out.1, X.take (s - a) ++ Y.take (nn - s - m), by rw [HD2.out.2]; simp only [List.append_assoc], StP.refl _, sorted_one HONE.out (part_sorted HXs.out _).1 (part_sorted HYs.out _).1⟩⟩
   | true =>
    have hlt2 : a < s ∧ s < mid := by
     have := HBB.out
     rw [Bool.and_eq_true, decide_eq_true_eq, decide_eq_true_eq] at this
     exact this
    have hrec := HIH.out A (X.take (s - a)) (Y.take (nn - s - m)) (X.drop (s - a) ++ (Y.drop (nn - s - m) ++ B)) d2 w2 a s mid (by rw [hl1, hl2]; omega) (fun h => by rw [h] at hl1; simp at hl1; omega) (fun h => by rw [h] at hl2; simp at hl2; omega) (by rw [HD2.out.1]; exact hCM2.out) hHO2.out hBK2.out HD2.out.2 (part_sorted HXs.out _).1 (part_sorted HYs.out _).1 qa (by rw [hl1]; omega) (by rw [hl1, hl2]; omega) (by rw [HD2.out.1]; exact hsz)
    rw [HD2.out.1] at hrec
    clear hl1 hl2 k1 k2 k3 k4 k5 k6 qa qx qy qN hge hlt2 hn2
    go_wp2_with (go_at_call 61; refine hrec.mono ?_; rintro e9 w9 ⟨rfl, q9, os9, d9, hZ9, hs9, rfl⟩)
    go_meet
    case rel => exact ⟨q9, os2 ++ os9, d9, hON2.out _ _ _ hs9, ⟨hs9, hZ9⟩⟩
  case rest =>
   obtain ⟨q3, os3, d3, rfl, HD3⟩ := hcut
   obtain ⟨hs3, Z1, hl3, hst3, hso3⟩ := HD3.out
   have HT3 := Aside0.mk (And.intro hs3 (And.intro hl3 (And.intro hst3 hso3)))
   have hHO3 : Hid (HoldsK strE 1 (sWB strE 1 w blk off q3 d3 os3) blk off d3) := sWB_holds strE 1 w blk off q3 d d3 os3 HH.out hblk hs3
   have hBK3 : Hid (blk < (sWB strE 1 w blk off q3 d3 os3).heap.size) := Nat.lt_of_lt_of_le hblk (sWB_size strE 1 w blk off q3 d3 os3)
   have hON3 : Hid (∀ q' dk' os', dk'.size = d.size → sWB strE 1 (sWB strE 1 w blk off q3 d3 os3) blk off q' dk' os' = sWB strE 1 w blk off q' dk' (os3 ++ os')) := fun q' dk' os' h => sWB_on strE 1 w blk off q3 q' d3 dk' os3 os' hblk (h.trans HT3.out.1.symm)
   have hCM3 : Hid (CmpB P g cb cf blk off d.size (sWB strE 1 w blk off q3 d3 os3)) := CmpB.on HC.out hblk q3 d3 os3 hs3
   have hfin : Aside0 (∀ Z2, StP (ltOf cf) (X.drop (s - a) ++ Y.drop (nn - s - m)) Z2 → SortedL (ltOf cf) Z2 → StP (ltOf cf) (X ++ Y) (Z1 ++ Z2) ∧ SortedL (ltOf cf) (Z1 ++ Z2)) := ⟨fun Z2 z1 z2 => part3 HSW.out HXs.out HYs.out (s - a) (nn - s - m) HCUT.out.2.2.2.2.2.2 ⟨HT3.out.2.2.1, HT3.out.2.2.2⟩ ⟨z1, z2⟩⟩
   obtain ⟨w3, hw3⟩ : ∃ w3, sWB strE 1 w blk off q3 d3 os3 = w3 := ⟨_, rfl⟩
   have HW3 := Aside0.mk hw3
   rw [hw3] at hHO3 hBK3 hON3 hCM3 ⊢
   clear hw3 HBB hHO2 hBK2 hON2 hCM2 HW2 HD2 hs3 hl3 hst3 hso3 HD3
   obtain ⟨qa, qx, qy, qN⟩ := HM.out
   obtain ⟨k1, k2, k3, k4, k5, k6, _⟩ := HCUT.out
   have hge := HEE.out
   have hl1 : (X.drop (s - a)).length = m - s := by rw [List.length_drop]; omega
   have hl2 : (Y.drop (nn - s - m)).length = b - e := by rw [List.length_drop]; omega
   have hl4 : Z1.length = mid - a := by rw [HT3.out.2.2.1.len, List.length_append, List.length_take, List.length_take]; omega
   by_cases h1 : mid < e
   ·have z1 : (mid : Int) < (e : Int) := by omega
    by_cases h2 : e < b
    ·have z2 : (e : Int) < (b : Int) := by omega
     have hrec := HIH.out (A ++ Z1) (X.drop (s - a)) (Y.drop (nn - s - m)) B d3 w3 mid e b (by rw [hl1, hl2]; omega) (fun h => by rw [h] at hl1; simp at hl1; omega) (fun h => by rw [h] at hl2; simp at hl2; omega) (by rw [HT3.out.1]; exact hCM3.out) hHO3.out hBK3.out (by rw [HT3.out.2.1]; simp only [List.append_assoc]) (part_sorted HXs.out _).2 (part_sorted HYs.out _).2 (by rw [List.length_append, hl4]; omega) (by rw [List.length_append, hl4, hl1]; omega) (by rw [List.length_append, hl4, hl1, hl2]; omega) (by rw [HT3.out.1]; exact hsz)
     rw [HT3.out.1] at hrec
     clear hl1 hl2 hl4 k1 k2 k3 k4 k5 k6 qa qx qy qN hge
     go_wp2_with (go_at_call 61; refine hrec.mono ?_; rintro e9 w9 ⟨rfl, q9, os9, d9, ⟨Z2, hZ9, hst9, hso9⟩, hs9, rfl⟩)
     go_end0
     have hf := hfin.out Z2 hst9 hso9
     exact ⟨rfl, q9, os3 ++ os9, d9, ⟨Z1 ++ Z2, by rw [hZ9]; simp only [List.append_assoc], hf.1, hf.2⟩, hs9, hON3.out _ _ _ hs9⟩
    ·have z2 : ¬ (e : Int) < (b : Int) := by omega
     have hemp : Y.drop (nn - s - m) = [] := List.length_eq_zero_iff.1 (by omega)
     have hf := Aside0.mk (hfin.out (X.drop (s - a) ++ Y.drop (nn - s - m)) (StP.refl _) (sorted_one (Or.inr hemp) (part_sorted HXs.out _).2 (part_sorted HYs.out _).2))
     clear hl1 hl2 hl4 k1 k2 k3 k4 k5 k6 qa qx qy qN hge hemp
     go_wp2_with fail
     go_end0
     exact ⟨rfl, q3, os3, d3, ⟨Z1 ++ (X.drop (s - a) ++ Y.drop (nn - s - m)), by rw [HT3.out.2.1]; simp only [List.append_assoc], hf.out.1, hf.out.2⟩, HT3.out.1, HW3.out.symm⟩
   ·have z1 : ¬ (mid : Int) < (e : Int) := by omega
    have hemp : X.drop (s - a) = [] := List.length_eq_zero_iff.1 (by omega)
    have hf := Aside0.mk (hfin.out (X.drop (s - a) ++ Y.drop (nn - s - m)) (StP.refl _) (sorted_one (Or.inl hemp) (part_sorted HXs.out _).2 (part_sorted HYs.out _).2))
    clear hl1 hl2 hl4 k1 k2 k3 k4 k5 k6 qa qx qy qN hge hemp
    go_wp2_with fail
    go_end0
    exact ⟨rfl, q3, os3, d3, ⟨Z1 ++ (X.drop (s - a) ++ Y.drop (nn - s - m)), by rw [HT3.out.2.1]; simp only [List.append_assoc], hf.out.1, hf.out.2⟩, HT3.out.1, HW3.out.symm⟩
set_option maxHeartbeats 8000000 in
set_option maxRecDepth 1000000 in
theorem sym_t39 {P : Program} (L : LS P) 
  (cf : E13 → E13 → Int) (hS : SWO (ltOf cf)) (g : Nat) (cb : Array Value) (blk off cap N : Nat) (HIH : Aside0 (SymT P cf g cb blk off cap N)) (A X Y B : List E13) (d : Array E13) (w : World) (a m b s e mid nn : Nat) (HM : Aside0 (a = A.length ∧ m = a + X.length ∧ b = m + Y.length ∧ X.length + Y.length ≤ N + 1)) (HXs : Aside0 (SortedL (ltOf cf) X)) (HYs : Aside0 (SortedL (ltOf cf) Y)) (HH : Hid (HoldsK strE 1 w blk off d)) (HC : Aside0 (CmpB P g cb cf blk off d.size w)) (hblk : blk < w.heap.size) (hsz : d.size < 1000000000000) (hbd : b ≤ d.size) (hmb : m + 2 ≤ b) (hmid2 : mid < b) (hmid1 : a < mid) (hnn : (mid : Int) + (m : Int) = (nn : Int)) (has : a ≤ s) (hsm : s ≤ m) (hme : m ≤ e) (heb : e ≤ b) (HEE : Aside0 (e = nn - s))
  (HCUT : Aside0 (s - a ≤ X.length ∧ nn - s - m ≤ Y.length ∧ m + s ≤ nn ∧ a ≤ s ∧ s ≤ m ∧ nn - s ≤ b ∧ (∀ x ∈ X.drop (s - a), ∀ y ∈ Y.take (nn - s - m), ltOf cf y x = true) ∧ (∀ x ∈ X.take (s - a), ∀ y ∈ Y.drop (nn - s - m), ltOf cf y x = false)))
  (q : Nat) (os : Array Obj) (HD : Aside0 (d.toList = A ++ (X ++ (Y ++ B)))) (wq : World) (HST2 : Aside0 (wq = sWB strE 1 w blk off q d os)) (t5 t6 t7 t8 t9 t10 t11 t12 t13 t14 t15 t16 t17 t19 t21 t22 t23 t25 t26 t27 t28 t29 t30 t31 t32 t33 t34 t35 t36 t37 t38 t39 t40 t41 t42 t43 t44 t45 t46 t47 t48 t49 t50 t51 t52 t53 t54 t55 t56 t57 t58 t59 t60 t61 t62 t63 t64 t65 t66 t67 t68 t69 t70 t71 t72 t73 t74 t75 t76 t77 t78 t79 t80 t81 t82 t83 t84 t85 t86 t87 t88 t89 t90 t91 t92 t93 t94 t95 t96 t97 t98 t99 t100 t101 t102 t103 t104 t105 t106 t107 t108 t109 t110 t111 t112 t113 t114 t115 t116 t117 t118 t119 t120 t121 t122 t123 t124 t125 t126 t127 t128 t129 t130 t131 t132 t133 t134 t135 t136 t137 t138 t139 t140 t141 t142 t143 t144 t145 t146 t147 t148 t149 t150 t151 t152 t153 t154 t155 t156 t157 t158 t159 t160 t161 t162 t163 t164 t165 t166 t167 t168 t169 t170 t171 t172 t173 t174 t175 t176 t177 t178 t179 t180 t181 t182 t183 t184 t185 t186 t187 t188 t189 t190 t191 t192 t193 t194 t195 t196 t197 t198 t199 t200 t201 t202 t203 t204 t205 t206 t207 t208 t209 t210 t211 t212 t213 t214 t215 t216 t217 t218 t219 : Value)
  (cR cC cN : Code) (hcR : cR = subC (Try.f61.body.getD .skip) [true, true, true, true, true, true, true, true, true, false, false]) (hcC : cC = subC (Try.f61.body.getD .skip) [true, true, true, true, true, true, true, true, true, false, true]) (hcN : cN = subC (Try.f61.body.getD .skip) [true, true, true, true, true, true, true, true, true, true]) (K K1 : Act → World → Prop) (Q : Exit → Act → World → Prop) (hQ : Q = (bodyPost P Try.f61 fun e w' => e = .returned (.tuple #[]) ∧ ∃ q os dk, (∃ Z, dk.toList = A ++ (Z ++ B) ∧ StP (ltOf cf) (X ++ Y) Z ∧ SortedL (ltOf cf) Z) ∧ dk.size = d.size ∧ w' = sWB strE 1 w blk off q dk os)) (hK : ∀ a w, Code.wp P cC (Exit.then K1 Q) a w → K a w) (hK1 : ∀ a w, Code.wp P cN Q a w → K1 a w) :
  Code.wp P cR (Exit.then K (Exit.then K1 Q)) { tmps := #[.slice (some ⟨blk, off, none⟩) d.size cap, .int .i64 a, .int .i64 m, .int .i64 b, .func (.func g) #[] cb, t5, t6, t7, t8, t9, t10, t11, t12, t13, t14, t15, t16, t17, .int .i64 mid, t19, .int .i64 s, t21, t22, t23, .int .i64 e, t25, t26, t27, t28, t29, t30, t31, t32, t33, t34, t35, t36, t37, t38, t39, t40, t41, t42, t43, t44, t45, t46, t47, t48, t49, t50, t51, t52, t53, t54, t55, t56, t57, t58, t59, t60, t61, t62, t63, t64, t65, t66, t67, t68, t69, t70, t71, t72, t73, t74, t75, t76, t77, t78, t79, t80, t81, t82, t83, t84, t85, t86, t87, t88, t89, t90, t91, t92, t93, t94, t95, t96, t97, t98, t99, t100, t101, t102, t103, t104, t105, t106, t107, t108, t109, t110, t111, t112, t113, t114, t115, t116, t117, t118, t119, t120, t121, t122, t123, t124, t125, t126, t127, t128, t129, t130, t131, t132, t133, t134, t135, t136, t137, t138, t139, t140, t141, t142, t143, t144, t145, t146, t147, t148, t149, t150, t151, t152, t153, t154, t155, t156, t157, t158, t159, t160, t161, t162, t163, t164, t165, t166, t167, t168, t169, t170, t171, t172, t173, t174, t175, t176, t177, t178, t179, t180, t181, t182, t183, t184, t185, t186, t187, t188, t189, t190, t191, t192, t193, t194, t195, t196, t197, t198, t199, t200, t201, t202, t203, t204, t205, t206, t207, t208, t209, t210, t211, t212, t213, t214, t215, t216, t217, t218, t219], defers := [] } wq := by
 have hrot : ∀ (W : World) (A' X' Y' B' : List E13) (dk : Array E13) (a' m' b' : Nat), HoldsK strE 1 W blk off dk → blk < W.heap.size → dk.toList = A' ++ X' ++ Y' ++ B' → X' ≠ [] → Y' ≠ [] → a' = A'.length → m' = A'.length + X'.length → b' = A'.length + X'.length + Y'.length → dk.size = d.size → Calls P 65 #[.slice (some ⟨blk, off, none⟩) d.size cap, .int .i64 a', .int .i64 m', .int .i64 b', .func (.func g) #[] cb] W fun e w' => e = .returned (.tuple #[]) ∧ ∃ q os dk', dk'.toList = A' ++ Y' ++ X' ++ B' ∧ dk'.size = d.size ∧ w' = sWB strE 1 W blk off q dk' os := fun W A' X' Y' B' dk a' m' b' x1 x2 x3 x4 x5 x6 x7 x8 x9 => by
  have := rotate_call L (.func (.func g) #[] cb) blk off cap A' X' Y' B' dk W x1 x2 x3 x4 x5 a' m' b' x6 x7 x8 (by omega)
  rwa [x9] at this
 have HROT := Aside0.mk hrot
 clear hrot
 have mixed := L.mixed
 have t3 := L.t3; have a3 := L.a3; have z3 := L.z3; have v3 := L.v3; have t4 := L.t4; have a4 := L.a4; have z4 := L.z4; have v4 := L.v4; have t64 := L.t64; have a64 := L.a64; have z64 := L.z64; have v64 := L.v64; have t22 := L.t22; have a22 := L.a22; have z22 := L.z22; have v22 := L.v22; have t9 := L.t9; have a9 := L.a9; have z9 := L.z9; have v9 := L.v9
 have ero := L.e65
 have esy := L.e61
 have HSW := Aside0.mk hS
 rw [hcC] at hK
 rw [hcN] at hK1
 rw [hcR]
 dsimp only [subC, Try.f61, Option.getD_some] at hK hK1 ⊢
 subst hQ
 clear hcR hcC hcN hS
 go_cut [185] (fun v185 wd => v185 = .bool (decide (s < m) && decide (m < e)) ∧ wd = wq)
 case first =>
  by_cases h1 : s < m
  ·have z1 : (s : Int) < (m : Int) := by omega
   by_cases h2 : m < e
   ·have z2 : (m : Int) < (e : Int) := by omega
    go_wp2_with fail
    go_meet
    case rel => exact ⟨by rw [decide_eq_true h1, decide_eq_true h2]; rfl, rfl⟩
   ·have z2 : ¬ (m : Int) < (e : Int) := by omega
    go_wp2_with fail
    go_meet
    case rel => exact ⟨by rw [decide_eq_true h1, decide_eq_false h2]; rfl, rfl⟩
  ·have z1 : ¬ (s : Int) < (m : Int) := by omega
   go_wp2_with fail
   go_meet
   case rel => exact ⟨by rw [decide_eq_false h1]; rfl, rfl⟩
 case rest =>
  obtain ⟨rfl, rfl⟩ := hcut
  obtain ⟨wq, rfl⟩ : ∃ x, x = wc := ⟨_, rfl⟩
  obtain ⟨bb, hbb⟩ : ∃ bb, (decide (s < m) && decide (m < e)) = bb := ⟨_, rfl⟩
  rw [hbb]
  have HBB := Aside0.mk hbb
  clear hbb
  go_upto_if 185 with fail
  go_cut [191] (fun v191 wd => ∃ (q : Nat) (os : Array Obj) (d2 : Array E13), wd = sWB strE 1 w blk off q d2 os ∧ Hid (d2.size = d.size ∧ d2.toList = A ++ (X.take (s - a) ++ (Y.take (nn - s - m) ++ (X.drop (s - a) ++ (Y.drop (nn - s - m) ++ B))))))
  case first =>
   obtain ⟨qa, qx, qy, _⟩ := HM.out
   obtain ⟨k1, k2, k3, k4, k5, k6, _⟩ := HCUT.out
   have hge := HEE.out
   have hXd := List.take_append_drop (s - a) X
   have hYd := List.take_append_drop (nn - s - m) Y
   have hl1 : (X.take (s - a)).length = s - a := by rw [List.length_take]; omega
   have hl2 : (Y.take (nn - s - m)).length = nn - s - m := by rw [List.length_take]; omega
   have hl3 : (X.drop (s - a)).length = X.length - (s - a) := List.length_drop
   cases bb with
   | false =>
    have hone : X.drop (s - a) = [] ∨ Y.take (nn - s - m) = [] := by
     have := HBB.out
     by_cases h1 : s < m
     ·by_cases h2 : m < e
      ·rw [decide_eq_true h1, decide_eq_true h2] at this
       exact absurd this (by decide)
      ·exact Or.inr (List.length_eq_zero_iff.1 (by omega))
     ·exact Or.inl (List.length_eq_zero_iff.1 (by omega))
    have HL : Hid (d.toList = A ++ (X.take (s - a) ++ (Y.take (nn - s - m) ++ (X.drop (s - a) ++ (Y.drop (nn - s - m) ++ B))))) := by
     show _ = _
     rw [HD.out]
     (conv => lhs; rw [← hXd, ← hYd])
     rcases hone with h | h <;> rw [h] <;> simp only [List.append_assoc, List.nil_append, List.append_nil]
    have HL2 := Aside0.mk HL
    clear HL hXd hYd hl1 hl2 hl3 hone k1 k2 k3 k4 k5 k6 qa qx qy hge
    go_wp2_with fail
    go_meet
    case rel => exact ⟨q, os, d, HST2.out, ⟨rfl, HL2.out⟩⟩
   | true =>
    have hlt2 : s < m ∧ m < e := by
     have := HBB.out
     rw [Bool.and_eq_true, decide_eq_true_eq, decide_eq_true_eq] at this
     exact this
    have hdd : d.toList = (A ++ X.take (s - a)) ++ X.drop (s - a) ++ Y.take (nn - s - m) ++ (Y.drop (nn - s - m) ++ B) := by
     rw [HD.out]
     (conv => lhs; rw [← hXd, ← hYd])
     simp only [List.append_assoc]
    have hrot2 := HROT.out wq (A ++ X.take (s - a)) (X.drop (s - a)) (Y.take (nn - s - m)) (Y.drop (nn - s - m) ++ B) d s m e (by rw [HST2.out]; exact sWB_holds strE 1 w blk off q d d _ HH.out hblk rfl) (by rw [HST2.out]; exact Nat.lt_of_lt_of_le hblk (sWB_size strE 1 w blk off q d os)) hdd (fun h => by rw [h] at hl3; simp at hl3; omega) (fun h => by rw [h] at hl2; simp at hl2; omega) (by rw [List.length_append, hl1]; omega) (by rw [List.length_append, hl1, hl3]; omega) (by rw [List.length_append, hl1, hl3, hl2]; omega) rfl
    clear hdd
    clear hXd hYd hl1 hl2 hl3 k1 k2 k3 k4 k5 k6 qa qx qy hge hlt2
    go_wp2_with (go_at_call 65; refine hrot2.mono ?_; rintro e9 w9 ⟨rfl, q9, os9, d9, hd9, hs9, rfl⟩)
    go_meet
    case rel => exact ⟨q9, os ++ os9, d9, by rw [HST2.out]; exact sWB_on strE 1 w blk off q q9 d d9 os os9 hblk hs9, ⟨hs9, by rw [hd9]; simp only [List.append_assoc]⟩⟩
  case rest =>
   obtain ⟨q2, os2, d2, rfl, HD2⟩ := hcut
   clear HST2 HBB
   go_upto_region 41 with fail
   exact sym_t41 L cf HSW.out g cb blk off cap N HIH A X Y B d w a m b s e mid nn HM HXs HYs HH HC hblk hsz hbd hmb hmid2 hmid1 hnn has hsm hme heb HEE HCUT q2 os2 d2 HD2 _ _ _ _ _ _ _ _ _ _ _ _ _ _ _ _ _ _ _ _ _ _ _ _ _ _ _ _ _ _ _ _ _ _ _ _ _ _ _ _ _ _ _ _ _ _ _ _ _ _ _ _ _ _ _ _ _ _ _ _ _ _ _ _ _ _ _ _ _ _ _ _ _ _ _ _ _ _ _ _ _ _ _ _ _ _ _ _ _ _ _ _ _ _ _ _ _ _ _ _ _ _ _ _ _ _ _ _ _ _ _ _ _ _ _ _ _ _ _ _ _ _ _ _ _ _ _ _ _ _ _ _ _ _ _ _ _ _ _ _ _ _ _ _ _ _ _ _ _ _ _ _ _ _ _ _ _ _ _ _ _ _ _ _ _ _ _ _ _ _ _ _ _ _ _ _ _ _ _ _ _ _ _ _ _ _ _ _ _ _ _ _ _ _ _ _ _ _ _ _ _ _ _ _ _ _ _ _ _ _ _ _ _ _ _ (by kernel_rfl) (by kernel_rfl) (by kernel_rfl) _ _ _ rfl (by assumption) (by assumption)
set_option maxHeartbeats 8000000 in
set_option maxRecDepth 1000000 in
theorem sym3_call {P : Program} (L : LS P) 
  (cf : E13 → E13 → Int) (hS : SWO (ltOf cf)) (g : Nat) (cb : Array Value) (eg : ∀ args w, (callFunc g args).run P w = .ok (.enter g args) w) (blk off cap N : Nat) (IH : SymT P cf g cb blk off cap N) (A X Y B : List E13) (d : Array E13) (w : World) (a m b : Nat) (hN : X.length + Y.length ≤ N + 1) (hX2 : 2 ≤ X.length) (hY2 : 2 ≤ Y.length) (hcmp : CmpB P g cb cf blk off d.size w) (hH : HoldsK strE 1 w blk off d) (hblk : blk < w.heap.size) (hd : d.toList = A ++ (X ++ (Y ++ B))) (hX : SortedL (ltOf cf) X) (hY : SortedL (ltOf cf) Y) (ha : a = A.length) (hm : m = A.length + X.length) (hb : b = A.length + X.length + Y.length) (hsz : d.size < 1000000000000) :
  Calls P 61 #[.slice (some ⟨blk, off, none⟩) d.size cap, .int .i64 a, .int .i64 m, .int .i64 b, .func (.func g) #[] cb] w fun e w' =>
   e = .returned (.tuple #[]) ∧ ∃ q os dk, (∃ Z, dk.toList = A ++ (Z ++ B) ∧ StP (ltOf cf) (X ++ Y) Z ∧ SortedL (ltOf cf) Z) ∧ dk.size = d.size ∧ w' = sWB strE 1 w blk off q dk os := by
 have mixed := L.mixed
 have t3 := L.t3; have a3 := L.a3; have z3 := L.z3; have v3 := L.v3; have t4 := L.t4; have a4 := L.a4; have z4 := L.z4; have v4 := L.v4; have t64 := L.t64; have a64 := L.a64; have z64 := L.z64; have v64 := L.v64; have t22 := L.t22; have a22 := L.a22; have z22 := L.z22; have v22 := L.v22; have t9 := L.t9; have a9 := L.a9; have z9 := L.z9; have v9 := L.v9
 have F := L.f61
 have ero := L.e65
 have esy := L.e61
 have hsl : d.size = A.length + (X.length + (Y.length + B.length)) := by
  rw [← Array.length_toList, hd]
  simp
 have hdx : ∀ t (h : t < X.length), d[a + t]! = X[t] := fun t h => by
  rw [ha, ← Array.getElem!_toList, hd]
  simp [h, List.getElem?_append]
  try rw [if_neg (by omega)]
  try rfl
 have hdy : ∀ t (h : t < Y.length), d[m + t]! = Y[t] := fun t h => by
  rw [hm, ← Array.getElem!_toList, hd, ← List.append_assoc, ← List.length_append]
  simp [h, List.getElem?_append]
  rw [show A.length + X.length + t - A.length - X.length = t by omega, if_pos h, List.getElem?_eq_getElem h, if_neg (by omega), if_neg (by omega)]
  rfl
 have HIH := Aside0.mk IH
 have HD := Aside0.mk hd
 have HDX := Aside0.mk hdx
 have HDY := Aside0.mk hdy
 have HXs := Aside0.mk hX
 have HYs := Aside0.mk hY
 have HSW := Aside0.mk hS
 have HST : Hid (w = sWB strE 1 w blk off w.drawn d #[]) := (sWB_start strE 1 w blk off d hH).symm
 have HH : Hid (HoldsK strE 1 w blk off d) := hH
 have HC := Aside0.mk hcmp
 have hmx : m = a + X.length := by omega
 have hby : b = m + Y.length := by omega
 have hma : ((m : Int) - (a : Int) == 1) = false := beq_eq_false_iff_ne.mpr (by omega)
 have hmz : ((b : Int) - (m : Int) == 1) = false := beq_eq_false_iff_ne.mpr (by omega)
 have ham : a + 2 ≤ m := by omega
 have hmb : m + 2 ≤ b := by omega
 have hbd : b ≤ d.size := by omega
 have HM := Aside0.mk (And.intro ha (And.intro hmx (And.intro hby hN)))
 obtain ⟨mid, hmid⟩ : ∃ mid : Nat, ((a : Int) + (b : Int)) / 2 = (mid : Int) := ⟨(a + b) / 2, by omega⟩
 obtain ⟨nn, hnn⟩ : ∃ nn : Nat, (mid : Int) + (m : Int) = (nn : Int) := ⟨mid + m, by omega⟩
 obtain ⟨p, hp⟩ : ∃ p : Nat, (nn : Int) - 1 = (p : Int) := ⟨nn - 1, by omega⟩
 have hmid1 : a < mid := by omega
 have hmid2 : mid < b := by omega
 have hnn2 : nn < 1000000000000 + 1000000000000 := by omega
 have hRng : ∀ s0 r0 : Nat, ((mid < m ∧ s0 + b = nn ∧ r0 = mid) ∨ (m ≤ mid ∧ s0 = a ∧ r0 = m)) → s0 ≤ r0 ∧ a ≤ s0 ∧ r0 ≤ m ∧ ∀ c, s0 ≤ c → c < r0 → a ≤ c ∧ c < m ∧ m + c < nn ∧ nn - 1 - c < b := fun s0 r0 h => by
  refine ⟨by omega, by omega, by omega, fun c h1 h2 => by omega⟩
 have HRNG := Aside0.mk hRng
 clear hsl hdx hdy hd hX hY hX2 hY2 hS hH hcmp ha hm hb hmx hby hN IH hRng
 go_enter F, Try.ntmps61
 go_upto_if 140 with fail
 (try rw [hma])
 (try rw [hmz])
 go_cut [20, 21] (fun v20 v21 wc => ∃ (s0 r0 : Nat), v20 = .int .i64 s0 ∧ v21 = .int .i64 r0 ∧ Aside0 ((mid < m ∧ s0 + b = nn ∧ r0 = mid) ∨ (m ≤ mid ∧ s0 = a ∧ r0 = m)) ∧ wc = w)
 case first =>
  by_cases hmm : mid < m
  ·obtain ⟨s0, hs0⟩ : ∃ s0 : Nat, (nn : Int) - (b : Int) = (s0 : Int) := ⟨nn - b, by omega⟩
   have hq : s0 + b = nn := by omega
   have hz : (mid : Int) < (m : Int) := by omega
   go_wp2_with fail
   go_meet
   case rel => exact ⟨s0, mid, rfl, rfl, ⟨Or.inl ⟨hmm, hq, rfl⟩⟩, rfl⟩
  ·have hz : ¬ (mid : Int) < (m : Int) := by omega
   go_wp2_with fail
   go_meet
   case rel => exact ⟨a, m, rfl, rfl, ⟨Or.inr ⟨by omega, rfl, rfl⟩⟩, rfl⟩
 case rest =>
  obtain ⟨s0, r0, rfl, rfl, HS0, rfl⟩ := hcut
  obtain ⟨w, rfl⟩ : ∃ x, x = wc := ⟨_, rfl⟩
  obtain ⟨hsr, has0, hr0m, _⟩ := HRNG.out s0 r0 HS0.out
  go_wp2_with fail
  go_loopg [20, 21] (r0 - s0) (fun gg vi vj wr => ∃ (s r q : Nat) (os : Array Obj), vi = .int .i64 s ∧ vj = .int .i64 r ∧ s0 ≤ s ∧ s ≤ r ∧ r ≤ r0 ∧ r - s ≤ gg ∧ wr = sWB strE 1 w blk off q d os ∧ Hid ((s = s0 ∨ ltOf cf d[nn - s]! d[s - 1]! = false) ∧ (r = r0 ∨ ltOf cf d[nn - 1 - r]! d[r]! = true)))
  case atStart => exact ⟨s0, r0, _, #[], rfl, rfl, Nat.le_refl _, hsr, Nat.le_refl _, Nat.le_refl _, HST.out, ⟨Or.inl rfl, Or.inl rfl⟩⟩
  case round =>
   obtain ⟨s, r, q, os, rfl, rfl, hs, hsr2, hr, hg, rfl, HI⟩ := hrel
   obtain ⟨wq, hwq⟩ : ∃ wq, sWB strE 1 w blk off q d os = wq := ⟨_, rfl⟩
   have HWQ := Aside0.mk hwq
   rw [hwq]
   by_cases hlt : s < r
   ·have hltz : (s : Int) < (r : Int) := by omega
    obtain ⟨h, hh⟩ : ∃ h : Nat, ((s : Int) + (r : Int)) / 2 = (h : Int) := ⟨(s + r) / 2, by omega⟩
    have hsh : s ≤ h := by omega
    have hhr : h < r := by omega
    obtain ⟨hR1, hR2, hR3, hR4⟩ := (HRNG.out s0 r0 HS0.out).2.2.2 h (by omega) (by omega)
    obtain ⟨e, he⟩ : ∃ e : Nat, (p : Int) - (h : Int) = (e : Int) := ⟨p - h, by omega⟩
    have hee : e = nn - 1 - h := by omega
    have hwe : IntKind.i64.wrap (e : Int) = (e : Int) := by rw [IntKind.wrap_i64]; omega
    have hez : (e : Int) < (d.size : Int) := by omega
    have hhz : (h : Int) < (d.size : Int) := by omega
    have hed : e < d.size := by omega
    have hhd : h < d.size := by omega
    obtain ⟨xh, hxh⟩ : ∃ z, d[h]! = z := ⟨_, rfl⟩
    obtain ⟨ye, hye⟩ : ∃ z, d[e]! = z := ⟨_, rfl⟩
    have HXY := Aside0.mk (And.intro hxh hye)
    have hHc : ∀ q' os', HoldsK strE 1 (grow (redrawn wq q') os') blk off d := fun q' os' => by
     rw [← HWQ.out, sWB_regrown]
     exact sWB_holds strE 1 w blk off q' d d _ HH.out hblk rfl
    have lh : ∀ q' os', World.cell? (grow (redrawn wq q') os') ⟨blk, off + h, none⟩ = some (.string (xh).1) := fun q' os' => by
     rw [← hxh]; exact cell_str (hHc q' os') hhd
    have le : ∀ q' os', World.cell? (grow (redrawn wq q') os') ⟨blk, off + e, none⟩ = some (.string (ye).1) := fun q' os' => by
     rw [← hye]; exact cell_str (hHc q' os') hed
    have hcg : ∀ q' os', Calls P g (#[.string (ye).1, .string (xh).1] ++ cb) (grow (redrawn wq q') os') fun e w' => e = .returned (.int .i64 (cf ye xh)) ∧ Below (grow (redrawn wq q') os').heap.size (grow (redrawn wq q') os') w' := fun q' os' => by
     rw [← HWQ.out, sWB_regrown]
     exact HC.out q' _ d rfl ye xh
    have HEE := Aside0.mk hee
    clear hHc hxh hye hwq hee
    by_cases hlv : ¬ cf ye xh < 0
    ·have HLV := Aside0.mk (show ltOf cf ye xh = false from decide_eq_false hlv)
     have hdl : decide (cf ye xh < 0) = false := decide_eq_false hlv
     go_wp2_with fail
     refine wp_region_quiet_below (by assumption) (by kernel_rfl) ?_
     repeat (quiet_step ((go_at_fn g; refine Calls.regrown_of (hcg _ _))))
     refine wpQuiet_nil ?_
     intro _ hw'
     obtain ⟨⟨dq, osq⟩, hw''⟩ := hw'
     subst hw''
     go_wp2_with fail
     go_roundg (r - (h + 1))
     case measure => omega
     case rel =>
      refine ⟨h + 1, r, dq, os ++ osq, by go_num, rfl, by omega, by omega, hr, Nat.le_refl _, by rw [← HWQ.out, sWB_regrown], ⟨Or.inr ?_, HI.out.2⟩⟩
      rw [show nn - (h + 1) = e by have := HEE.out; omega, Nat.add_sub_cancel, HXY.out.1, HXY.out.2]
      exact HLV.out
    ·have hlv2 : cf ye xh < 0 := Classical.not_not.1 hlv
     have HLV := Aside0.mk (show ltOf cf ye xh = true from decide_eq_true hlv2)
     have hdl : decide (cf ye xh < 0) = true := decide_eq_true hlv2
     go_wp2_with fail
     refine wp_region_quiet_below (by assumption) (by kernel_rfl) ?_
     repeat (quiet_step ((go_at_fn g; refine Calls.regrown_of (hcg _ _))))
     refine wpQuiet_nil ?_
     intro _ hw'
     obtain ⟨⟨dq, osq⟩, hw''⟩ := hw'
     subst hw''
     go_wp2_with fail
     go_roundg (h - s)
     case measure => omega
     case rel =>
      refine ⟨s, h, dq, os ++ osq, rfl, rfl, hs, hsh, by omega, Nat.le_refl _, by rw [← HWQ.out, sWB_regrown], ⟨HI.out.1, Or.inr ?_⟩⟩
      rw [← HEE.out, HXY.out.1, HXY.out.2]
      exact HLV.out
   ·have hltz : ¬ (s : Int) < (r : Int) := by omega
    obtain rfl : s = r := by omega
    have HCUT : Aside0 (s - a ≤ X.length ∧ nn - s - m ≤ Y.length ∧ m + s ≤ nn ∧ a ≤ s ∧ s ≤ m ∧ nn - s ≤ b ∧ (∀ x ∈ X.drop (s - a), ∀ y ∈ Y.take (nn - s - m), ltOf cf y x = true) ∧ (∀ x ∈ X.take (s - a), ∀ y ∈ Y.drop (nn - s - m), ltOf cf y x = false)) := by
     obtain ⟨qa, qx, qy, _⟩ := HM.out
     have h0 := HS0.out
     have hsX : s - a ≤ X.length := by omega
     have htY : nn - s - m ≤ Y.length := by omega
     have hms : m + s ≤ nn := by omega
     refine ⟨⟨hsX, htY, hms, by omega, by omega, by omega, cut3 HSW.out HXs.out HYs.out (s - a) (nn - s - m) hsX htY ?_ ?_⟩⟩
     ·rcases HI.out.1 with e | e
      ·rcases h0 with ⟨h1, h2, h3⟩ | ⟨h1, h2, h3⟩
       ·exact Or.inr (Or.inl (by omega))
       ·exact Or.inl (by omega)
      ·by_cases z1 : s - a = 0
       ·exact Or.inl z1
       ·by_cases z2 : nn - s - m = Y.length
        ·exact Or.inr (Or.inl z2)
        ·refine Or.inr (Or.inr ⟨by omega, by omega, ?_⟩)
         rw [← HDX.out (s - a - 1) (by omega), ← HDY.out (nn - s - m) (by omega), show a + (s - a - 1) = s - 1 by omega, show m + (nn - s - m) = nn - s by omega]
         exact e
     ·rcases HI.out.2 with e | e
      ·rcases h0 with ⟨h1, h2, h3⟩ | ⟨h1, h2, h3⟩
       ·exact Or.inr (Or.inl (by omega))
       ·exact Or.inl (by omega)
      ·by_cases z1 : s - a = X.length
       ·exact Or.inl z1
       ·by_cases z2 : nn - s - m = 0
        ·exact Or.inr (Or.inl z2)
        ·refine Or.inr (Or.inr ⟨by omega, by omega, ?_⟩)
         rw [← HDX.out (s - a) (by omega), ← HDY.out (nn - s - m - 1) (by omega), show a + (s - a) = s by omega, show m + (nn - s - m - 1) = nn - 1 - s by omega]
         exact e
    have hst0 : wq = sWB strE 1 w blk off q d os := HWQ.out.symm
    have HST2 := Aside0.mk hst0
    obtain ⟨hsX, htY, hms, has, hsm, hnsb, _⟩ := HCUT.out
    obtain ⟨e, hez⟩ : ∃ e : Nat, (nn : Int) - (s : Int) = (e : Int) := ⟨nn - s, by omega⟩
    have hee : e = nn - s := by omega
    have hme : m ≤ e := by omega
    have heb : e ≤ b := by omega
    have HEE := Aside0.mk hee
    clear hst0 hwq HWQ HI HS0 HRNG hee hsX htY hms hnsb
    go_upto_region 39 with fail
    exact sym_t39 L cf HSW.out g cb blk off cap N HIH A X Y B d w a m b s e mid nn HM HXs HYs HH HC hblk hsz hbd hmb hmid2 hmid1 hnn has hsm hme heb HEE HCUT q os HD wq HST2 _ _ _ _ _ _ _ _ _ _ _ _ _ _ _ _ _ _ _ _ _ _ _ _ _ _ _ _ _ _ _ _ _ _ _ _ _ _ _ _ _ _ _ _ _ _ _ _ _ _ _ _ _ _ _ _ _ _ _ _ _ _ _ _ _ _ _ _ _ _ _ _ _ _ _ _ _ _ _ _ _ _ _ _ _ _ _ _ _ _ _ _ _ _ _ _ _ _ _ _ _ _ _ _ _ _ _ _ _ _ _ _ _ _ _ _ _ _ _ _ _ _ _ _ _ _ _ _ _ _ _ _ _ _ _ _ _ _ _ _ _ _ _ _ _ _ _ _ _ _ _ _ _ _ _ _ _ _ _ _ _ _ _ _ _ _ _ _ _ _ _ _ _ _ _ _ _ _ _ _ _ _ _ _ _ _ _ _ _ _ _ _ _ _ _ _ _ _ _ _ _ _ _ _ _ _ _ _ _ _ _ _ _ _ _ (by kernel_rfl) (by kernel_rfl) (by kernel_rfl) _ _ _ rfl (by assumption) (by assumption)
theorem symMerge_call {P : Program} (L : LS P) 
  (cf : E13 → E13 → Int) (hS : SWO (ltOf cf)) (g : Nat) (cb : Array Value) (eg : ∀ args w, (callFunc g args).run P w = .ok (.enter g args) w) (blk off cap : Nat) : ∀ N, SymT P cf g cb blk off cap N := by
 intro N
 induction N with
 | zero =>
  intro A X Y B d w a m b hN hX0 hY0
  have := List.length_pos_iff.2 hX0
  omega
 | succ N ih =>
  intro A X Y B d w a m b hN hX0 hY0 hcmp hH hblk hd hX hY ha hm hb hsz
  have p1 := List.length_pos_iff.2 hX0
  have p2 := List.length_pos_iff.2 hY0
  by_cases e1 : X.length = 1
  ·obtain ⟨x, rfl⟩ := List.length_eq_one_iff.1 e1
   exact sym1_call L cf hS g cb eg blk off cap A x Y B d w hcmp hH hblk (by rw [hd]; rfl) hY a m b ha (by rw [hm, e1]) (by rw [hb, e1]) hsz
  ·by_cases e2 : Y.length = 1
   ·obtain ⟨y, rfl⟩ := List.length_eq_one_iff.1 e2
    exact sym2_call L cf hS g cb eg blk off cap A X y B d w hcmp hH hblk (by rw [hd]; rfl) hX e1 a m b ha hm (by rw [hb, e2]) hsz
   ·exact sym3_call L cf hS g cb eg blk off cap N ih A X Y B d w a m b hN (by omega) (by omega) hcmp hH hblk hd hX hY ha hm hb hsz
end Go.Proofs.Ytdomeeaaidjmpaa.PA
namespace Go.Proofs.Ytdomeeaaidjmpaa.PA
open Go.RowKit Go.Proofs.YtdomeeaaidjmpaaW.PrintWords Go.Proofs.YtdomeeaaidjmpaaW.PrintLast Go.Proofs.YtdomeeaaidjmpaaW.PrintMore
attribute [local go_sem] max2_int min2_int max_two min_two max_three min_three max_four min_four
set_option linter.unusedVariables false
set_option linter.unusedSimpArgs false
open Go Go.Shelf Go.Lib Go.Sort
inductive Blk {α : Type} (lt : α → α → Bool) (bs : Nat) : List α → Prop
 | last (Z : List α) : Z.length ≤ bs → SortedL lt Z → Blk lt bs Z
 | more (Z L : List α) : Z.length = bs → SortedL lt Z → Blk lt bs L → Blk lt bs (Z ++ L)
inductive Full {α : Type} (lt : α → α → Bool) (bs : Nat) : List α → Prop
 | none : Full lt bs []
 | more (P Z : List α) : Full lt bs P → Z.length = bs → SortedL lt Z → Full lt bs (P ++ Z)
theorem Full.blk {α : Type} {lt : α → α → Bool} {bs : Nat} {P : List α} (h : Full lt bs P) : ∀ R, Blk lt bs R → Blk lt bs (P ++ R) := by
 induction h with
 | none => intro R hR; exact hR
 | more P Z _ h1 h2 ih =>
  intro R hR
  rw [List.append_assoc]
  exact ih _ (Blk.more Z R h1 h2 hR)
theorem Blk.small {α : Type} {lt : α → α → Bool} {bs : Nat} {R : List α} (h : Blk lt bs R) : R.length ≤ bs → SortedL lt R := by
 induction h with
 | last Z h1 h2 => intro _; exact h2
 | more Z L h1 h2 _ _ =>
  intro h
  rw [List.length_append] at h
  rw [List.length_eq_zero_iff.1 (show L.length = 0 by omega), List.append_nil]
  exact h2
theorem Blk.one {α : Type} {lt : α → α → Bool} {bs : Nat} {R : List α} (h : Blk lt bs R) (h1 : bs < R.length) : ∃ Z L, R = Z ++ L ∧ Z.length = bs ∧ SortedL lt Z ∧ Blk lt bs L := by
 cases h with
 | last Z h2 _ => exact absurd h2 (by omega)
 | more Z L h2 h3 h4 => exact ⟨Z, L, rfl, h2, h3, h4⟩
theorem Blk.two {α : Type} {lt : α → α → Bool} {bs : Nat} {R : List α} (hb : 0 < bs) (h : Blk lt bs R) (h1 : 2 * bs ≤ R.length) : ∃ Z1 Z2 L, R = Z1 ++ (Z2 ++ L) ∧ Z1.length = bs ∧ Z2.length = bs ∧ SortedL lt Z1 ∧ SortedL lt Z2 ∧ Blk lt bs L := by
 obtain ⟨Z, L, rfl, h2, h3, h4⟩ := h.one (by omega)
 rw [List.length_append] at h1
 by_cases e : L.length = bs
 ·exact ⟨Z, L, [], by simp, h2, e, h3, h4.small (by omega), Blk.last [] (by simp) List.Pairwise.nil⟩
 ·obtain ⟨Z2, L2, rfl, h5, h6, h7⟩ := h4.one (by omega)
  exact ⟨Z, Z2, L2, rfl, h2, h5, h3, h6, h7⟩
set_option maxHeartbeats 8000000 in
set_option maxRecDepth 1000000 in
theorem stable_call {P : Program} (L : LS P) 
  (cf : E13 → E13 → Int) (hS : SWO (ltOf cf)) (g : Nat) (cb : Array Value) (eg : ∀ args w, (callFunc g args).run P w = .ok (.enter g args) w) (blk off cap : Nat) (d : Array E13) (w : World) (hcmp : CmpB P g cb cf blk off d.size w) (hH : HoldsK strE 1 w blk off d) (hblk : blk < w.heap.size) (n : Nat) (hn : n = d.size) (hsz : d.size < 1000000000000) :
  Calls P 55 #[.slice (some ⟨blk, off, none⟩) d.size cap, .int .i64 n, .func (.func g) #[] cb] w fun e w' =>
   e = .returned (.tuple #[]) ∧ ∃ q os dk, StP (ltOf cf) d.toList dk.toList ∧ SortedL (ltOf cf) dk.toList ∧ dk.size = d.size ∧ w' = sWB strE 1 w blk off q dk os := by
 have mixed := L.mixed
 have t3 := L.t3; have a3 := L.a3; have z3 := L.z3; have v3 := L.v3; have t4 := L.t4; have a4 := L.a4; have z4 := L.z4; have v4 := L.v4; have t64 := L.t64; have a64 := L.a64; have z64 := L.z64; have v64 := L.v64; have t22 := L.t22; have a22 := L.a22; have z22 := L.z22; have v22 := L.v22; have t9 := L.t9; have a9 := L.a9; have z9 := L.z9; have v9 := L.v9
 have F := L.f55
 have eins := L.e60
 have esy := L.e61
 have HST : Hid (w = sWB strE 1 w blk off w.drawn d #[]) := (sWB_start strE 1 w blk off d hH).symm
 have HN := Aside0.mk hn
 have hin : Aside0 (∀ (q : Nat) (os : Array Obj) (dk : Array E13) (A X B : List E13) (a b : Nat), dk.size = d.size → dk.toList = A ++ (X ++ B) → a = A.length → b = A.length + X.length → Calls P 60 #[.slice (some ⟨blk, off, none⟩) d.size cap, .int .i64 a, .int .i64 b, .func (.func g) #[] cb] (sWB strE 1 w blk off q dk os) fun e w' => e = .returned (.tuple #[]) ∧ ∃ q' os' dk', (∃ Z, dk'.toList = A ++ (Z ++ B) ∧ StP (ltOf cf) X Z ∧ SortedL (ltOf cf) Z) ∧ dk'.size = d.size ∧ w' = sWB strE 1 w blk off q' dk' os') := ⟨fun q os dk A X B a b x1 x2 x3 x4 => by
  have h := ins_call L cf hS g cb eg blk off cap A X B dk (sWB strE 1 w blk off q dk os) (by rw [x1]; exact CmpB.on hcmp hblk q dk os x1) (sWB_holds strE 1 w blk off q d dk os hH hblk x1) (Nat.lt_of_lt_of_le hblk (sWB_size strE 1 w blk off q dk os)) x2 a b x3 x4 (by omega)
  rw [x1] at h
  refine h.mono ?_
  rintro e w' ⟨he, q', os', dk', hz, hs, rfl⟩
  exact ⟨he, q', _, dk', hz, hs, sWB_on strE 1 w blk off q q' dk dk' os os' hblk (hs.trans x1.symm)⟩⟩
 have hme : Aside0 (∀ (q : Nat) (os : Array Obj) (dk : Array E13) (A X Y B : List E13) (a m b : Nat), dk.size = d.size → dk.toList = A ++ (X ++ (Y ++ B)) → X ≠ [] → Y ≠ [] → SortedL (ltOf cf) X → SortedL (ltOf cf) Y → a = A.length → m = A.length + X.length → b = A.length + X.length + Y.length → Calls P 61 #[.slice (some ⟨blk, off, none⟩) d.size cap, .int .i64 a, .int .i64 m, .int .i64 b, .func (.func g) #[] cb] (sWB strE 1 w blk off q dk os) fun e w' => e = .returned (.tuple #[]) ∧ ∃ q' os' dk', (∃ Z, dk'.toList = A ++ (Z ++ B) ∧ StP (ltOf cf) (X ++ Y) Z ∧ SortedL (ltOf cf) Z) ∧ dk'.size = d.size ∧ w' = sWB strE 1 w blk off q' dk' os') := ⟨fun q os dk A X Y B a m b x1 x2 x3 x4 x5 x6 x7 x8 x9 => by
  have h := symMerge_call L cf hS g cb eg blk off cap (X.length + Y.length) A X Y B dk (sWB strE 1 w blk off q dk os) a m b (Nat.le_refl _) x3 x4 (by rw [x1]; exact CmpB.on hcmp hblk q dk os x1) (sWB_holds strE 1 w blk off q d dk os hH hblk x1) (Nat.lt_of_lt_of_le hblk (sWB_size strE 1 w blk off q dk os)) x2 x5 x6 x7 x8 x9 (by omega)
  rw [x1] at h
  refine h.mono ?_
  rintro e w' ⟨he, q', os', dk', hz, hs, rfl⟩
  exact ⟨he, q', _, dk', hz, hs, sWB_on strE 1 w blk off q q' dk dk' os os' hblk (hs.trans x1.symm)⟩⟩
 have hnz : n < 1000000000000 := by omega
 have HSZ : Aside0 (d.toList.length = n) := ⟨by rw [Array.length_toList, hn]⟩
 clear hcmp hH hn hS eg
 go_enter F, Try.ntmps55
 go_wp2
 go_loopg [7, 8] n (fun gg v7 v8 wr => ∃ (a b q : Nat) (os : Array Obj) (dk : Array E13), v7 = .int .i64 a ∧ v8 = .int .i64 b ∧ a < b ∧ a ≤ n ∧ n - a ≤ gg ∧ wr = sWB strE 1 w blk off q dk os ∧ Hid (b = a + 20 ∧ dk.size = d.size ∧ ∃ Pp, dk.toList = Pp ++ d.toList.drop a ∧ Pp.length = a ∧ StP (ltOf cf) (d.toList.take a) Pp ∧ Full (ltOf cf) 20 Pp))
 case atStart => exact ⟨0, 20, _, #[], d, rfl, rfl, by omega, by omega, by omega, HST.out, ⟨rfl, rfl, [], by simp, rfl, by simp; exact StP.refl _, Full.none⟩⟩
 case round =>
  obtain ⟨a, b, q, os, dk, rfl, rfl, hab, han, hg, rfl, HP⟩ := hrel
  by_cases hbn : b ≤ n
  ·have hz : (b : Int) ≤ (n : Int) := by omega
   obtain ⟨q1, q2, Pp0, q3, q4, q5, q6⟩ := HP.out
   have hs := HSZ.out
   have hc := hin.out q os dk Pp0 ((d.toList.drop a).take 20) ((d.toList.drop a).drop 20) a b q2 (by rw [q3, List.take_append_drop]) q4.symm (by rw [List.length_take, List.length_drop]; omega)
   have HQ5 := Aside0.mk (And.intro q1 (And.intro q2 (And.intro q3 (And.intro q4 (And.intro q5 q6)))))
   clear q1 q2 q3 q4 q5 q6 hs
   go_wp2_with (go_at_call 60; refine hc.mono ?_; rintro e9 w9 ⟨rfl, q9, os9, d9, hZ9, hs9, rfl⟩)
   go_roundg (n - b)
   case measure => omega
   case rel =>
    obtain ⟨q1, q2, q3, q4, q5, q6⟩ := HQ5.out
    obtain ⟨Z, z1, z2, z3⟩ := hZ9
    have hs := HSZ.out
    have hlz : Z.length = 20 := by rw [z2.len, List.length_take, List.length_drop]; omega
    refine ⟨b, b + 20, q9, os9, d9, rfl, by go_num, by omega, hbn, Nat.le_refl _, rfl, ⟨rfl, hs9, Pp0 ++ Z, ?_, by rw [List.length_append]; omega, ?_, Full.more Pp0 Z q6 hlz z3⟩⟩
    ·rw [z1, List.drop_drop, ← q1, List.append_assoc]
    ·rw [q1, List.take_add]
     exact q5.app z2
  ·have hz : ¬ (b : Int) ≤ (n : Int) := by omega
   obtain ⟨q1, q2, Pp0, q3, q4, q5, q6⟩ := HP.out
   have hs := HSZ.out
   have hc := hin.out q os dk Pp0 (d.toList.drop a) [] a n q2 (by rw [q3, List.append_nil]) q4.symm (by rw [List.length_drop]; omega)
   have HQ5 := Aside0.mk (And.intro q1 (And.intro q2 (And.intro q3 (And.intro q4 (And.intro q5 q6)))))
   clear q1 q2 q3 q4 q5 q6 hs
   go_wp2_with (go_at_call 60; refine hc.mono ?_; rintro e9 w9 ⟨rfl, q9, os9, d9, hZ9, hs9, rfl⟩)
   have hst : Hid (d9.size = d.size ∧ StP (ltOf cf) d.toList d9.toList ∧ Blk (ltOf cf) 20 d9.toList) := by
    obtain ⟨q1, q2, q3, q4, q5, q6⟩ := HQ5.out
    obtain ⟨Z, z1, z2, z3⟩ := hZ9
    have hs := HSZ.out
    refine ⟨hs9, ?_, ?_⟩
    ·rw [z1, List.append_nil]
     have := q5.app z2
     rwa [List.take_append_drop] at this
    ·rw [z1, List.append_nil]
     exact q6.blk Z (Blk.last Z (by rw [z2.len, List.length_drop]; omega) z3)
   clear hZ9 HP hin hc
   go_loopg [6, 7, 8, 9] n (fun gg v6 v7 v8 v9 wr => ∃ (bs q : Nat) (os : Array Obj) (dk : Array E13), v6 = .int .i64 bs ∧ 0 < bs ∧ bs < 10000000000000 ∧ n - bs ≤ gg ∧ wr = sWB strE 1 w blk off q dk os ∧ Hid (dk.size = d.size ∧ StP (ltOf cf) d.toList dk.toList ∧ Blk (ltOf cf) bs dk.toList))
   case atStart => exact ⟨20, q9, os9, d9, rfl, by omega, by omega, by omega, rfl, hst⟩
   case round =>
    obtain ⟨bs, q2, os2, dk2, rfl, hbs0, hbs1, hg2, rfl, HB⟩ := hrel
    by_cases hbn2 : bs < n
    ·have hz2 : (bs : Int) < (n : Int) := by omega
     go_wp2_with fail
     go_loopg [7, 8] n (fun gg v7 v8 wr => ∃ (a b q : Nat) (os : Array Obj) (dk : Array E13), v7 = .int .i64 a ∧ v8 = .int .i64 b ∧ a + bs < b ∧ a ≤ n ∧ n - a ≤ gg ∧ wr = sWB strE 1 w blk off q dk os ∧ Hid (b = a + 2 * bs ∧ dk.size = d.size ∧ StP (ltOf cf) d.toList dk.toList ∧ ∃ Pp Rr, dk.toList = Pp ++ Rr ∧ Pp.length = a ∧ Full (ltOf cf) (2 * bs) Pp ∧ Blk (ltOf cf) bs Rr))
     case atStart => exact ⟨0, 2 * bs, q2, os2, dk2, rfl, by go_num, by omega, by omega, by omega, rfl, ⟨by omega, HB.out.1, HB.out.2.1, [], _, rfl, rfl, Full.none, HB.out.2.2⟩⟩
     case round =>
      obtain ⟨a, b, q3, os3, dk, rfl, rfl, hab3, han3, hg3, rfl, HQ⟩ := hrel
      by_cases hbn3 : b ≤ n
      ·have hz3 : (b : Int) ≤ (n : Int) := by omega
       have hsp : Aside0 (∃ Pp Z1 Z2 Rr, dk.toList = Pp ++ (Z1 ++ (Z2 ++ Rr)) ∧ Pp.length = a ∧ Full (ltOf cf) (2 * bs) Pp ∧ Z1.length = bs ∧ Z2.length = bs ∧ SortedL (ltOf cf) Z1 ∧ SortedL (ltOf cf) Z2 ∧ Blk (ltOf cf) bs Rr) := by
        obtain ⟨u1, u2, u3, Pp, Rr, u4, u5, u6, u7⟩ := HQ.out
        have hs := HSZ.out
        have hl : Pp.length + Rr.length = n := by rw [← List.length_append, ← u4, Array.length_toList, u2, ← HN.out]
        obtain ⟨Z1, Z2, L2, rfl, y1, y2, y3, y4, y5⟩ := u7.two hbs0 (by omega)
        exact ⟨Pp, Z1, Z2, L2, u4, u5, u6, y1, y2, y3, y4, y5⟩
       obtain ⟨Pp, Z1, Z2, Rr, y0, y1, y2, y3, y4, y5, y6, y7⟩ := hsp.out
       obtain ⟨mm, hmm⟩ : ∃ mm : Nat, (a : Int) + (bs : Int) = (mm : Int) := ⟨a + bs, by omega⟩
       have hc := hme.out q3 os3 dk Pp Z1 Z2 Rr a mm b HQ.out.2.1 y0 (fun h => by rw [h] at y3; simp at y3; omega) (fun h => by rw [h] at y4; simp at y4; omega) y5 y6 y1.symm (by omega) (by have := HQ.out.1; omega)
       have HY := Aside0.mk (And.intro y0 (And.intro y1 (And.intro y2 (And.intro y3 (And.intro y4 y7)))))
       clear y0 y1 y2 y3 y4 y5 y6 y7 hsp
       go_wp2_with (go_at_call 61; refine hc.mono ?_; rintro e8 w8 ⟨rfl, q8, os8, d8, hZ8, hs8, rfl⟩)
       go_roundg (n - b)
       case measure => omega
       case rel =>
        obtain ⟨u1, u2, u3, _⟩ := HQ.out
        obtain ⟨y0, y1, y2, y3, y4, y7⟩ := HY.out
        obtain ⟨Z, z1, z2, z3⟩ := hZ8
        have hlz : Z.length = 2 * bs := by rw [z2.len, List.length_append]; omega
        refine ⟨b, b + 2 * bs, q8, os8, d8, rfl, by go_num, by omega, hbn3, Nat.le_refl _, rfl, ⟨rfl, hs8, ?_, Pp ++ Z, Rr, by rw [z1, List.append_assoc], by rw [List.length_append]; omega, Full.more Pp Z y2 hlz z3, y7⟩⟩
        refine u3.trans ?_
        rw [y0, z1, ← List.append_assoc Z1]
        exact (StP.refl _).app (z2.app (StP.refl _))
      ·have hz3 : ¬ (b : Int) ≤ (n : Int) := by omega
       obtain ⟨mm, hmm⟩ : ∃ mm : Nat, (a : Int) + (bs : Int) = (mm : Int) := ⟨a + bs, by omega⟩
       have hmm2 : mm = a + bs := by omega
       by_cases hmn : mm < n
       ·have hz4 : (mm : Int) < (n : Int) := by omega
        have hsp : Aside0 (∃ Pp Z1 Z2, dk.toList = Pp ++ (Z1 ++ (Z2 ++ [])) ∧ Pp.length = a ∧ Full (ltOf cf) (2 * bs) Pp ∧ Z1.length = bs ∧ 0 < Z2.length ∧ a + bs + Z2.length = n ∧ SortedL (ltOf cf) Z1 ∧ SortedL (ltOf cf) Z2) := by
         obtain ⟨u1, u2, u3, Pp, Rr, u4, u5, u6, u7⟩ := HQ.out
         have hl : Pp.length + Rr.length = n := by rw [← List.length_append, ← u4, Array.length_toList, u2, ← HN.out]
         obtain ⟨Z1, Z2, rfl, y1, y2, y3⟩ := u7.one (by omega)
         rw [List.length_append] at hl
         exact ⟨Pp, Z1, Z2, by rw [List.append_nil]; exact u4, u5, u6, y1, by omega, by omega, y2, y3.small (by omega)⟩
        obtain ⟨Pp, Z1, Z2, y0, y1, y2, y3, y4, y5, y6, y7⟩ := hsp.out
        have hc := hme.out q3 os3 dk Pp Z1 Z2 [] a mm n HQ.out.2.1 y0 (fun h => by rw [h] at y3; simp at y3; omega) (fun h => by rw [h] at y4; simp at y4) y6 y7 y1.symm (by omega) (by omega)
        have HY := Aside0.mk (And.intro y0 (And.intro y1 (And.intro y2 (And.intro y3 (And.intro y4 y5)))))
        have HMM := Aside0.mk hmm2
        clear y0 y1 y2 y3 y4 y5 y6 y7 hsp hmm2
        go_wp2_with (go_at_call 61; refine hc.mono ?_; rintro e8 w8 ⟨rfl, q8, os8, d8, hZ8, hs8, rfl⟩)
        go_roundg (n - 2 * bs)
        case measure => omega
        case rel =>
         obtain ⟨u1, u2, u3, _⟩ := HQ.out
         obtain ⟨y0, y1, y2, y3, y4, y5⟩ := HY.out
         obtain ⟨Z, z1, z2, z3⟩ := hZ8
         refine ⟨2 * bs, q8, os8, d8, by first | go_num | (congr 1; omega), by omega, by omega, Nat.le_refl _, rfl, ⟨hs8, ?_, ?_⟩⟩
         ·refine u3.trans ?_
          rw [y0, z1, ← List.append_assoc Z1]
          exact (StP.refl _).app (z2.app (StP.refl _))
         ·rw [z1, List.append_nil]
          exact y2.blk Z (Blk.last Z (by rw [z2.len, List.length_append]; omega) z3)
       ·have hz4 : ¬ (mm : Int) < (n : Int) := by omega
        have HMM := Aside0.mk hmm2
        clear hmm2
        go_wp2_with fail
        go_roundg (n - 2 * bs)
        case measure => omega
        case rel =>
         obtain ⟨u1, u2, u3, Pp, Rr, u4, u5, u6, u7⟩ := HQ.out
         have hl : Pp.length + Rr.length = n := by rw [← List.length_append, ← u4, Array.length_toList, u2, ← HN.out]
         have hm := HMM.out
         refine ⟨2 * bs, q3, os3, dk, by first | go_num | (congr 1; omega), by omega, by omega, Nat.le_refl _, rfl, ⟨u2, u3, ?_⟩⟩
         rw [u4]
         exact u6.blk Rr (Blk.last Rr (by omega) (u7.small (by omega)))
    ·have hz2 : ¬ (bs : Int) < (n : Int) := by omega
     go_wp2_with fail
     go_end0
     have hs := HSZ.out
     exact ⟨rfl, q2, os2, dk2, HB.out.2.1, HB.out.2.2.small (by rw [Array.length_toList, HB.out.1, ← HN.out]; omega), HB.out.1, rfl⟩
end Go.Proofs.Ytdomeeaaidjmpaa.PA
namespace Go.Proofs.Ytdomeeaaidjmpaa.PA
open Go.RowKit Go.Proofs.YtdomeeaaidjmpaaW.PrintWords Go.Proofs.YtdomeeaaidjmpaaW.PrintLast Go.Proofs.YtdomeeaaidjmpaaW.PrintMore
attribute [local go_sem] max2_int min2_int max_two min_two max_three min_three max_four min_four
set_option linter.unusedVariables false
set_option linter.unusedSimpArgs false
open Go Go.Shelf Go.Lib Go.Sort
theorem made_none {α : Type} (d : Kd α) (e : Nat) (W : World) {b : Nat} (hb : b ≤ W.heap.size) : d.R e (W.alloc (.cells #[] e)) b (fun _ => True) (.slice (some ⟨W.heap.size, 0, none⟩) 0 0) [] :=
 ⟨fun _ _ => trivial, [], ⟨by simp, Or.inr ⟨W.heap.size, 0, #[], rfl, hb, blk_new W _, Nat.le_refl _, by simp [maxLen], by simp, by simp⟩⟩, Reps.none _ _⟩
set_option maxHeartbeats 2000000 in
set_option maxRecDepth 100000 in
theorem clone_call (A0 : Option Addr) (c0 : Nat) (l : List ByteArray) (w : World) (hr : Kd.C Kd.string w A0 l.length l) (hl : l.length < 1000000000) :
  Calls Try.prog 46 #[.slice A0 l.length c0] w fun e w' => ∃ v, e = .returned v ∧ Kd.R Kd.string 9 w' w.heap.size (fun _ => True) v l ∧ Below w.heap.size w w' := by
 have HR := Aside0.mk hr
 have HL := Aside0.mk hl
 have HB := Aside0.mk (Below.refl w.heap.size w)
 cases A0 with
 | none =>
  have hnil : l = [] := by
   cases l with
   | nil => rfl
   | cons x t =>
    obtain ⟨ad, h, _⟩ := hr.2.2 (by simp)
    exact absurd h (by simp)
  subst hnil
  clear hr hl
  have hq : ∀ W, (binOp .eql 22 (.slice none 0 c0) (.slice none 0 0)).run Try.prog W = .ok (.bool true) W := fun W => (run_eql_nil_slice W 22 9 none 0 c0 0 0 Try.underlying22)
  go_enter Try.func46, Try.ntmps46
  go_wp2
  go_ret
  exact ⟨_, rfl, Kd.R_nil _ _ _ _ _, HB.out⟩
 | some ad =>
  clear hr hl
  have hq : ∀ W, (binOp .eql 22 (.slice (some ad) l.length c0) (.slice none 0 0)).run Try.prog W = .ok (.bool false) W := fun W => (run_eql_nil_slice W 22 9 (some ad) l.length c0 0 0 Try.underlying22)
  go_enter Try.func46, Try.ntmps46
  go_wp2_with (first | ((with_reducible refine gate_builtin (b := .append) (xs := #[.tmp 5, .tmp 6]) rfl ?_); at_builtin; refine Kd.R_append_rows Kd.string (Rr := Kd.string.K (w.alloc (.cells #[] 9))) (w0 := w) w.heap.size rfl (.tmp 5) (.tmp 6) 22 9 (.string ⟨#[]⟩) 16 rfl Try.underlying22 info9 rfl (by decide) (by omega) (.slice (some ⟨w.heap.size, 0, none⟩) 0 0) ([] : List ByteArray) l _ _ _ (fun _ => True) (fun _ => False) rfl rfl ?aO ?aR (fun _ _ h => h) (fun _ h => h.elim) ?aF ?aB ?aS ?aL ?_; (case aR => exact (Kd.C_below HR.out (by repeat (first | (with_reducible first | exact HB.out | apply below_alloc | apply pw_below_drewN | apply below_drew1) | exact HB.out)))); (case aB => exact (by repeat (first | (with_reducible first | exact HB.out | apply below_alloc | apply pw_below_drewN | apply below_drew1) | exact HB.out))); (case aF => exact (fun _ _ => trivial)); (case aO => exact made_none Kd.string 9 w (Nat.le_refl _)); (case aS => exact below_size (by repeat (first | (with_reducible first | exact HB.out | apply below_alloc | apply pw_below_drewN | apply below_drew1) | exact HB.out))); (case aL => have := HL.out; simp; omega); intro v5 w5 ho hb hg hat; have n0_ := Aside0.mk hb; have n1_ := Aside0.mk ho; clear HB; have HB := n0_; have HO := n1_; clear n0_ n1_ ho hb hg hat))
  go_ret
  exact ⟨_, rfl, HO.out, HB.out⟩
theorem liftP : ∀ l : List ByteArray, (∀ x ∈ l, x.size ≤ 1048576) → ∃ m : List E13, m.map (·.1) = l
 | [], _ => ⟨[], rfl⟩
 | x :: l, h => by
  obtain ⟨m, hm⟩ := liftP l (fun y hy => h y (by simp [hy]))
  exact ⟨⟨x, h x (by simp)⟩ :: m, by simp [hm]⟩
theorem row_holds {W : World} {base : Nat} {v : Value} (m : List E13) (h : Kd.R Kd.string 9 W base (fun _ => True) v (m.map (·.1))) :
  (v = .slice none 0 0 ∧ m = []) ∨ ∃ g cap cur, v = .slice (some ⟨g, 0, none⟩) m.length cap ∧ base ≤ g ∧ W.heap[g]? = some (.cells cur 9 (0, 0)) ∧ m.length ≤ cap ∧ cap ≤ maxLen ∧ cur.size = cap * 1 ∧ HoldsK strE 1 W g 0 m.toArray := by
 obtain ⟨_, inner, ho, hr⟩ := h
 have hml : (m.map (·.1)).length = m.length := List.length_map _
 rw [hml] at ho
 obtain ⟨hil, ho⟩ := ho
 rcases ho with ⟨rfl, h0⟩ | ⟨g, cap, cur, rfl, hb, hh, h1, h2, h3, h4⟩
 ·exact Or.inl ⟨rfl, List.length_eq_zero_iff.1 h0⟩
 ·refine Or.inr ⟨g, cap, cur, rfl, hb, hh, h1, h2, h3, fun t ht => ?_⟩
  rw [size_flatK] at ht
  have ht' : t < m.length := by simpa using ht
  refine ⟨?_, by rw [Nat.zero_add]; exact blk_frozen hh t⟩
  rw [Nat.zero_add, blk_cell hh t, get_flatK strE 1 m.toArray t ht]
  have hp : (m.map (·.1))[t]? = some (m[t]).1 := by rw [List.getElem?_map, List.getElem?_eq_getElem ht']; rfl
  have hc : (inner.drop (t * 1)).take 1 = [Value.string (m[t]).1] := hr.2 t _ hp
  have he : inner[t]? = some (Value.string (m[t]).1) := by
   have := congrArg (fun l => l[0]?) hc
   simpa using this
  have hcur : cur[t]? = inner[t]? := by
   rw [← h4, List.getElem?_take, if_pos (by show t < m.length * 1; omega), Array.getElem?_toList]
  have hd : m.toArray[t]! = m[t] := by
   simp [ht']
  rw [hcur, he, Nat.div_one, hd, Nat.mod_one]
  rfl
theorem holds_row {W : World} {base g cap : Nat} {cur : Array Value} (d : Array E13) (hb : base ≤ g) (hh : W.heap[g]? = some (.cells cur 9 (0, 0))) (h1 : d.size ≤ cap) (h2 : cap ≤ maxLen) (h3 : cur.size = cap * 1) (hH : HoldsK strE 1 W g 0 d) :
  Kd.R Kd.string 9 W base (fun _ => True) (.slice (some ⟨g, 0, none⟩) d.size cap) (d.toList.map (·.1)) := by
 have hml : (d.toList.map (·.1)).length = d.size := by rw [List.length_map, Array.length_toList]
 refine ⟨fun _ _ => trivial, cur.toList.take (d.size * 1), ?_, ?_⟩
 ·rw [hml]
  refine ⟨?_, Or.inr ⟨g, cap, cur, rfl, hb, hh, h1, h2, h3, rfl⟩⟩
  rw [List.length_take, Array.length_toList, h3]
  show min (d.size * 1) (cap * 1) = d.size * 1
  omega
 ·refine ⟨?_, fun j p hp => ?_⟩
  ·rw [hml, List.length_take, Array.length_toList, h3]
   show min (d.size * 1) (cap * 1) = d.size * 1
   omega
  ·have hj : j < d.size := by
    have := (List.getElem?_eq_some_iff.1 hp).1
    omega
   have hpe : p = (d[j]).1 := by
    rw [List.getElem?_map, List.getElem?_eq_getElem (by rw [Array.length_toList]; exact hj)] at hp
    simpa using hp.symm
   have hF := (hH j (by rw [size_flatK]; omega)).1
   rw [Nat.zero_add, blk_cell hh j, get_flatK strE 1 d _ (by omega), Nat.div_one, Nat.mod_one, getElem!_pos d j hj] at hF
   have hF2 : cur[j]? = some (Value.string p) := by rw [hF, hpe]; rfl
   show ((cur.toList.take (d.size * 1)).drop (j * 1)).take 1 = [Value.string p]
   apply List.ext_getElem?
   intro i
   cases i with
   | zero =>
    rw [List.getElem?_take, if_pos (by omega), List.getElem?_drop, List.getElem?_take, if_pos (by omega), Array.getElem?_toList, show j * 1 + 0 = j by omega, hF2]
    rfl
   | succ i => rw [List.getElem?_eq_none (by rw [List.length_take]; omega), List.getElem?_eq_none (by show 1 ≤ i + 1; omega)]
theorem sWB_row (w : World) (g q : Nat) (d : Array E13) (os : Array Obj) (cur : Array Value) (hh : w.heap[g]? = some (.cells cur 9 (0, 0))) : ∃ cur', (sWB strE 1 w g 0 q d os).heap[g]? = some (.cells cur' 9 (0, 0)) ∧ cur'.size = cur.size := by
 have hlt : g < w.heap.size := (Array.getElem?_eq_some_iff.1 hh).1
 refine ⟨putCells id 0 (flatK strE 1 d) cur, ?_, by unfold putCells; simp⟩
 unfold sWB grow redrawn putRowK putRow mapBlock
 show ((w.heap.modify g _) ++ os)[g]? = _
 rw [Array.getElem?_append_left (by rw [Array.size_modify]; exact hlt), Array.getElem?_modify, if_pos rfl, hh]
 rfl
theorem sWB_below (w : World) (g q b : Nat) (d : Array E13) (os : Array Obj) (hb : b ≤ g) (hg : g < w.heap.size) : Below b w (sWB strE 1 w g 0 q d os) := by
 refine ⟨rfl, rfl, rfl, sWB_size strE 1 w g 0 q d os, fun k hk => ?_⟩
 unfold sWB grow redrawn putRowK putRow mapBlock
 show ((w.heap.modify g _) ++ os)[k]? = _
 rw [Array.getElem?_append_left (by rw [Array.size_modify]; omega), Array.getElem?_modify, if_neg (by omega)]
def ltP (x y : ByteArray) : Bool := decide (cmpL (splitL x) (splitL y) < 0)
def cf13 (x y : E13) : Int := cmpL (splitL x.1) (splitL y.1)
theorem ltP_irr (x : ByteArray) : ltP x x = false := decide_eq_false (cmp_irr _)
theorem ltP_trans (x y z : ByteArray) (h : ltP x y = true) (h2 : ltP y z = true) : ltP x z = true := decide_eq_true (cmp_trans _ _ _ (of_decide_eq_true h) (of_decide_eq_true h2))
theorem ltP_ntrans (x y z : ByteArray) (h : ltP x y = false) (h2 : ltP y z = false) : ltP x z = false := by
 refine decide_eq_false (fun hn => ?_)
 have h := of_decide_eq_false h
 have h2 := of_decide_eq_false h2
 by_cases e : cmpL (splitL y) (splitL x) < 0
 ·exact h2 (cmp_trans _ _ _ e hn)
 ·rw [cmp_tri _ _ h e] at hn
  exact h2 hn
theorem swoP : SWO ltP := ⟨ltP_irr, ltP_trans, ltP_ntrans⟩
theorem swo13 : SWO (ltOf cf13) := ⟨fun x => ltP_irr _, fun x y z h h2 => ltP_trans _ _ _ h h2, fun x y z h h2 => ltP_ntrans _ _ _ h h2⟩
theorem split_sameP (a b : ByteArray) (h : splitL a = splitL b) : a = b := by
 rw [← joinB_split a, ← joinB_split b, h]
theorem sorted_mapP (m : List E13) (h : SortedL (ltOf cf13) m) : SortedL ltP (m.map (·.1)) := by
 unfold SortedL at *
 rw [List.pairwise_map]
 exact h
theorem stp_mapP (m r : List E13) (h : StP (ltOf cf13) m r) : StP ltP (m.map (·.1)) (r.map (·.1)) := by
 refine ⟨h.1.map _, fun c => ?_⟩
 rw [List.filter_map, List.filter_map]
 by_cases hc : c.size ≤ 1048576
 ·have := h.2 ⟨c, hc⟩
  have e : (eqvB ltP c ∘ fun x : E13 => x.1) = eqvB (ltOf cf13) ⟨c, hc⟩ := rfl
  rw [e, this]
 ·have e : ∀ l : List E13, l.filter (eqvB ltP c ∘ fun x : E13 => x.1) = [] := fun l => by
   rw [List.filter_eq_nil_iff]
   intro y _ hy
   simp only [Function.comp, eqvB, Bool.and_eq_true, Bool.not_eq_true'] at hy
   have := cmp_tri _ _ (of_decide_eq_false hy.1) (of_decide_eq_false hy.2)
   have := split_sameP _ _ this
   exact hc (this ▸ y.2)
  rw [e, e]
theorem sort1_f (x y : ByteArray) (hx : x.size ≤ 1048576) (hy : y.size ≤ 1048576) : path_Sort_1.f 1048580 x y = some (cmpL (splitL x) (splitL y)) := by
 have h1 := spl_len x hx
 have h2 := spl_len y hy
 rw [path_Sort_1.f, path_Split.f, if_pos (by omega), Option.bind_some, path_Split.f, if_pos (by omega), Option.bind_some, compare_f _ _ _ (by omega) (by omega)]
 rfl
theorem cmpP_call (x y : E13) (w : World) : Calls Try.prog 48 #[.string x.1, .string y.1] w fun e w' => e = .returned (.int .i64 (cf13 x y)) ∧ Below w.heap.size w w' := path_Sort_1.calls 1048580 x.1 y.1 _ w (sort1_f x.1 y.1 x.2 y.2)
theorem ins_nil (fv : Value) (w : World) : Calls Try.prog 60 #[.slice none 0 0, .int .i64 0, .int .i64 0, fv] w fun e w' => e = .returned (.tuple #[]) ∧ Below w.heap.size w w' := by
 go_enter Try.func60, Try.ntmps60
 go_wp2
 go_loopw [8] (fun v8 wr => v8 = .int .i64 1 ∧ wr = w) (fun _ _ => 0)
 case atStart => exact ⟨rfl, rfl⟩
 case round =>
  obtain ⟨rfl, rfl⟩ := hrel
  go_wp2
  go_end0
  exact ⟨rfl, Below.refl _ _⟩
theorem stable_nil (fv : Value) (w : World) : Calls Try.prog 55 #[.slice none 0 0, .int .i64 0, fv] w fun e w' => e = .returned (.tuple #[]) ∧ Below w.heap.size w w' := by
 have hi := fun W => ins_nil fv W
 have HB := Aside0.mk (Below.refl w.heap.size w)
 go_enter Try.func55, Try.ntmps55
 go_wp2
 go_loopw [7, 8] (fun v7 v8 wr => v7 = .int .i64 0 ∧ v8 = .int .i64 20 ∧ wr = w) (fun _ _ _ => 0)
 case atStart => exact ⟨rfl, rfl, rfl⟩
 case round =>
  obtain ⟨rfl, rfl, rfl⟩ := hrel
  go_wp2_with (go_at_call 60; (with_reducible refine (hi _).mono ?_); rintro e w1 ⟨rfl, hb⟩; have n0_ := Aside0.mk (below_step HB.out hb); clear HB hb; have HB := n0_; clear n0_)
  go_loopw [6, 7, 8, 9] (fun v6 v7 v8 v9 wr2 => v6 = .int .i64 20 ∧ Aside0 (Below wr.heap.size wr wr2)) (fun _ _ _ _ _ => 0)
  case atStart => exact ⟨rfl, HB⟩
  case round =>
   obtain ⟨rfl, HB⟩ := hrel
   go_wp2
   go_end0
   exact ⟨rfl, HB.out⟩
set_option maxHeartbeats 2000000 in
set_option maxRecDepth 100000 in
theorem ssf_row (base : Nat) (w : World) (v : Value) (m : List E13) (hR : Kd.R Kd.string 9 w base (fun _ => True) v (m.map (·.1))) (hbw : base ≤ w.heap.size) (hm : m.length < 1000000000000) :
  Calls Try.prog 47 #[v, .func (.func 48) #[] #[]] w fun e w' => e = .returned (.tuple #[]) ∧ ∃ r : List E13, Kd.R Kd.string 9 w' base (fun _ => True) v (r.map (·.1)) ∧ StP (ltOf cf13) m r ∧ SortedL (ltOf cf13) r ∧ Below base w w' := by
 rcases row_holds m hR with ⟨rfl, rfl⟩ | ⟨g, cap, cur, rfl, hb, hh, h1, h2, h3, hH⟩
 ·have hc := stable_nil (.func (.func 48) #[] #[]) w
  have HBW := Aside0.mk hbw
  go_enter Try.func47, Try.ntmps47
  go_wp2_with (go_at_call 55; refine hc.mono ?_; rintro e9 w9 ⟨rfl, hb⟩; have HB := Aside0.mk hb; clear hb)
  go_end0
  exact ⟨rfl, [], Kd.R_nil _ _ _ _ _, StP.refl _, List.Pairwise.nil, HB.out.mono HBW.out⟩
 ·have hg : g < w.heap.size := (Array.getElem?_eq_some_iff.1 hh).1
  have hcmp : CmpB Try.prog 48 #[] cf13 g 0 m.toArray.size w := fun q os dk _ x y => cmpP_call x y _
  have hc := stable_call LS.here cf13 swo13 48 #[] (enters_of Try.func48 (by kernel_rfl) rfl) g 0 cap m.toArray w hcmp hH hg m.length (by simp) (by simpa using hm)
  rw [List.size_toArray] at hc
  have HCALL := Aside0.mk hc
  have HF := Aside0.mk (And.intro hb (And.intro hh (And.intro h1 (And.intro h2 (And.intro h3 (And.intro hH hg))))))
  clear hc hcmp hH hh h1 h2 h3 hg hb hR
  go_enter Try.func47, Try.ntmps47
  go_wp2_with (go_at_call 55; refine HCALL.out.mono ?_; rintro e9 w9 ⟨rfl, q9, os9, d9, z1, z2, z3, rfl⟩)
  go_end0
  obtain ⟨hb, hh, h1, h2, h3, hH, hg⟩ := HF.out
  obtain ⟨cur', c1, c2⟩ := sWB_row w g q9 d9 os9 cur hh
  have z3' : d9.size = m.length := z3
  refine ⟨rfl, d9.toList, ?_, z1, z2, sWB_below w g q9 base d9 os9 hb hg⟩
  have := holds_row (base := base) (cap := cap) d9 hb c1 (by omega) h2 (by rw [c2]; exact h3) (sWB_holds strE 1 w g 0 q9 m.toArray d9 os9 hH hg z3)
  rwa [z3'] at this
set_option maxHeartbeats 2000000 in
set_option maxRecDepth 100000 in
theorem sortP_call (A0 : Option Addr) (c0 : Nat) (l : List ByteArray) (w : World) (hr : Kd.C Kd.string w A0 l.length l) (hl : l.length < 1000000000) (hs : ∀ x ∈ l, x.size ≤ 1048576) :
  Calls Try.prog 35 #[.slice A0 l.length c0] w fun e w' => ∃ v r, e = .returned v ∧ Kd.R Kd.string 9 w' w.heap.size (fun _ => True) v r ∧ StP ltP l r ∧ SortedL ltP r ∧ Below w.heap.size w w' := by
 obtain ⟨m, rfl⟩ := liftP l hs
 have hml : m.length < 1000000000 := by rwa [List.length_map] at hl
 have hcl := clone_call A0 c0 (m.map (·.1)) w hr hl
 rw [List.length_map] at hcl ⊢
 have HCL := Aside0.mk hcl
 have HM := Aside0.mk hml
 clear hr hl hs hcl hml
 go_enter Try.func35, Try.ntmps35
 go_wp2_with (go_at_call 46; refine HCL.out.mono ?_; rintro e1 w1 ⟨v1, rfl, ho, hb⟩)
 have hss := ssf_row w.heap.size w1 v1 m ho hb.size (by have := HM.out; omega)
 have HSS := Aside0.mk hss
 have HB1 := Aside0.mk hb
 clear hss ho hb
 go_wp2_with (go_at_call 47; refine HSS.out.mono ?_; rintro e2 w2 ⟨rfl, r, ho2, z1, z2, hb2⟩)
 go_ret
 exact ⟨_, _, rfl, ho2, stp_mapP m r z1, sorted_mapP r z2, HB1.out.trans hb2⟩
def insP (acc : List ByteArray) (x : ByteArray) : List ByteArray := acc.filter (fun a => !ltP x a) ++ x :: acc.filter (fun a => ltP x a)
def sortB (l : List ByteArray) : List ByteArray := l.foldl insP []
theorem StP.symm {α : Type} {lt : α → α → Bool} {a b : List α} (h : StP lt a b) : StP lt b a := ⟨h.1.symm, fun c => (h.2 c).symm⟩
theorem insP_parts (x : ByteArray) : ∀ acc : List ByteArray, SortedL ltP acc → acc.filter (fun a => !ltP x a) ++ acc.filter (fun a => ltP x a) = acc
 | [], _ => rfl
 | a :: t, h => by
  have hc := List.pairwise_cons.1 h
  by_cases e : ltP x a = true
  ·have hall : ∀ b ∈ a :: t, ltP x b = true := fun b hb => by
    rcases List.mem_cons.1 hb with rfl | hb
    ·exact e
    ·apply Classical.byContradiction
     intro hn
     have := swoP.ntrans x b a (by simpa using hn) (hc.1 b hb)
     rw [this] at e
     exact absurd e (by decide)
   rw [List.filter_eq_nil_iff.2 (fun b hb => by rw [hall b hb]; decide), List.filter_eq_self.2 hall]
   rfl
  ·have e' : ltP x a = false := by simpa using e
   rw [List.filter_cons, if_pos (by rw [e']; rfl), List.filter_cons, if_neg e, List.cons_append, insP_parts x t hc.2]
theorem insP_ok (acc : List ByteArray) (x : ByteArray) (h : SortedL ltP acc) : StP ltP (acc ++ [x]) (insP acc x) ∧ SortedL ltP (insP acc x) := by
 have hp := insP_parts x acc h
 have hs : SortedL ltP (acc.filter (fun a => !ltP x a) ++ acc.filter (fun a => ltP x a)) := by rw [hp]; exact h
 rw [sorted_app] at hs
 have m1 : ∀ a ∈ acc.filter (fun a => !ltP x a), ltP x a = false := fun a ha => by simpa using (List.mem_filter.1 ha).2
 have m2 : ∀ a ∈ acc.filter (fun a => ltP x a), ltP x a = true := fun a ha => (List.mem_filter.1 ha).2
 unfold insP
 constructor
 ·have := StP.app (StP.refl (lt := ltP) (acc.filter (fun a => !ltP x a))) (StP.swap (acc.filter (fun a => ltP x a)) [x] swoP (fun a ha y hy => by rw [List.mem_singleton.1 hy]; exact m2 a ha))
  rw [← List.append_assoc, hp] at this
  exact this
 ·rw [show ∀ (F G : List ByteArray), F ++ x :: G = F ++ ([x] ++ G) from fun F G => by simp, sorted_app, sorted_app]
  refine ⟨hs.1, ⟨List.pairwise_singleton _ _, hs.2.1, fun a ha b hb => by rw [List.mem_singleton.1 ha]; exact anti swoP (m2 b hb)⟩, fun a ha b hb => ?_⟩
  rcases List.mem_append.1 hb with hb | hb
  ·rw [List.mem_singleton.1 hb]
   exact m1 a ha
  ·exact hs.2.2 a ha b hb
theorem sortB_fold : ∀ (l acc : List ByteArray), SortedL ltP acc → StP ltP (acc ++ l) (l.foldl insP acc) ∧ SortedL ltP (l.foldl insP acc)
 | [], acc, h => ⟨by rw [List.append_nil]; exact StP.refl _, h⟩
 | x :: l, acc, h => by
  have h1 := insP_ok acc x h
  have h2 := sortB_fold l (insP acc x) h1.2
  refine ⟨?_, h2.2⟩
  have := (h1.1.app (StP.refl (lt := ltP) l)).trans h2.1
  rwa [List.append_assoc] at this
theorem sortB_ok (l : List ByteArray) : StP ltP l (sortB l) ∧ SortedL ltP (sortB l) := sortB_fold l [] List.Pairwise.nil
def path_Sort.f (l0 : List ByteArray) : Option (List ByteArray) := if l0.length < 1000000000 ∧ (∀ y ∈ l0, y.size ≤ 1048576) then some (sortB l0) else none
theorem path_Sort.calls (A0 : Option Addr) (c0 : Nat) (l0 : List ByteArray) (r : List ByteArray) (w : World) (hr0 : Kd.C Kd.string w A0 l0.length l0) (hc0 : l0.length ≤ c0) (h : path_Sort.f l0 = some r) :
  Calls Try.prog 35 #[.slice A0 l0.length c0] w fun e w' => ∃ v0_ : Value, e = .returned v0_ ∧ Kd.R Kd.string 9 w' w.heap.size (fun _ => True) v0_ r ∧ Below w.heap.size w w' := by
 unfold path_Sort.f at h
 split at h
 ·rename_i hs
  obtain rfl := Option.some.inj h
  refine (sortP_call A0 c0 l0 w hr0 hs.1 hs.2).mono ?_
  rintro e w' ⟨v, r, rfl, ho, z1, z2, hb⟩
  have := stp_unique swoP r (sortB l0) z2 (sortB_ok l0).2 (z1.symm.trans (sortB_ok l0).1)
  subst this
  exact ⟨v, rfl, ho, hb⟩
 ·exact absurd h (by simp)
end Go.Proofs.Ytdomeeaaidjmpaa.PA
namespace Go.Proofs.Ytdomeeaaidjmpaa.PA
open Go.RowKit Go.Proofs.YtdomeeaaidjmpaaW.PrintWords Go.Proofs.YtdomeeaaidjmpaaW.PrintLast Go.Proofs.YtdomeeaaidjmpaaW.PrintMore
attribute [local go_sem] max2_int min2_int max_two min_two max_three min_three max_four min_four   -- for this text's walks alone
set_option linter.unusedVariables false
set_option linter.unusedSimpArgs false
def remoralaw13_PathSorts.f (k : Nat) (l0 : List ByteArray) : Option (Bool) := (remoralaw13_great.f k l0).bind fun t101 => (if t101 = true then (some true) else ((path_Sort.f l0).bind fun t102 => ((remoraref13_Sort.f k l0).bind fun t105 => ((remoralaw13_texts.f k t102 t105).bind fun t108 => (if t108 = true then ((remoralaw13_awake.f k).bind fun t109 => (some t109)) else (some false))))))
set_option maxHeartbeats 8000000 in
set_option maxRecDepth 100000 in
theorem remoralaw13_PathSorts.calls (k : Nat) (A0 : Option Addr) (c0 : Nat) (l0 : List ByteArray) (r : Bool) (w : World) (hr0 : Kd.C Kd.string w A0 l0.length l0) (hc0 : l0.length ≤ c0) (h : remoralaw13_PathSorts.f k l0 = some r) :
  Calls Try.prog 9 #[.slice A0 l0.length c0] w fun e w' => e = .returned (.bool r) ∧ Below w.heap.size w w' := by
 have HR0 := Aside0.mk hr0
 have HC0 := Aside0.mk hc0
 clear hr0 hc0
 have HB := Aside0.mk (Below.refl w.heap.size w)
 have H : ((remoralaw13_great.f k l0).bind fun t101 => (if t101 = true then (some true) else ((path_Sort.f l0).bind fun t102 => ((remoraref13_Sort.f k l0).bind fun t105 => ((remoralaw13_texts.f k t102 t105).bind fun t108 => (if t108 = true then ((remoralaw13_awake.f k).bind fun t109 => (some t109)) else (some false))))))) = some r := h
 clear h
 replace H := Option.bind_eq_some_iff.mp H
 obtain ⟨t101, A20, H⟩ := H
 replace H : (if t101 = true then (some true) else ((path_Sort.f l0).bind fun t102 => ((remoraref13_Sort.f k l0).bind fun t105 => ((remoralaw13_texts.f k t102 t105).bind fun t108 => (if t108 = true then ((remoralaw13_awake.f k).bind fun t109 => (some t109)) else (some false)))))) = some r := H
 have A2 := Aside0.mk A20
 clear A20
 by_cases c3 : t101 = true
 ·subst c3
  have H1 : (some true) = some r := by rw [if_pos rfl] at H; exact H
  clear H
  have H := H1
  clear H1
  obtain rfl := Option.some.inj H
  go_enter Try.func9, Try.ntmps9
  go_wp2_with (first | ((with_reducible refine gate_callee (f := 10) rfl ?_); refine goesL_ (some 4) rfl rfl Try.func10 (by kernel_rfl) rfl #[.slice A0 l0.length c0] rfl (by (try simp only [List.map_toArray, List.map_cons, List.map_nil]); first | done | rfl | (simp only [List.length_drop, List.length_take]; rfl)) ?_; (with_reducible refine (remoralaw13_great.calls k _ _ l0 true _ ?side1 ?side2 A2.out).mono ?_); (case side1 => repeat (first | exact HR0.out | (with_reducible refine Kd.C_alloc ?_ _) | (with_reducible refine Kd.C_drewN ?_ _) | (with_reducible refine Kd.C_drew ?_))); (case side2 => exact HC0.out); rintro e w' ⟨rfl, ⟨nd, rfl⟩⟩; refine ⟨_, rfl, ?_⟩))
  go_ret
  exact ⟨by first | rfl | (simp [errW_none, errW_some] <;> rfl) | (simp [*, errW_none, errW_some] <;> rfl), by repeat (first | (with_reducible first | exact HB.out | apply below_alloc | apply pw_below_drewN | apply below_drew1) | exact HB.out)⟩
 ·replace c3 := Bool.eq_false_iff.mpr c3
  subst c3
  have H1 : ((path_Sort.f l0).bind fun t102 => ((remoraref13_Sort.f k l0).bind fun t105 => ((remoralaw13_texts.f k t102 t105).bind fun t108 => (if t108 = true then ((remoralaw13_awake.f k).bind fun t109 => (some t109)) else (some false))))) = some r := by rw [if_neg (show ¬ (false = true) by decide)] at H; exact H
  clear H
  have H := H1
  clear H1
  replace H := Option.bind_eq_some_iff.mp H
  obtain ⟨t102, A40, H⟩ := H
  replace H : ((remoraref13_Sort.f k l0).bind fun t105 => ((remoralaw13_texts.f k t102 t105).bind fun t108 => (if t108 = true then ((remoralaw13_awake.f k).bind fun t109 => (some t109)) else (some false)))) = some r := H
  have A4 := Aside0.mk A40
  clear A40
  replace H := Option.bind_eq_some_iff.mp H
  obtain ⟨t105, A50, H⟩ := H
  replace H : ((remoralaw13_texts.f k t102 t105).bind fun t108 => (if t108 = true then ((remoralaw13_awake.f k).bind fun t109 => (some t109)) else (some false))) = some r := H
  have A5 := Aside0.mk A50
  clear A50
  replace H := Option.bind_eq_some_iff.mp H
  obtain ⟨t108, A60, H⟩ := H
  replace H : (if t108 = true then ((remoralaw13_awake.f k).bind fun t109 => (some t109)) else (some false)) = some r := H
  have A6 := Aside0.mk A60
  clear A60
  by_cases c7 : t108 = true
  ·subst c7
   have H1 : ((remoralaw13_awake.f k).bind fun t109 => (some t109)) = some r := by rw [if_pos rfl] at H; exact H
   clear H
   have H := H1
   clear H1
   replace H := Option.bind_eq_some_iff.mp H
   obtain ⟨t109, A80, H⟩ := H
   replace H : (some t109) = some r := H
   have A8 := Aside0.mk A80
   clear A80
   obtain rfl := Option.some.inj H
   go_enter Try.func9, Try.ntmps9
   go_wp2_with (first | ((with_reducible refine gate_callee (f := 10) rfl ?_); refine goesL_ (some 4) rfl rfl Try.func10 (by kernel_rfl) rfl #[.slice A0 l0.length c0] rfl (by (try simp only [List.map_toArray, List.map_cons, List.map_nil]); first | done | rfl | (simp only [List.length_drop, List.length_take]; rfl)) ?_; (with_reducible refine (remoralaw13_great.calls k _ _ l0 false _ ?side1 ?side2 A2.out).mono ?_); (case side1 => repeat (first | exact HR0.out | (with_reducible refine Kd.C_alloc ?_ _) | (with_reducible refine Kd.C_drewN ?_ _) | (with_reducible refine Kd.C_drew ?_))); (case side2 => exact HC0.out); rintro e w' ⟨rfl, ⟨nd, rfl⟩⟩; refine ⟨_, rfl, ?_⟩) | (go_at_call 35; (with_reducible refine (path_Sort.calls _ _ l0 t102 _ ?side1 ?side2 A4.out).mono ?_); (case side1 => repeat (first | exact HR0.out | (with_reducible refine Kd.C_alloc ?_ _) | (with_reducible refine Kd.C_drewN ?_ _) | (with_reducible refine Kd.C_drew ?_))); (case side2 => exact HC0.out); rintro e w9 ⟨v103, rfl, ho0, hb⟩; have n0_ := Aside0.mk (Kd.R_lower ho0 (below_size (by repeat (first | (with_reducible first | exact HB.out | apply below_alloc | apply pw_below_drewN | apply below_drew1) | exact HB.out)))); have n1_ := Aside0.mk (below_step (by repeat (first | (with_reducible first | exact HB.out | apply below_alloc | apply pw_below_drewN | apply below_drew1) | exact HB.out)) hb); clear HB; have HO104 := n0_; have HB := n1_; clear n0_ n1_; (try clear hb); (try clear hb2); (try clear hk); (try clear hi); (try clear ho0)) | (go_at_call 36; (with_reducible refine (remoraref13_Sort.calls k _ _ l0 t105 _ ?side1 ?side2 A5.out).mono ?_); (case side1 => repeat (first | exact (Kd.C_below HR0.out HB.out) | (with_reducible refine Kd.C_alloc ?_ _) | (with_reducible refine Kd.C_drewN ?_ _) | (with_reducible refine Kd.C_drew ?_))); (case side2 => exact HC0.out); rintro e w10 ⟨v106, rfl, ho0, hb⟩; have n0_ := Aside0.mk (Kd.R_elder' (by (with_reducible repeat (first | apply Kd.R_alloc | apply Kd.R_drewN | apply Kd.R_drew)); exact HO104.out) (Kd.R_base ho0) hb); have n1_ := Aside0.mk (Kd.R_lower (Kd.R_new' ho0 (Kd.R_lt (by (with_reducible repeat (first | apply Kd.R_alloc | apply Kd.R_drewN | apply Kd.R_drew)); exact HO104.out))) (below_size (by repeat (first | (with_reducible first | exact HB.out | apply below_alloc | apply pw_below_drewN | apply below_drew1) | exact HB.out)))); have n2_ := Aside0.mk (below_step (by repeat (first | (with_reducible first | exact HB.out | apply below_alloc | apply pw_below_drewN | apply below_drew1) | exact HB.out)) hb); clear HO104; clear HB; have HO104 := n0_; have HO107 := n1_; have HB := n2_; clear n0_ n1_ n2_; (try clear hb); (try clear hb2); (try clear hk); (try clear hi); (try clear ho0); obtain ⟨Ao11, co11, eo11⟩ := Kd.R_slice HO104.out; subst eo11; obtain ⟨Ao12, co12, eo12⟩ := Kd.R_slice HO107.out; subst eo12) | (go_at_call 18; (with_reducible refine (remoralaw13_texts.calls k _ _ t102 _ _ t105 true _ ?side1 ?side2 ?side3 ?side4 A6.out).mono ?_); (case side1 => repeat (first | exact (Kd.R_reads' HO104.out).2.2 | (with_reducible refine Kd.C_alloc ?_ _) | (with_reducible refine Kd.C_drewN ?_ _) | (with_reducible refine Kd.C_drew ?_))); (case side2 => exact (Kd.R_reads' HO104.out).2.1); (case side3 => repeat (first | exact (Kd.R_reads' HO107.out).2.2 | (with_reducible refine Kd.C_alloc ?_ _) | (with_reducible refine Kd.C_drewN ?_ _) | (with_reducible refine Kd.C_drew ?_))); (case side4 => exact (Kd.R_reads' HO107.out).2.1); rintro e w' ⟨rfl, ⟨nd, rfl⟩⟩) | (go_at_call 11; (with_reducible refine (remoralaw13_awake.calls k  t109 _ A8.out).mono ?_); rintro e w13 ⟨rfl, hb⟩; have n0_ := Aside0.mk (Kd.R_below (by (with_reducible repeat (first | apply Kd.R_alloc | apply Kd.R_drewN | apply Kd.R_drew)); exact HO104.out) hb); have n1_ := Aside0.mk (Kd.R_below (by (with_reducible repeat (first | apply Kd.R_alloc | apply Kd.R_drewN | apply Kd.R_drew)); exact HO107.out) hb); have n2_ := Aside0.mk (below_step (by repeat (first | (with_reducible first | exact HB.out | apply below_alloc | apply pw_below_drewN | apply below_drew1) | exact HB.out)) hb); clear HO104; clear HO107; clear HB; have HO104 := n0_; have HO107 := n1_; have HB := n2_; clear n0_ n1_ n2_; (try clear hb); (try clear hb2); (try clear hk); (try clear hi)))
   go_ret
   exact ⟨by first | rfl | (simp [errW_none, errW_some] <;> rfl) | (simp [*, errW_none, errW_some] <;> rfl), by repeat (first | (with_reducible first | exact HB.out | apply below_alloc | apply pw_below_drewN | apply below_drew1) | exact HB.out)⟩
  ·replace c7 := Bool.eq_false_iff.mpr c7
   subst c7
   have H1 : (some false) = some r := by rw [if_neg (show ¬ (false = true) by decide)] at H; exact H
   clear H
   have H := H1
   clear H1
   obtain rfl := Option.some.inj H
   go_enter Try.func9, Try.ntmps9
   go_wp2_with (first | ((with_reducible refine gate_callee (f := 10) rfl ?_); refine goesL_ (some 4) rfl rfl Try.func10 (by kernel_rfl) rfl #[.slice A0 l0.length c0] rfl (by (try simp only [List.map_toArray, List.map_cons, List.map_nil]); first | done | rfl | (simp only [List.length_drop, List.length_take]; rfl)) ?_; (with_reducible refine (remoralaw13_great.calls k _ _ l0 false _ ?side1 ?side2 A2.out).mono ?_); (case side1 => repeat (first | exact HR0.out | (with_reducible refine Kd.C_alloc ?_ _) | (with_reducible refine Kd.C_drewN ?_ _) | (with_reducible refine Kd.C_drew ?_))); (case side2 => exact HC0.out); rintro e w' ⟨rfl, ⟨nd, rfl⟩⟩; refine ⟨_, rfl, ?_⟩) | (go_at_call 35; (with_reducible refine (path_Sort.calls _ _ l0 t102 _ ?side1 ?side2 A4.out).mono ?_); (case side1 => repeat (first | exact HR0.out | (with_reducible refine Kd.C_alloc ?_ _) | (with_reducible refine Kd.C_drewN ?_ _) | (with_reducible refine Kd.C_drew ?_))); (case side2 => exact HC0.out); rintro e w14 ⟨v103, rfl, ho0, hb⟩; have n0_ := Aside0.mk (Kd.R_lower ho0 (below_size (by repeat (first | (with_reducible first | exact HB.out | apply below_alloc | apply pw_below_drewN | apply below_drew1) | exact HB.out)))); have n1_ := Aside0.mk (below_step (by repeat (first | (with_reducible first | exact HB.out | apply below_alloc | apply pw_below_drewN | apply below_drew1) | exact HB.out)) hb); clear HB; have HO104 := n0_; have HB := n1_; clear n0_ n1_; (try clear hb); (try clear hb2); (try clear hk); (try clear hi); (try clear ho0)) | (go_at_call 36; (with_reducible refine (remoraref13_Sort.calls k _ _ l0 t105 _ ?side1 ?side2 A5.out).mono ?_); (case side1 => repeat (first | exact (Kd.C_below HR0.out HB.out) | (with_reducible refine Kd.C_alloc ?_ _) | (with_reducible refine Kd.C_drewN ?_ _) | (with_reducible refine Kd.C_drew ?_))); (case side2 => exact HC0.out); rintro e w15 ⟨v106, rfl, ho0, hb⟩; have n0_ := Aside0.mk (Kd.R_elder' (by (with_reducible repeat (first | apply Kd.R_alloc | apply Kd.R_drewN | apply Kd.R_drew)); exact HO104.out) (Kd.R_base ho0) hb); have n1_ := Aside0.mk (Kd.R_lower (Kd.R_new' ho0 (Kd.R_lt (by (with_reducible repeat (first | apply Kd.R_alloc | apply Kd.R_drewN | apply Kd.R_drew)); exact HO104.out))) (below_size (by repeat (first | (with_reducible first | exact HB.out | apply below_alloc | apply pw_below_drewN | apply below_drew1) | exact HB.out)))); have n2_ := Aside0.mk (below_step (by repeat (first | (with_reducible first | exact HB.out | apply below_alloc | apply pw_below_drewN | apply below_drew1) | exact HB.out)) hb); clear HO104; clear HB; have HO104 := n0_; have HO107 := n1_; have HB := n2_; clear n0_ n1_ n2_; (try clear hb); (try clear hb2); (try clear hk); (try clear hi); (try clear ho0); obtain ⟨Ao16, co16, eo16⟩ := Kd.R_slice HO104.out; subst eo16; obtain ⟨Ao17, co17, eo17⟩ := Kd.R_slice HO107.out; subst eo17) | (go_at_call 18; (with_reducible refine (remoralaw13_texts.calls k _ _ t102 _ _ t105 false _ ?side1 ?side2 ?side3 ?side4 A6.out).mono ?_); (case side1 => repeat (first | exact (Kd.R_reads' HO104.out).2.2 | (with_reducible refine Kd.C_alloc ?_ _) | (with_reducible refine Kd.C_drewN ?_ _) | (with_reducible refine Kd.C_drew ?_))); (case side2 => exact (Kd.R_reads' HO104.out).2.1); (case side3 => repeat (first | exact (Kd.R_reads' HO107.out).2.2 | (with_reducible refine Kd.C_alloc ?_ _) | (with_reducible refine Kd.C_drewN ?_ _) | (with_reducible refine Kd.C_drew ?_))); (case side4 => exact (Kd.R_reads' HO107.out).2.1); rintro e w' ⟨rfl, ⟨nd, rfl⟩⟩))
   go_ret
   exact ⟨by first | rfl | (simp [errW_none, errW_some] <;> rfl) | (simp [*, errW_none, errW_some] <;> rfl), by repeat (first | (with_reducible first | exact HB.out | apply below_alloc | apply pw_below_drewN | apply below_drew1) | exact HB.out)⟩
end Go.Proofs.Ytdomeeaaidjmpaa.PA
namespace Go.Proofs.Ytdomeeaaidjmpaa.PA
open Go.RowKit Go.Proofs.YtdomeeaaidjmpaaW.PrintWords Go.Proofs.YtdomeeaaidjmpaaW.PrintLast Go.Proofs.YtdomeeaaidjmpaaW.PrintMore
attribute [local go_sem] max2_int min2_int max_two min_two max_three min_three max_four min_four
set_option linter.unusedVariables false
set_option linter.unusedSimpArgs false
theorem bulk_pos {H : Type} : ∀ d : DataW H, 1 ≤ Rows.uptoBulk d
 | .lit (.string b) => by simp [Rows.uptoBulk]
 | .lit (.int _ _) => by simp [Rows.uptoBulk]
 | .lit (.bool _) => by simp [Rows.uptoBulk]
 | .lit (.float _ _) => by simp [Rows.uptoBulk]
 | .lit .nil => by simp [Rows.uptoBulk]
 | .nil => by simp [Rows.uptoBulk]
 | .ptr d => by simp [Rows.uptoBulk]
 | .slice _ _ => by simp [Rows.uptoBulk]
 | .agg _ => by simp [Rows.uptoBulk]
 | .iface _ _ => by simp [Rows.uptoBulk]
 | .map _ => by simp [Rows.uptoBulk]
 | .held _ => by simp [Rows.uptoBulk]
theorem bulk_len {H : Type} : ∀ l : List (DataW H), l.length ≤ Rows.uptoBulkAll l
 | [] => by simp [Rows.uptoBulkAll]
 | d :: r => by
  have h1 := bulk_pos d
  have h2 := bulk_len r
  simp only [List.length_cons, Rows.uptoBulkAll]
  omega
theorem bulk_mem {H : Type} : ∀ (l : List (DataW H)) (d : DataW H), d ∈ l → Rows.uptoBulk d ≤ Rows.uptoBulkAll l
 | [], d, h => by simp at h
 | e :: r, d, h => by
  simp only [Rows.uptoBulkAll]
  rcases List.mem_cons.1 h with rfl | h
  ·omega
  ·have := bulk_mem r d h
   omega
structure Opn {α : Type} (P : Program) (t : TypeId) (d : Kd α) (wf : Nat → α → Prop) : Prop where
 sz : d.sz = P.cellsOf t
 mono : ∀ n m a, n ≤ m → wf n a → wf m a
 op : ∀ {H : Type} (enc : TypeId × Value → H) (w : World) (base : Nat) (spare : Nat → Bool) (held : Bool) (fuel : Nat) (cs : List Value) (x : DataW H × List MemPlace), DataW.trod enc P w base spare held fuel t cs = some x → ∃ a, d.K w a cs ∧ wf (Rows.uptoBulk x.1) a
section
variable {P : Program} {t : TypeId}
theorem opn_string (ht : P.underlying t = some .string) (hs : P.cellsOf t = 1) : Opn P t Kd.string (fun n s => s.size < n ∧ s.size ≤ maxLen) where
 sz := hs.symm
 mono := fun _ _ _ h h' => ⟨Nat.lt_of_lt_of_le h'.1 h, h'.2⟩
 op := fun enc w base spare held fuel cs x h => by
  obtain ⟨s, rfl, rfl, hw⟩ := DataW.trod_string ht h
  refine ⟨s, rfl, ?_, hw⟩
  simp [Rows.uptoBulk]
theorem cells_get {w : World} {base : Nat} {a : Addr} {n : Nat} {cs : List Value} (h : w.cells? base a n = some cs) : cs.length = n ∧ ∀ i u, cs[i]? = some u → w.cell? (a.add i) = some u := by
 unfold World.cells? at h
 split at h
 ·refine ⟨by simpa using mapM_some_length h, fun i u hu => ?_⟩
  have hl := mapM_some_length h
  have hi : i < cs.length := (List.getElem?_eq_some_iff.1 hu).1
  have := mapM_some_get h i i (by rw [List.getElem?_range]; simp at hl; omega)
  rw [this, hu]
 ·cases h
theorem add_add (a : Addr) (i j : Nat) : (a.add i).add j = a.add (i + j) := by
 unfold Addr.add
 by_cases hi : i = 0 <;> by_cases hj : j = 0 <;> simp [hi, hj, Nat.add_assoc]
theorem opn_slice {α : Type} {e : TypeId} {d : Kd α} {wf : Nat → α → Prop} (ht : P.underlying t = some (.slice e)) (hs : P.cellsOf t = 1) (O : Opn P e d wf) :
  Opn P t (Kd.slice e d) (fun n xs => xs.length < n ∧ ∀ a ∈ xs, wf n a) where
 sz := hs.symm
 mono := fun n m a h h' => ⟨Nat.lt_of_lt_of_le h'.1 h, fun x hx => O.mono n m x h (h'.2 x hx)⟩
 op := fun enc w base spare held fuel cs x h => by
  rcases DataW.trod_slice ht h with ⟨rfl, rfl⟩ | ⟨a, len, cap, elems, rest, n, _, rfl, rfl, hb, hl, hm, hlen, hel, hsp, hns⟩
  ·exact ⟨[], ⟨none, 0, rfl, Nat.le_refl _, Kd.C_nil _ _⟩, by simp [Rows.uptoBulk], by simp⟩
  ·have each : ∀ i, i < len → ∃ y, elems[i]? = some y ∧ ∃ cs', w.cells? base (a.add (i * P.cellsOf e)) (P.cellsOf e) = some cs' ∧ ∃ v, d.K w v cs' ∧ wf (Rows.uptoBulk y.1) v := by
    intro i hi
    have h1 := hel i hi
    have h2 : elems[i]? = some (elems[i]'(by omega)) := List.getElem?_eq_getElem (by omega)
    rw [h2, Option.bind_eq_some_iff] at h1
    obtain ⟨cs', hc, ht'⟩ := h1
    obtain ⟨v, hv, hw⟩ := O.op enc w base spare held n cs' _ ht'
    exact ⟨_, h2, cs', hc, v, hv, hw⟩
   have ex : ∀ m, m ≤ len → ∃ xs : List α, xs.length = m ∧ ∀ i v, xs[i]? = some v → ∃ y, elems[i]? = some y ∧ ∃ cs', w.cells? base (a.add (i * P.cellsOf e)) (P.cellsOf e) = some cs' ∧ d.K w v cs' ∧ wf (Rows.uptoBulk y.1) v := by
    intro m
    induction m with
    | zero => exact fun _ => ⟨[], rfl, by simp⟩
    | succ m ih =>
     intro hm'
     obtain ⟨xs, hx, hg⟩ := ih (by omega)
     obtain ⟨y, hy, cs', hc, v, hv, hw⟩ := each m (by omega)
     refine ⟨xs ++ [v], by simp [hx], fun i u hu => ?_⟩
     by_cases hi : i < xs.length
     ·rw [List.getElem?_append_left hi] at hu
      exact hg i u hu
     ·rw [List.getElem?_append_right (by omega)] at hu
      have hi' : i = m := by
       have := (List.getElem?_eq_some_iff.1 hu).1
       simp at this
       omega
      subst hi'
      rw [hx, Nat.sub_self] at hu
      have : v = u := by simpa using hu
      subst this
      exact ⟨y, hy, cs', hc, hv, hw⟩
   obtain ⟨xs, hx, hg⟩ := ex len (Nat.le_refl _)
   have htot : Rows.uptoBulkAll (elems.map (·.1)) + 1 ≤ Rows.uptoBulk (DataW.slice (elems.map (·.1)) (rest.map (·.1))) := by
    simp only [Rows.uptoBulk]
    omega
   refine ⟨xs, ⟨some a, cap, by rw [hx], by omega, ⟨rfl, by unfold maxLen at hm; omega, fun _ => ⟨a, rfl, fun j p hp => ?_⟩⟩⟩, ?_, ?_⟩
   ·obtain ⟨y, hy, cs', hc, hk, hw⟩ := hg j p hp
    obtain ⟨g1, g2⟩ := cells_get hc
    refine ⟨cs', by rw [g1, O.sz], hk, fun i u hu => ?_⟩
    have := g2 i u hu
    rw [add_add] at this
    rw [O.sz]
    exact this
   ·have h1 := bulk_len (elems.map (·.1))
    simp only [List.length_map, hlen] at h1
    rw [hx]
    exact Nat.lt_of_lt_of_le (Nat.lt_succ_of_le h1) htot
   ·intro v hv
    obtain ⟨i, hi⟩ := List.getElem?_of_mem hv
    obtain ⟨y, hy, _, _, _, hw⟩ := hg i v hi
    refine O.mono _ _ _ ?_ hw
    have hmem : y.1 ∈ elems.map (·.1) := List.mem_map_of_mem (List.mem_of_getElem? hy)
    exact Nat.le_trans (bulk_mem _ _ hmem) (Nat.le_of_succ_le htot)
end
end Go.Proofs.Ytdomeeaaidjmpaa.PA
namespace Go.Proofs.Ytdomeeaaidjmpaa.PA
open Go.RowKit Go.Proofs.YtdomeeaaidjmpaaW.PrintWords Go.Proofs.YtdomeeaaidjmpaaW.PrintLast Go.Proofs.YtdomeeaaidjmpaaW.PrintMore
attribute [local go_sem] max2_int min2_int max_two min_two max_three min_three max_four min_four
set_option linter.unusedVariables false
set_option linter.unusedSimpArgs false
open Go.Sort
def mergeP : List ByteArray → List ByteArray → List ByteArray
 | [], b => b
 | a, [] => a
 | a :: s, b :: t => if ltP b a = true then b :: mergeP (a :: s) t else a :: mergeP s (b :: t)
termination_by x y => x.length + y.length
theorem merge_nil_left (b : List ByteArray) : mergeP [] b = b := by rw [mergeP]
theorem merge_nil_right (a : List ByteArray) : mergeP a [] = a := by
 cases a with
 | nil => rw [mergeP]
 | cons x s => rw [mergeP]; simp
theorem merge_ok : ∀ (m : Nat) (a b : List ByteArray), a.length + b.length = m → SortedL ltP a → SortedL ltP b → StP ltP (a ++ b) (mergeP a b) ∧ SortedL ltP (mergeP a b) := by
 intro m
 induction m with
 | zero =>
  intro a b hm ha hb
  have e1 : a = [] := List.length_eq_zero_iff.1 (by omega)
  subst e1
  rw [merge_nil_left]
  exact ⟨StP.refl _, hb⟩
 | succ m ih =>
  intro a b hm ha hb
  cases a with
  | nil =>
   rw [merge_nil_left]
   exact ⟨StP.refl _, hb⟩
  | cons x s =>
   cases b with
   | nil =>
    rw [merge_nil_right, List.append_nil]
    exact ⟨StP.refl _, ha⟩
   | cons y t =>
    have ha2 := List.pairwise_cons.1 ha
    have hb2 := List.pairwise_cons.1 hb
    rw [mergeP]
    by_cases h : ltP y x = true
    ·rw [if_pos h]
     have hi := ih (x :: s) t (by simp at hm ⊢; omega) ha hb2.2
     have hall : ∀ z ∈ x :: s, ltP y z = true := fun z hz => by
      rcases List.mem_cons.1 hz with rfl | hz
      ·exact h
      ·apply Classical.byContradiction
       intro hn
       have := swoP.ntrans y z x (by simpa using hn) (ha2.1 z hz)
       rw [this] at h
       exact absurd h (by decide)
     constructor
     ·have h1 := StP.app (StP.swap (x :: s) [y] swoP (fun z hz w hw => by rw [List.mem_singleton.1 hw]; exact hall z hz)) (StP.refl (lt := ltP) t)
      have h2 := StP.app (StP.refl (lt := ltP) [y]) hi.1
      have h3 := h1.trans (by simpa using h2)
      simpa using h3
     ·refine List.pairwise_cons.2 ⟨fun z hz => ?_, hi.2⟩
      have hz2 := hi.1.1.mem_iff.1 hz
      rcases List.mem_append.1 hz2 with hz2 | hz2
      ·exact anti swoP (hall z hz2)
      ·exact hb2.1 z hz2
    ·rw [if_neg h]
     have h' : ltP y x = false := by simpa using h
     have hi := ih s (y :: t) (by simp at hm ⊢; omega) ha2.2 hb
     constructor
     ·exact StP.app (StP.refl (lt := ltP) [x]) hi.1
     ·refine List.pairwise_cons.2 ⟨fun z hz => ?_, hi.2⟩
      have hz2 := hi.1.1.mem_iff.1 hz
      rcases List.mem_append.1 hz2 with hz2 | hz2
      ·exact ha2.1 z hz2
      ·rcases List.mem_cons.1 hz2 with rfl | hz2
       ·exact h'
       ·exact swoP.ntrans z y x (hb2.1 z hz2) h'
theorem rmerge_f : ∀ (m : Nat) (a b out : List ByteArray) (k : Nat), a.length + b.length = m → out.length + m < 1000000000 → (∀ x ∈ a, x.size ≤ 1048576) → (∀ x ∈ b, x.size ≤ 1048576) → 3000010 + 2 * m ≤ k → remoraref13_Sort.l0 k a b out = some (out ++ mergeP a b) := by
 intro m
 induction m with
 | zero =>
  intro a b out k hm ho _ _ hk
  obtain ⟨k, rfl⟩ : ∃ j, k = j + 1 + 1 := ⟨k - 2, by omega⟩
  have e1 : a = [] := List.length_eq_zero_iff.1 (by omega)
  have e2 : b = [] := List.length_eq_zero_iff.1 (by omega)
  subst e1 e2
  rw [remoraref13_Sort.l0, if_neg (by decide), remoraref13_Sort.j1, if_neg (by decide), if_pos (by first | omega | (simp; done) | (simp; omega)), Option.bind_some, if_pos (by first | omega | (simp; done) | (simp; omega)), merge_nil_left]
  simp
 | succ m ih =>
  intro a b out k hm ho ha hb hk
  obtain ⟨k, rfl⟩ : ∃ j, k = j + 1 + 1 := ⟨k - 2, by omega⟩
  cases a with
  | nil =>
   simp only [List.length_nil, Nat.zero_add] at hm
   rw [remoraref13_Sort.l0, if_neg (by simp), remoraref13_Sort.j1, if_neg (by decide), if_pos (by first | omega | (simp; done) | (simp; omega)), Option.bind_some, if_pos (by first | omega | (simp; done) | (simp; omega)), merge_nil_left]
   simp
  | cons x s =>
   cases b with
   | nil =>
    simp only [List.length_nil, List.length_cons, Nat.add_zero] at hm
    rw [remoraref13_Sort.l0, if_pos (by first | omega | (simp; done) | (simp; omega)), show decide ((([] : List ByteArray).length : Int) > 0) = false from rfl, remoraref13_Sort.j1, if_neg (by decide), if_pos (by first | omega | (simp; done) | (simp; omega)), Option.bind_some, if_pos (by first | omega | (simp; done) | (simp; omega)), merge_nil_right]
    simp
   | cons y t =>
    simp only [List.length_cons] at hm
    have r1 : rdOf ByteArray.empty (y :: t) 0 = y := rfl
    have r2 : rdOf ByteArray.empty (x :: s) 0 = x := rfl
    rw [remoraref13_Sort.l0, if_pos (by first | omega | (simp; done) | (simp; omega)), show decide (((y :: t).length : Int) > 0) = true from decide_eq_true (by first | omega | (simp; done) | (simp; omega)), remoraref13_Sort.j1, if_pos rfl, if_pos (by first | omega | (simp; done) | (simp; omega)), if_pos (by first | omega | (simp; done) | (simp; omega)), r1, r2, rless_f y x (hb y (by simp)) (ha x (by simp)) k (by omega), Option.bind_some, mergeP]
    by_cases h : ltP y x = true
    ·have h' : decide (cmpL (splitL y) (splitL x) < 0) = true := h
     rw [if_pos h', if_pos h, if_pos (by omega), if_pos (by first | omega | (simp; done) | (simp; omega))]
     rw [show (y :: t).drop (1 : Int).toNat = t from rfl, ih (x :: s) t (out ++ [y]) k (by first | omega | (simp; done) | (simp; omega)) (by first | omega | (simp; done) | (simp; omega)) ha (fun z hz => hb z (by simp [hz])) (by omega)]
     simp
    ·have h' : ¬ decide (cmpL (splitL y) (splitL x) < 0) = true := h
     rw [if_neg h', if_neg h, if_pos (by omega), if_pos (by first | omega | (simp; done) | (simp; omega))]
     rw [show (x :: s).drop (1 : Int).toNat = s from rfl, ih s (y :: t) (out ++ [x]) k (by first | omega | (simp; done) | (simp; omega)) (by first | omega | (simp; done) | (simp; omega)) (fun z hz => ha z (by simp [hz])) hb (by omega)]
     simp
theorem rsort_f : ∀ (m : Nat) (l : List ByteArray) (k : Nat), l.length ≤ m → m < 100000000 → (∀ x ∈ l, x.size ≤ 1048576) → 3000020 + 3 * m ≤ k → ∃ r, remoraref13_Sort.f k l = some r ∧ StP ltP l r ∧ SortedL ltP r := by
 intro m
 induction m with
 | zero =>
  intro l k hl _ _ hk
  obtain ⟨k, rfl⟩ : ∃ j, k = j + 1 := ⟨k - 1, by omega⟩
  have e1 : l = [] := List.length_eq_zero_iff.1 (by omega)
  subst e1
  exact ⟨[], by rw [remoraref13_Sort.f]; rfl, StP.refl _, List.Pairwise.nil⟩
 | succ m ih =>
  intro l k hl hm hs hk
  obtain ⟨k, rfl⟩ : ∃ j, k = j + 1 := ⟨k - 1, by omega⟩
  by_cases h2 : l.length < 2
  ·refine ⟨l, ?_, StP.refl _, ?_⟩
   ·rw [remoraref13_Sort.f, if_pos (by omega), if_pos (by first | omega | (simp; done) | (simp; omega))]
    rfl
   ·cases l with
    | nil => exact List.Pairwise.nil
    | cons x t =>
     have : t = [] := List.length_eq_zero_iff.1 (by simp at h2; omega)
     rw [this]
     exact List.pairwise_singleton _ _
  ·obtain ⟨h, hh⟩ : ∃ h : Nat, h = l.length / 2 := ⟨_, rfl⟩
   have hw : wrap64 ((l.length : Int) / 2) = (h : Int) := by rw [wr64 _ (by omega) (by omega)]; omega
   have h0 : 1 ≤ h := by omega
   have h1 : h < l.length := by omega
   obtain ⟨r1, e1, s1, t1⟩ := ih (l.take h) k (by rw [List.length_take]; omega) (by omega) (fun x hx => hs x (List.mem_of_mem_take hx)) (by omega)
   obtain ⟨r2, e2, s2, t2⟩ := ih (l.drop h) k (by rw [List.length_drop]; omega) (by omega) (fun x hx => hs x (List.mem_of_mem_drop hx)) (by omega)
   have m1 : r1.length = h := by rw [s1.len, List.length_take]; omega
   have m2 : r2.length = l.length - h := by rw [s2.len, List.length_drop]
   have hmo := merge_ok _ r1 r2 rfl t1 t2
   refine ⟨mergeP r1 r2, ?_, ?_, hmo.2⟩
   ·rw [remoraref13_Sort.f, if_neg (by omega), hw, if_pos (by omega), if_pos (by omega), Int.toNat_natCast, e1, Option.bind_some, e2, Option.bind_some, rmerge_f _ r1 r2 [] k rfl (by first | omega | (simp; done) | (simp; omega)) (fun x hx => hs x (List.mem_of_mem_take (s1.1.mem_iff.1 hx))) (fun x hx => hs x (List.mem_of_mem_drop (s2.1.mem_iff.1 hx))) (by omega)]
    rfl
   ·have := (s1.app s2).trans hmo.1
    rwa [List.take_append_drop] at this
theorem great_f : ∀ (m : Nat) (l : List ByteArray) (i k : Nat), l.length - i = m → l.length ≤ 9223372036854775807 → i ≤ l.length → m + 1 ≤ k → ∃ b, remoralaw13_great.l0 k l (i : Int) = some b ∧ (b = false → l.length ≤ 300 ∧ ∀ j (h : j < l.length), i ≤ j → l[j].size ≤ 4000) := by
 intro m
 induction m with
 | zero =>
  intro l i k hm hl hi hk
  obtain ⟨k, rfl⟩ : ∃ j, k = j + 1 := ⟨k - 1, by omega⟩
  refine ⟨decide ((l.length : Int) > 300), ?_, fun h => ⟨by have := of_decide_eq_false h; omega, fun j h hj => by omega⟩⟩
  rw [remoralaw13_great.l0, if_neg (by omega)]
 | succ m ih =>
  intro l i k hm hl hi hk
  obtain ⟨k, rfl⟩ : ∃ j, k = j + 1 := ⟨k - 1, by omega⟩
  have hlt : i < l.length := by omega
  rw [remoralaw13_great.l0, if_pos (by omega)]
  try rw [if_pos (by omega)]
  try rw [if_pos (by omega)]
  rw [rdOf_get l i hlt]
  by_cases h : (l[i]).size > 4000
  ·refine ⟨true, ?_, fun h => absurd h (by decide)⟩
   rw [if_pos (by omega)]
  ·obtain ⟨b, e, h2⟩ := ih l (i + 1) k (by omega) hl (by omega) (by omega)
   refine ⟨b, ?_, fun hb => ⟨(h2 hb).1, fun j hj hij => ?_⟩⟩
   ·rw [if_neg (by omega), wr64 _ (by omega) (by omega)]
    exact e
   ·by_cases hij2 : i = j
    ·subst hij2
     omega
    ·exact (h2 hb).2 j hj (by omega)
theorem pathSorts_f (l : List ByteArray) (hl : l.length ≤ 9223372036854775807) (k : Nat) (hk : l.length + 4000000 ≤ k) : remoralaw13_PathSorts.f k l = some true := by
 obtain ⟨b, e, h2⟩ := great_f _ l 0 k rfl hl (by omega) (by omega)
 have e' : remoralaw13_great.f k l = some b := e
 rw [remoralaw13_PathSorts.f, e', Option.bind_some]
 cases b with
 | true => rw [if_pos rfl]
 | false =>
  rw [if_neg (by decide)]
  obtain ⟨h300, h4⟩ := h2 rfl
  have hs : ∀ x ∈ l, x.size ≤ 1048576 := fun x hx => by
   obtain ⟨j, hj, rfl⟩ := List.mem_iff_getElem.1 hx
   have := h4 j hj (Nat.zero_le _)
   omega
  obtain ⟨r, e3, s3, t3⟩ := rsort_f l.length l k (Nat.le_refl _) (by omega) hs (by omega)
  have hs2 := sortB_ok l
  have heq : r = sortB l := stp_unique swoP r (sortB l) t3 hs2.2 (s3.symm.trans hs2.1)
  subst heq
  have hlen : (sortB l).length = l.length := s3.len
  rw [path_Sort.f, if_pos ⟨by omega, hs⟩, Option.bind_some, e3, Option.bind_some, texts_f _ _ k (by omega) (by omega), Option.bind_some, decide_eq_true rfl, if_pos rfl, awake13 k (by omega)]
  rfl
theorem pathSorts_law (W : World) (A0 : Option Addr) (c0 : Nat) (x0 : List ByteArray) (hC0 : Kd.C Kd.string W A0 x0.length x0) (hL0 : x0.length ≤ c0) (hw0 : ∃ n, x0.length < n ∧ ∀ a ∈ x0, a.size < n ∧ a.size ≤ maxLen) :
  Calls Try.prog 9 #[.slice A0 x0.length c0] W fun e w' => e = .returned (.bool true) ∧ Below W.heap.size W w' :=
 remoralaw13_PathSorts.calls (x0.length + 4000000) A0 c0 x0 true W hC0 hL0 (pathSorts_f x0 hC0.2.1 _ (Nat.le_refl _))
end Go.Proofs.Ytdomeeaaidjmpaa.PA
namespace Go.Proofs.Ytdomeeaaidjmpaa.pathSortsRow
open Go.ChangeShapes Go.WideShapes Go.ChangeAt Go.RowKit Go.Proofs.Ytdomeeaaidjmpaa.PA Go.Proofs.YtdomeeaaidjmpaaW.PrintWords Go.Proofs.YtdomeeaaidjmpaaW.PrintLast Go.Proofs.YtdomeeaaidjmpaaW.PrintMore
open Go.ChangeMaps (open_string shut_string)
theorem own : ownKnob Try.prog.godebug = none := by kernel_rfl
theorem laidOut : laidOutB Try.prog = true := by kernel_rfl
set_option linter.unusedSimpArgs false in
set_option maxHeartbeats 1000000 in
set_option maxRecDepth 100000 in
theorem lifted (os : Os) (started : os.Started) (H : Type) (enc : TypeId × Value → H) :
  ReturnsInHanded {} Try.checked os 9 .any (Rows.pathSortsSpec.pre6 enc Try.prog Try.f9 Rows.pathSortsRow.domain false) (Rows.pathSortsSpec.post enc Try.prog Try.f9 false true false false) := by
 refine returnsInHanded_of_change_sized (C := Try.checked) own started (by kernel_rfl) Try.func9
  (ChangeSpec.witness6 (enc := enc) (C := Try.checked) false ⟨#[], #[.slice none 0 0], []⟩ 8 (by kernel_rfl) (by kernel_rfl) (by kernel_rfl) (by kernel_rfl)) ?_
 intro W base args ds gs before hval0 hW hcnd hsz0 _
 have hval : ∀ (j : Nat) t v, Try.f9.params[j]? = some t → args[j]? = some v → Value.okWide Try.prog W .any base t v := hval0
 have hW' := hW
 obtain ⟨p, q, hA0, hV, rfl, hfz, hnd⟩ := hW
 have hA : DataW.TrodAll enc Try.prog W 0 (fun _ => true) true Try.f9.params.toList args.toList ds p := hA0
 rw [Try.params9] at hA hval
 obtain ⟨v0, vs0, d0, ds0, p0, q0, hargs, rfl, rfl, h0, r0⟩ := trodAll_cons hA
 obtain ⟨rfl, rfl, rfl⟩ := trodAll_nil r0
 obtain rfl : args = #[v0] := by cases args; simp_all
 obtain ⟨rfl, rfl⟩ := trodVars_none hV
 obtain ⟨A0, l0, c0, rfl⟩ := okWide_slice Try.underlying22 (hval 0 22 v0 rfl rfl)
 have k0 := h0
 have lt0 : ∀ x ∈ p0, x.block < W.heap.size := by obtain ⟨m, hm⟩ := k0; exact DataW.trod_lt m _ _ _ hm
 obtain ⟨fu0, hf0⟩ := h0
 obtain ⟨x0, hk0, hw0⟩ := (show Opn Try.prog 22 (Kd.slice 9 Kd.string) (fun n x => x.length < n ∧ ∀ a ∈ x, a.size < n ∧ a.size ≤ maxLen) from (opn_slice Try.underlying22 (by kernel_rfl) (opn_string Try.underlying9 (by kernel_rfl)))).op enc W 0 _ true fu0 _ _ hf0
 obtain ⟨A_, c_, e0, hL0, hC0⟩ := hk0
 simp only [Value.cells, Array.toList, List.cons.injEq, Value.slice.injEq, and_true] at e0
 obtain ⟨rfl, rfl, rfl⟩ := e0
 refine (pathSorts_law W A0 c0 x0 hC0 hL0 ⟨Rows.uptoBulk d0, hw0⟩).mono fun e W' ⟨he, bel⟩ => ?_
 subst he
 exact ⟨_, rfl, _, _, _, [], _, [], hW', trodAll_mk1 (shut_bool Try.underlying4 _), (trodAll_cons_mk (Below.trod laidOut (by kernel_rfl) (of_decide_eq_true (by kernel_rfl)) k0 bel lt0) trodAll_mk0), rfl, bel.frame _, fun h => by cases h⟩
theorem over : Rows.pathSortsRow.holds Try.pinned (OpenSpec.ofChange Rows.pathSortsSpec) :=
 OpenClaim.holds_of_wide 9 Try.f9 rfl rfl rfl rfl rfl rfl rfl ⟨rfl, rfl, rfl, rfl, rfl⟩ rfl rfl rfl rfl rfl (by kernel_rfl) Try.func9 (by kernel_rfl)
  (of_decide_eq_true (by kernel_rfl)) (by unfold Func.isWrapper; first | (rw [if_pos (by decide +kernel)]; kernel_rfl) | (rw [if_neg (by decide +kernel)]; exact ⟨rfl, rfl⟩))
  (fun os started H enc _ => lifted os started H enc)
theorem proved : Rows.PathSortsSaid := over
#print axioms proved
end Go.Proofs.Ytdomeeaaidjmpaa.pathSortsRow
namespace Go.Proofs.Ytdomeeaaidjmpaa
theorem pathSorts_holds : Rows.PathSortsSaid := pathSortsRow.proved
end Go.Proofs.Ytdomeeaaidjmpaa
namespace Go.Proofs.Ytdomeeaaidjmpaa.PA
end Go.Proofs.Ytdomeeaaidjmpaa.PA
