/- Plain: what the loops of chapter 13 answer over lists of parts. -/
import Derived.Test.YtioehkeocddniaaDoorNG1
import Derived.Test.YtioehkeocddniaaDoorNG3
import Derived.Test.YtioehkeocddniaaDoorNG2
import Derived.Shelf.Strings.OnBuilder
import Derived.Lib.Join
import Derived.Test.YtioehkeocddniaaDoorNG4
import Derived.Test.YtioehkeocddniaaDoorNG5
namespace Go.Proofs.YtioehkeocddniaaDoor.PA
open Go.RowKit Go.Proofs.YtioehkeocddniaaDoorW.PrintWords Go.Proofs.YtioehkeocddniaaDoorW.PrintLast Go.Proofs.YtioehkeocddniaaDoorW.PrintMore
attribute [local go_sem] max2_int min2_int max_two min_two max_three min_three max_four min_four   -- for this text's walks alone
set_option linter.unusedVariables false
set_option linter.unusedSimpArgs false
end Go.Proofs.YtioehkeocddniaaDoor.PA
namespace Go.Proofs.YtioehkeocddniaaDoor.PA
open Go.RowKit Go.Proofs.YtioehkeocddniaaDoorW.PrintWords Go.Proofs.YtioehkeocddniaaDoorW.PrintLast Go.Proofs.YtioehkeocddniaaDoorW.PrintMore
attribute [local go_sem] max2_int min2_int max_two min_two max_three min_three max_four min_four
set_option linter.unusedVariables false
set_option linter.unusedSimpArgs false
def partB (s : ByteArray) : Bool := !(s.toList == []) && decide ((s.size : Int) ≤ 48) && !(s.toList == [46]) && !(s.toList == [46, 46]) && decide (Lib.indexByte s.data.toList 0 < 0)
theorem part_f (s : ByteArray) : path_part.f s = some (partB s) := by
 unfold path_part.f partB
 by_cases h1 : s.toList = ([] : List UInt8)
 ·rw [if_pos h1, beq_iff_eq.mpr h1]
  rfl
 ·rw [if_neg h1, beq_eq_false_iff_ne.mpr h1]
  by_cases h2 : (s.size : Int) ≤ 48
  ·rw [if_pos h2, decide_eq_true h2]
   by_cases h3 : s.toList = ([46] : List UInt8)
   ·rw [if_pos h3, beq_iff_eq.mpr h3]
    rfl
   ·rw [if_neg h3, beq_eq_false_iff_ne.mpr h3]
    by_cases h4 : s.toList = ([46, 46] : List UInt8)
    ·rw [if_pos h4, beq_iff_eq.mpr h4]
     rfl
    ·rw [if_neg h4, beq_eq_false_iff_ne.mpr h4]
     rfl
  ·rw [if_neg h2, decide_eq_false h2]
   rfl
def rightB (p : ByteArray) : Bool := (splitL p).all partB && decide (((splitL p).length : Int) ≤ 12) && decide ((p.size : Int) ≤ 200)
theorem right_l (p : ByteArray) (l : List ByteArray) (hl : l.length < 9223372036854775807) : ∀ k j : Nat, j ≤ l.length → l.length - j < k → path_Right.l0 k p l l (l.length : Int) (j : Int) = some ((l.drop j).all partB && decide ((l.length : Int) ≤ 12) && decide ((p.size : Int) ≤ 200))
 | 0, j, _, h => by omega
 | k + 1, j, hj, h => by
  unfold path_Right.l0
  by_cases hlt : j < l.length
  ·rw [if_pos (show (j : Int) < (l.length : Int) by omega), if_pos (show 0 ≤ (j : Int) by omega), if_pos (show (j : Int) < (l.length : Int) by omega), part_f]
   have e : rdOf ByteArray.empty l (j : Int) = l[j]'hlt := by
    simp [rdOf, hlt]
   rw [e, List.drop_eq_getElem_cons hlt]
   show (if partB (l[j]'hlt) = true then _ else _) = _
   cases hp : partB (l[j]'hlt) with
   | true =>
    rw [if_pos rfl, wr64 _ (by omega) (by omega)]
    have ih := right_l p l hl k (j + 1) (by omega) (by omega)
    rw [show ((j : Int) + 1) = ((j + 1 : Nat) : Int) by omega, ih, List.all_cons, hp, Bool.true_and]
   | false =>
    rw [if_neg (by decide), List.all_cons, hp]
    rfl
  ·have hje : j = l.length := by omega
   rw [if_neg (show ¬ (j : Int) < (l.length : Int) by omega), hje, List.drop_length]
   by_cases h12 : (l.length : Int) ≤ 12
   ·rw [if_pos h12, decide_eq_true h12]
    rfl
   ·rw [if_neg h12, decide_eq_false h12]
    rfl
theorem splitL_len (s : ByteArray) : (splitL s).length ≤ s.size + 1 := by
 have := splitTo_len s s.size
 unfold splitL
 split
 ·exact Nat.zero_le _
 ·simp
  omega
theorem right_f (p : ByteArray) (hs : p.size < 4398046511104) (k : Nat) (hk : p.size + 1 < k) : path_Right.f k p = some (rightB p) := by
 unfold path_Right.f path_Split.f
 rw [if_pos hs]
 have h := splitL_len p
 show path_Right.l0 k p (splitL p) (splitL p) ((splitL p).length : Int) 0 = _
 exact right_l p (splitL p) (by omega) k 0 (by omega) (by omega)
end Go.Proofs.YtioehkeocddniaaDoor.PA
namespace Go.Proofs.YtioehkeocddniaaDoor.PA
open Go.RowKit Go.Proofs.YtioehkeocddniaaDoorW.PrintWords Go.Proofs.YtioehkeocddniaaDoorW.PrintLast Go.Proofs.YtioehkeocddniaaDoorW.PrintMore
attribute [local go_sem] max2_int min2_int max_two min_two max_three min_three max_four min_four
set_option linter.unusedVariables false
set_option linter.unusedSimpArgs false
open Go.Shelf
def Tryd.lays156_ren : Go.Shelf.Ren := ⟨fun | 156 => 71 | 165 => 80 | 166 => 81 | 169 => 82 | 240 => 91 | 241 => 92 | 276 => 95 | 277 => 96 | n => n, fun | 31 => 53 | 9 => 9 | 3 => 3 | 4 => 4 | 0 => 0 | 20 => 20 | 72 => 92 | 76 => 96 | 70 => 90 | 37 => 87 | 75 => 95 | 127 => 103 | 164 => 107 | 5 => 5 | 80 => 98 | n => n, fun | n => n⟩
theorem Tryd.lays156 : Go.Proofs.Lays.n156 Tryd.prog Tryd.lays156_ren := {
 mixed := by kernel_rfl
 f156 := Tryd.func71.trans (congrArg some (by kernel_rfl))
 f165 := Tryd.func80.trans (congrArg some (by kernel_rfl))
 f166 := Tryd.func81.trans (congrArg some (by kernel_rfl))
 f169 := Tryd.func82.trans (congrArg some (by kernel_rfl))
 f240 := Tryd.func91.trans (congrArg some (by kernel_rfl))
 f241 := Tryd.func92.trans (congrArg some (by kernel_rfl))
 f276 := Tryd.func95.trans (congrArg some (by kernel_rfl))
 f277 := Tryd.func96.trans (congrArg some (by kernel_rfl))
 t0 := Tryd.underlying0
 a0 := Tryd.isAgg0
 z0 := Tryd.sizeOf0
 v0 := Tryd.zeroValue0
 t3 := Tryd.underlying3
 a3 := Tryd.isAgg3
 z3 := Tryd.sizeOf3
 v3 := Tryd.zeroValue3
 t4 := Tryd.underlying4
 a4 := Tryd.isAgg4
 z4 := Tryd.sizeOf4
 v4 := Tryd.zeroValue4
 t9 := Tryd.underlying9
 a9 := Tryd.isAgg9
 z9 := Tryd.sizeOf9
 v9 := Tryd.zeroValue9
 t20 := Tryd.underlying20
 a20 := Tryd.isAgg20
 z20 := Tryd.sizeOf20
 v20 := Tryd.zeroValue20
 t31 := Tryd.underlying53
 a31 := Tryd.isAgg53
 z31 := Tryd.sizeOf53
 v31 := Tryd.zeroValue53
 t37 := Tryd.underlying87
 a37 := Tryd.isAgg87
 z37 := Tryd.sizeOf87
 v37 := Tryd.zeroValue87
 t70 := Tryd.underlying90
 a70 := Tryd.isAgg90
 z70 := Tryd.sizeOf90
 v70 := Tryd.zeroValue90
 t72 := Tryd.underlying92
 a72 := Tryd.isAgg92
 z72 := Tryd.sizeOf92
 v72 := Tryd.zeroValue92
 t75 := Tryd.underlying95
 a75 := Tryd.isAgg95
 z75 := Tryd.sizeOf95
 v75 := Tryd.zeroValue95
 t76 := Tryd.underlying96
 a76 := Tryd.isAgg96
 z76 := Tryd.sizeOf96
 v76 := Tryd.zeroValue96
 t127 := Tryd.underlying103
 a127 := Tryd.isAgg103
 z127 := Tryd.sizeOf103
 v127 := Tryd.zeroValue103
 t164 := Tryd.underlying107
 a164 := Tryd.isAgg107
 z164 := Tryd.sizeOf107
 v164 := Tryd.zeroValue107 }
theorem Tryd.Builder_Extra_156 : Builder.Extra Tryd.prog Tryd.lays156_ren := {
 sizeBuilder := by kernel_rfl
 liesBuilder := by kernel_rfl
 t5 := Tryd.underlying5
 a5 := Tryd.isAgg5
 z5 := Tryd.sizeOf5
 v5 := Tryd.zeroValue5
 infoByte := by kernel_rfl
 cellsByte := by kernel_rfl
 sizeByte := by kernel_rfl
 neB5 := by decide }
open Go.RowKit in
theorem Tryd.strings_Join_none (a : Option Addr) (c : Nat) (sep : ByteArray) (w : World) :
  Calls Tryd.prog 71 #[.slice a 0 c, .string sep] w fun e w' => e = .returned (.string ⟨#[]⟩) ∧ w' = w := Any.strings_Join_none Tryd.lays156 Tryd.Builder_Extra_156 a c sep w
open Go.RowKit in
theorem Tryd.strings_Join (bk o c : Nat) (xs : List ByteArray) (sep : ByteArray) (w : World) (hcells : ∀ (j : Nat) x, xs[j]? = some x → w.cell? ⟨bk, o + j, none⟩ = some (.string x)) (hbk : bk < w.heap.size) (hN : xs.length ≤ 140737488355328) (hcap : xs.length ≤ c) (hlen : (Lib.join (xs.map (·.data.toList)) sep.data.toList).length ≤ 140737488355328) :
  Calls Tryd.prog 71 #[.slice (some ⟨bk, o, none⟩) xs.length c, .string sep] w fun e w' => e = .returned (.string ⟨(Lib.join (xs.map (·.data.toList)) sep.data.toList).toArray⟩) ∧ Below w.heap.size w w' := Any.strings_Join Tryd.lays156 Tryd.Builder_Extra_156 bk o c xs sep w hcells hbk hN hcap hlen
def joinB (l0 : List ByteArray) (a1 : ByteArray) : ByteArray := ⟨(Lib.join (l0.map (·.data.toList)) a1.data.toList).toArray⟩
def strings_Join.f (l0 : List ByteArray) (a1 : ByteArray) : Option ByteArray := if l0.length ≤ 140737488355328 ∧ (joinB l0 a1).size ≤ 140737488355328 then some (joinB l0 a1) else none
theorem strings_Join.calls (A0 : Option Addr) (c0 : Nat) (l0 : List ByteArray) (a1 : ByteArray) (r : ByteArray) (w : World) (hr0 : Kd.C Kd.string w A0 l0.length l0) (hc0 : l0.length ≤ c0) (h : strings_Join.f l0 a1 = some r) :
  Calls Tryd.prog 71 #[.slice A0 l0.length c0, .string a1] w fun e w' => e = .returned (.string r) ∧ Below w.heap.size w w' := by
 unfold strings_Join.f at h
 by_cases hs : l0.length ≤ 140737488355328 ∧ (joinB l0 a1).size ≤ 140737488355328
 ·rw [if_pos hs] at h
  obtain rfl := Option.some.inj h
  cases l0 with
  | nil =>
   refine (Tryd.strings_Join_none A0 c0 a1 w).mono ?_
   rintro e w' ⟨rfl, rfl⟩
   exact ⟨rfl, Below.refl _ _⟩
  | cons x t =>
   obtain ⟨ad, e, hc⟩ := hr0.2.2 (by simp)
   have hcell : ∀ (j : Nat) y, (x :: t)[j]? = some y → w.cell? (ad.add j) = some (.string y) := fun j y hy => by
    obtain ⟨cs, _, hK, hcs⟩ := hc j y hy
    have hK1 : cs = [.string y] := hK
    rw [hK1] at hcs
    have := hcs 0 _ rfl
    rw [show Kd.string.sz = 1 from rfl] at this
    simpa using this
   have h0 := hcell 0 x rfl
   have h0' : w.cell? ad = some (.string x) := h0
   have hsp : ad.spot = none := by
    cases hq : ad.spot with
    | none => rfl
    | some q =>
     rw [World.cell?] at h0'
     split at h0'
     ·rw [hq] at h0'
      simp at h0'
     ·simp at h0'
   obtain ⟨bk, o, sp⟩ := ad
   have hsp' : sp = none := hsp
   subst hsp'
   subst e
   have hlen : (Lib.join ((x :: t).map (·.data.toList)) a1.data.toList).length ≤ 140737488355328 := by
    have := hs.2
    rwa [joinB, ByteArray.size, List.size_toArray] at this
   exact Tryd.strings_Join bk o c0 (x :: t) a1 w (fun j y hy => by
    have := hcell j y hy
    have e2 : (⟨bk, o, none⟩ : Addr).add j = ⟨bk, o + j, none⟩ := by unfold Addr.add; split <;> simp_all
    rwa [e2] at this) (World.block_lt_of_cell? w ⟨bk, o, none⟩ h0') hs.1 hc0 hlen
 ·rw [if_neg hs] at h
  exact absurd h (by simp)
end Go.Proofs.YtioehkeocddniaaDoor.PA
namespace Go.Proofs.YtioehkeocddniaaDoor.PA
open Go.RowKit Go.Proofs.YtioehkeocddniaaDoorW.PrintWords Go.Proofs.YtioehkeocddniaaDoorW.PrintLast Go.Proofs.YtioehkeocddniaaDoorW.PrintMore
attribute [local go_sem] max2_int min2_int max_two min_two max_three min_three max_four min_four
set_option linter.unusedVariables false
set_option linter.unusedSimpArgs false
def spl : List UInt8 → List (List UInt8)
 | [] => [[]]
 | x :: t => if x = 47 then [] :: spl t else match spl t with
  | [] => [[x]]
  | h :: r => (x :: h) :: r
theorem spl_ne : ∀ s, spl s ≠ []
 | [] => by simp [spl]
 | x :: t => by
  rw [spl]
  split
  ·simp
  ·split <;> simp
theorem spl_cons (x : UInt8) (t : List UInt8) (h : x ≠ 47) : ∃ a r, spl t = a :: r ∧ spl (x :: t) = (x :: a) :: r := by
 cases hs : spl t with
 | nil => exact absurd hs (spl_ne t)
 | cons a r =>
  refine ⟨a, r, rfl, ?_⟩
  rw [spl, if_neg h, hs]
theorem spl_snoc47 : ∀ s, spl (s ++ [47]) = spl s ++ [[]]
 | [] => rfl
 | x :: t => by
  by_cases h : x = 47
  ·rw [List.cons_append, spl, if_pos h, spl, if_pos h, spl_snoc47 t, List.cons_append]
  ·obtain ⟨a, r, e1, e2⟩ := spl_cons x t h
   obtain ⟨a', r', e3, e4⟩ := spl_cons x (t ++ [47]) h
   rw [spl_snoc47 t, e1, List.cons_append] at e3
   rw [List.cons_append, e4, e2]
   have e5 := List.cons.inj e3
   rw [← e5.1, ← e5.2, List.cons_append]
theorem spl_snoc (c : UInt8) (hc : c ≠ 47) : ∀ (s : List UInt8) (L : List (List UInt8)) (x : List UInt8), spl s = L ++ [x] → spl (s ++ [c]) = L ++ [x ++ [c]]
 | [], L, x, h => by
  cases L with
  | nil =>
   have hx := (List.cons.inj (show ([[]] : List (List UInt8)) = [x] from h)).1
   rw [← hx]
   simp [spl, hc]
  | cons a r =>
   have h1 := (List.cons.inj (show ([[]] : List (List UInt8)) = a :: (r ++ [x]) from h)).2
   simp at h1
 | y :: t, L, x, h => by
  by_cases hy : y = 47
  ·rw [spl, if_pos hy] at h
   cases L with
   | nil =>
    have h1 := (List.cons.inj (show [] :: spl t = [x] from h)).2
    exact absurd h1 (spl_ne t)
   | cons a r =>
    have h1 := List.cons.inj (show [] :: spl t = a :: (r ++ [x]) from h)
    rw [List.cons_append, spl, if_pos hy, spl_snoc c hc t r x h1.2, h1.1]
    rfl
  ·obtain ⟨a, r, e1, e2⟩ := spl_cons y t hy
   rw [e2] at h
   cases L with
   | nil =>
    have h1 := List.cons.inj (show (y :: a) :: r = [x] from h)
    have h2 := spl_snoc c hc t [] a (by rw [e1, h1.2]; rfl)
    obtain ⟨a', r', e3, e4⟩ := spl_cons y (t ++ [c]) hy
    rw [h2] at e3
    have h3 := List.cons.inj (show [a ++ [c]] = a' :: r' from e3)
    rw [List.cons_append, e4, ← h3.1, ← h3.2, ← h1.1]
    rfl
   | cons b q =>
    have h1 := List.cons.inj (show (y :: a) :: r = b :: (q ++ [x]) from h)
    have h2 := spl_snoc c hc t (a :: q) x (by rw [e1, h1.2]; rfl)
    obtain ⟨a', r', e3, e4⟩ := spl_cons y (t ++ [c]) hy
    rw [h2] at e3
    have h3 := List.cons.inj (show a :: (q ++ [x ++ [c]]) = a' :: r' from e3)
    rw [List.cons_append, e4, ← h3.1, ← h3.2, ← h1.1]
    rfl
theorem join_two (x y : List UInt8) (r : List (List UInt8)) : Lib.join (x :: y :: r) [47] = x ++ 47 :: Lib.join (y :: r) [47] := by
 rw [Lib.join_cons, Lib.join_cons]
 simp [Lib.joinTail]
theorem join_spl : ∀ s, Lib.join (spl s) [47] = s
 | [] => rfl
 | x :: t => by
  have ih := join_spl t
  by_cases h : x = 47
  ·rw [spl, if_pos h]
   cases hs : spl t with
   | nil => exact absurd hs (spl_ne t)
   | cons a r => rw [join_two, ← hs, ih, h]; rfl
  ·obtain ⟨a, r, e1, e2⟩ := spl_cons x t h
   rw [e2]
   rw [e1] at ih
   cases r with
   | nil => rw [Lib.join_one] at ih ⊢; rw [ih]
   | cons b q => rw [join_two] at ih ⊢; rw [List.cons_append, ih]
theorem spl_parts : ∀ s, ∀ p ∈ spl s, (47 : UInt8) ∉ p
 | [] => by simp [spl]
 | x :: t => by
  intro p hp
  have ih := spl_parts t
  by_cases h : x = 47
  ·rw [spl, if_pos h] at hp
   rcases List.mem_cons.1 hp with h1 | h1
   ·rw [h1]; simp
   ·exact ih p h1
  ·obtain ⟨a, r, e1, e2⟩ := spl_cons x t h
   rw [e2] at hp
   rcases List.mem_cons.1 hp with h1 | h1
   ·rw [h1]
    intro hm
    rcases List.mem_cons.1 hm with h2 | h2
    ·exact h h2.symm
    ·exact ih a (by rw [e1]; exact List.mem_cons_self ..) h2
   ·exact ih p (by rw [e1]; exact List.mem_cons_of_mem _ h1)
theorem spl_none : ∀ p : List UInt8, (47 : UInt8) ∉ p → spl p = [p]
 | [], _ => rfl
 | x :: t, h => by
  have hx : x ≠ 47 := fun e => h (by rw [e]; exact List.mem_cons_self ..)
  have ih := spl_none t (fun hm => h (List.mem_cons_of_mem _ hm))
  rw [spl, if_neg hx, ih]
theorem spl_front : ∀ (p q : List UInt8), (47 : UInt8) ∉ p → spl (p ++ 47 :: q) = p :: spl q
 | [], q, _ => by rw [List.nil_append, spl, if_pos rfl]
 | x :: t, q, h => by
  have hx : x ≠ 47 := fun e => h (by rw [e]; exact List.mem_cons_self ..)
  have ih := spl_front t q (fun hm => h (List.mem_cons_of_mem _ hm))
  rw [List.cons_append, spl, if_neg hx, ih]
theorem spl_join : ∀ (l : List (List UInt8)), l ≠ [] → (∀ p ∈ l, (47 : UInt8) ∉ p) → spl (Lib.join l [47]) = l
 | [], h, _ => absurd rfl h
 | [p], _, h => by rw [Lib.join_one]; exact spl_none p (h p (List.mem_cons_self ..))
 | p :: q :: r, _, h => by
  rw [join_two, spl_front p _ (h p (List.mem_cons_self ..)), spl_join (q :: r) (by simp) (fun x hx => h x (List.mem_cons_of_mem _ hx))]
def toL (a : ByteArray) : List UInt8 := a.data.toList
theorem toL_inj {a b : ByteArray} (h : toL a = toL b) : a = b := by
 have := Array.toList_inj.1 (show a.data.toList = b.data.toList from h)
 exact ByteArray.ext this
theorem toL_size (a : ByteArray) : (toL a).length = a.size := by
 rw [toL, Array.length_toList]; rfl
theorem toL_extract (a : ByteArray) (i j : Nat) : toL (a.extract i j) = ((toL a).take j).drop i := by
 unfold toL
 rw [ByteArray.data_extract, Array.toList_extract, List.extract_eq_take_drop, List.drop_take]
theorem take_snoc (a : ByteArray) (k : Nat) (h : k < a.size) : (toL a).take (k + 1) = (toL a).take k ++ [UInt8.ofNat (bt a (k : Int)).toNat] := by
 have hl : k < (toL a).length := by rw [toL_size]; exact h
 rw [List.take_succ_eq_append_getElem hl]
 congr 2
 rw [bt, dif_pos (by simpa using h)]
 simp [toL]
 rfl
theorem u47 (b : Int) (h0 : 0 ≤ b) (h1 : b ≤ 255) : UInt8.ofNat b.toNat = 47 ↔ b = 47 := by
 constructor
 ·intro h
  have := congrArg UInt8.toNat h
  rw [UInt8.toNat_ofNat'] at this
  have e : (47 : UInt8).toNat = 47 := rfl
  rw [e] at this
  omega
 ·intro h; rw [h]; rfl
theorem splitTo_spl (a : ByteArray) : ∀ k, k ≤ a.size → spl ((toL a).take k) = (splitTo a k).1.map toL ++ [((toL a).take k).drop (splitTo a k).2]
 | 0, _ => rfl
 | k + 1, h => by
  have ih := splitTo_spl a k (by omega)
  have hr := bt_range a (k : Int)
  have hle := splitTo_le a k
  have hlen : ((toL a).take k).length = k := by rw [List.length_take, toL_size]; omega
  rw [take_snoc a k (by omega)]
  by_cases hb : bt a (k : Int) = 47
  ·rw [(u47 _ hr.1 (by have := hr.2; omega)).2 hb, spl_snoc47, ih, splitTo_hit a k hb, List.map_append, List.map_cons, List.map_nil, toL_extract]
   congr 1
   simp
   omega
  ·rw [spl_snoc _ (fun e => hb ((u47 _ hr.1 (by have := hr.2; omega)).1 e)) _ _ _ ih, splitTo_miss a k hb, List.drop_append_of_le_length (by rw [hlen]; exact hle)]
theorem split_spl (a : ByteArray) (h : a.size ≠ 0) : (splitL a).map toL = spl (toL a) := by
 have := splitTo_spl a a.size (Nat.le_refl _)
 have e : (toL a).take a.size = toL a := List.take_of_length_le (by rw [toL_size]; exact Nat.le_refl _)
 rw [e] at this
 rw [splitL, if_neg h, this, List.map_append, List.map_cons, List.map_nil, toL_extract, e]
theorem size_zero {a : ByteArray} (h : a.size = 0) : a = ⟨#[]⟩ := by
 apply toL_inj
 have : (toL a).length = 0 := by rw [toL_size]; exact h
 rw [List.length_eq_zero_iff.1 this]
 rfl
theorem toL_joinB (l : List ByteArray) : toL (joinB l ⟨#[47]⟩) = Lib.join (l.map toL) [47] := by
 unfold joinB toL
 rfl
theorem joinB_split (a : ByteArray) : joinB (splitL a) ⟨#[47]⟩ = a := by
 by_cases h : a.size = 0
 ·rw [splitL, if_pos h, size_zero h]; rfl
 ·apply toL_inj
  rw [toL_joinB, split_spl a h, join_spl]
theorem map_toL_inj {l m : List ByteArray} (h : l.map toL = m.map toL) : l = m := by
 induction l generalizing m with
 | nil => cases m with
  | nil => rfl
  | cons b t => simp at h
 | cons a s ih => cases m with
  | nil => simp at h
  | cons b t =>
   simp only [List.map_cons, List.cons.injEq] at h
   rw [toL_inj h.1, ih h.2]
theorem split_nil_iff (a : ByteArray) : splitL a = [] ↔ a.size = 0 := by
 rw [splitL]
 by_cases h : a.size = 0
 ·rw [if_pos h]; simp [h]
 ·rw [if_neg h]; simp [h]
theorem split_no47 (a : ByteArray) : ∀ p ∈ splitL a, (47 : UInt8) ∉ toL p := by
 by_cases h : a.size = 0
 ·rw [splitL, if_pos h]; simp
 ·intro p hp
  have := List.mem_map_of_mem (f := toL) hp
  rw [split_spl a h] at this
  exact spl_parts _ _ this
theorem split_joinB (l : List ByteArray) (h0 : ∀ p ∈ l, p.size ≠ 0) (h : ∀ p ∈ l, (47 : UInt8) ∉ toL p) : splitL (joinB l ⟨#[47]⟩) = l := by
 cases l with
 | nil => rfl
 | cons x t =>
  have hj := toL_joinB (x :: t)
  have hs := spl_join ((x :: t).map toL) (by simp) (fun p hp => by
   obtain ⟨q, hq, rfl⟩ := List.mem_map.1 hp
   exact h q hq)
  have hne : (joinB (x :: t) ⟨#[47]⟩).size ≠ 0 := by
   have hx := h0 x (List.mem_cons_self ..)
   rw [← toL_size, hj, List.map_cons, Lib.join_cons, List.length_append, toL_size]
   omega
  apply map_toL_inj
  rw [split_spl _ hne, hj, hs]
theorem joinB_to (a : ByteArray) (k : Nat) (hk : k ≤ a.size) (h : (splitTo a k).2 ≠ 0) : joinB (splitTo a k).1 ⟨#[47]⟩ = a.extract 0 ((splitTo a k).2 - 1) := by
 induction k with
 | zero => exact absurd rfl h
 | succ k ih =>
  by_cases hb : bt a (k : Int) = 47
  ·rw [splitTo_hit a k hb]
   apply toL_inj
   have hs := splitTo_spl a k (by omega)
   have := join_spl ((toL a).take k)
   rw [hs] at this
   rw [toL_joinB, List.map_append, List.map_cons, List.map_nil, toL_extract, this, toL_extract]
   simp
  ·rw [splitTo_miss a k hb] at h ⊢
   exact ih (by omega) h
end Go.Proofs.YtioehkeocddniaaDoor.PA
namespace Go.Proofs.YtioehkeocddniaaDoor.PA
open Go.RowKit Go.Proofs.YtioehkeocddniaaDoorW.PrintWords Go.Proofs.YtioehkeocddniaaDoorW.PrintLast Go.Proofs.YtioehkeocddniaaDoorW.PrintMore
attribute [local go_sem] max2_int min2_int max_two min_two max_three min_three max_four min_four
set_option linter.unusedVariables false
set_option linter.unusedSimpArgs false
theorem tl_eq (a b : ByteArray) : a.toList = b.toList ↔ a = b := by
 constructor
 ·intro h
  rw [ByteArray.toList_eq, ByteArray.toList_eq] at h
  exact toL_inj h
 ·intro h; rw [h]
theorem tl_beq (a b : ByteArray) : (a.toList == b.toList) = decide (a = b) := by
 by_cases h : a = b
 ·rw [decide_eq_true h, h]; exact beq_self_eq_true _
 ·rw [decide_eq_false h]; exact beq_eq_false_iff_ne.2 (fun e => h ((tl_eq a b).1 e))
theorem rdOf_get (l : List ByteArray) (i : Nat) (h : i < l.length) : rdOf ByteArray.empty l (i : Int) = l[i] := by
 simp [rdOf, h]
def sumS : List ByteArray → Nat
 | [] => 0
 | a :: t => a.size + sumS t
theorem sumS_app (a b : List ByteArray) : sumS (a ++ b) = sumS a + sumS b := by
 induction a with
 | nil => simp [sumS]
 | cons x t ih => simp only [List.cons_append, sumS, ih]; omega
theorem lens_sum (l : List ByteArray) : Lib.lens (l.map toL) = sumS l := by
 induction l with
 | nil => rfl
 | cons a t ih =>
  have := toL_size a
  simp only [Lib.lens, List.map_cons, List.sum_cons, sumS] at ih ⊢
  omega
theorem joinB_size (l : List ByteArray) : (joinB l ⟨#[47]⟩).size ≤ sumS l + l.length := by
 rw [← toL_size, toL_joinB]
 cases l with
 | nil => simp [Lib.join]
 | cons a t =>
  rw [List.map_cons, Lib.join_length, ← List.map_cons (f := toL), lens_sum]
  simp
  omega
theorem join_f (l : List ByteArray) (hs : sumS l + l.length < 70368744177664) : strings_Join.f l ⟨#[47]⟩ = some (joinB l ⟨#[47]⟩) := by
 have := joinB_size l
 rw [strings_Join.f, if_pos ⟨by omega, by omega⟩]
def sml (a : ByteArray) : Prop := a.size ≤ 1048576
theorem psplit_f (a : ByteArray) (h : sml a) : path_Split.f a = some (splitL a) := by
 unfold sml at h
 rw [path_Split.f, if_pos (by omega)]
end Go.Proofs.YtioehkeocddniaaDoor.PA
