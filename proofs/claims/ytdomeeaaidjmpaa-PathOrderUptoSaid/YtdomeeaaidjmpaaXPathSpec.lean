/- Plain: what the loops of chapter 13 answer over lists of parts. -/
import Derived.Test.YtdomeeaaidjmpaaPAfpathCommon
import Derived.Test.YtdomeeaaidjmpaaPAfpathDepth
import Derived.Test.YtdomeeaaidjmpaaPAfpathLess
import Derived.Test.YtdomeeaaidjmpaaPAfpathRel
import Derived.Test.YtdomeeaaidjmpaaPAfpathUnder
import Derived.Test.YtdomeeaaidjmpaaPAfremoralaw13awake
import Derived.Test.YtdomeeaaidjmpaaPAfremoralaw13texts
import Derived.Test.YtdomeeaaidjmpaaPAfremoraref13Common
import Derived.Test.YtdomeeaaidjmpaaPAfremoraref13Less
import Derived.Test.YtdomeeaaidjmpaaPAfremoraref13Rel
import Derived.Test.YtdomeeaaidjmpaaPAfremoraref13Split
import Derived.Test.YtdomeeaaidjmpaaPAfremoraref13Under
import Derived.Test.YtdomeeaaidjmpaaPAfremoraref13glue
import Derived.Test.YtdomeeaaidjmpaaPAfslicesComparestringstring
import Derived.Test.YtdomeeaaidjmpaaPAfslicesEqualstringstring
import Derived.Test.YtdomeeaaidjmpaaPAx0
import Derived.Test.YtdomeeaaidjmpaaXMayPure
import Derived.Test.YtdomeeaaidjmpaaXSpl
import Derived.Test.YtdomeeaaidjmpaaXSplitRef
import Derived.Test.YtdomeeaaidjmpaaXSplitSpec
import Derived.Test.YtdomeeaaidjmpaaXcmpComparestring
import Derived.Test.YtdomeeaaidjmpaaXpathSplit
import Derived.Test.YtdomeeaaidjmpaaXstringsJoin
namespace Go.Proofs.Ytdomeeaaidjmpaa.PA
open Go.RowKit Go.Proofs.YtdomeeaaidjmpaaW.PrintWords Go.Proofs.YtdomeeaaidjmpaaW.PrintLast Go.Proofs.YtdomeeaaidjmpaaW.PrintMore
attribute [local go_sem] max2_int min2_int max_two min_two max_three min_three max_four min_four
set_option linter.unusedVariables false
set_option linter.unusedSimpArgs false
theorem tl_eq (a b : ByteArray) : a.toList = b.toList ↔ a = b := by
  constructor
  · intro h
    rw [ByteArray.toList_eq, ByteArray.toList_eq] at h
    exact toL_inj h
  · intro h; rw [h]
theorem tl_beq (a b : ByteArray) : (a.toList == b.toList) = decide (a = b) := by
  by_cases h : a = b
  · rw [decide_eq_true h, h]; exact beq_self_eq_true _
  · rw [decide_eq_false h]; exact beq_eq_false_iff_ne.2 (fun e => h ((tl_eq a b).1 e))
theorem rdOf_get (l : List ByteArray) (i : Nat) (h : i < l.length) : rdOf ByteArray.empty l (i : Int) = l[i] := by
  simp [rdOf, h]
def cmpL : List ByteArray → List ByteArray → Int
  | [], [] => 0
  | [], _ :: _ => -1
  | _ :: _, [] => 1
  | a :: s, b :: t => if Op.bytesLess a.toList b.toList = true then -1 else if a = b then cmpL s t else 1
theorem cmp_f (a b : ByteArray) : cmp_Compare_string.f a b = some (if Op.bytesLess a.toList b.toList = true then -1 else if a = b then 0 else 1) := by
  rw [cmp_Compare_string.f, tl_beq]
  by_cases h : a = b
  · simp [h]
  · simp [h]
theorem compare_l (x y : List ByteArray) (hx : x.length < 4611686018427387904) : ∀ (m i k : Nat), x.length - i = m → i ≤ x.length → i ≤ y.length → m + 1 ≤ k → slices_Compare_string_string.l0 k x y x (x.length : Int) (i : Int) = some (cmpL (x.drop i) (y.drop i)) := by
  intro m
  induction m with
  | zero =>
    intro i k hm hi hy hk
    obtain ⟨k, rfl⟩ : ∃ j, k = j + 1 := ⟨k - 1, by omega⟩
    obtain rfl : i = x.length := by omega
    rw [slices_Compare_string_string.l0, if_neg (by omega), List.drop_length]
    by_cases h : x.length < y.length
    · rw [if_pos (by omega), List.drop_eq_getElem_cons h]; rfl
    · rw [if_neg (by omega), List.drop_eq_nil_of_le (by omega)]; rfl
  | succ m ih =>
    intro i k hm hi hy hk
    obtain ⟨k, rfl⟩ : ∃ j, k = j + 1 := ⟨k - 1, by omega⟩
    have hlt : i < x.length := by omega
    rw [slices_Compare_string_string.l0, if_pos (by omega), if_pos (by omega), if_pos (by omega), List.drop_eq_getElem_cons hlt]
    by_cases hy2 : i < y.length
    · rw [if_neg (by omega), if_pos (by omega), rdOf_get x i hlt, rdOf_get y i hy2, List.drop_eq_getElem_cons hy2, cmp_f, Option.bind_some, cmpL]
      by_cases h1 : Op.bytesLess (x[i]).toList (y[i]).toList = true
      · rw [if_pos h1, if_pos h1, if_neg (by decide)]
      · rw [if_neg h1, if_neg h1]
        by_cases h2 : x[i] = y[i]
        · rw [if_pos h2, if_pos h2, if_pos rfl, wr64 _ (by omega) (by omega)]
          exact ih (i + 1) k (by omega) (by omega) (by omega) (by omega)
        · rw [if_neg h2, if_neg h2, if_neg (by decide)]
    · rw [if_pos (by omega), List.drop_eq_nil_of_le (show y.length ≤ i by omega)]
      rfl
theorem compare_f (x y : List ByteArray) (k : Nat) (hx : x.length < 4611686018427387904) (hk : x.length + 1 ≤ k) : slices_Compare_string_string.f k x y = some (cmpL x y) := by
  have := compare_l x y hx x.length 0 k (by omega) (by omega) (by omega) (by omega)
  rw [List.drop_zero, List.drop_zero] at this
  exact this
theorem equal_l (x y : List ByteArray) (he : x.length = y.length) (hx : x.length < 4611686018427387904) : ∀ (m i k : Nat), x.length - i = m → i ≤ x.length → m + 1 ≤ k → slices_Equal_string_string.l0 k x y (x.length : Int) (i : Int) = some (decide (x.drop i = y.drop i)) := by
  intro m
  induction m with
  | zero =>
    intro i k hm hi hk
    obtain ⟨k, rfl⟩ : ∃ j, k = j + 1 := ⟨k - 1, by omega⟩
    rw [slices_Equal_string_string.l0, if_neg (by omega), List.drop_eq_nil_of_le (by omega), List.drop_eq_nil_of_le (by omega)]
    rfl
  | succ m ih =>
    intro i k hm hi hk
    obtain ⟨k, rfl⟩ : ∃ j, k = j + 1 := ⟨k - 1, by omega⟩
    have hlt : i < x.length := by omega
    have hlt2 : i < y.length := by omega
    rw [slices_Equal_string_string.l0, if_pos (by omega), if_pos (by omega), if_pos (by omega), if_pos (by omega), rdOf_get x i hlt, rdOf_get y i hlt2, List.drop_eq_getElem_cons hlt, List.drop_eq_getElem_cons hlt2]
    by_cases h : x[i] = y[i]
    · rw [if_pos ((tl_eq _ _).2 h), wr64 _ (by omega) (by omega), h]
      have := ih (i + 1) k (by omega) (by omega) (by omega)
      refine Eq.trans this ?_
      exact congrArg some (decide_eq_decide.2 ⟨fun e => by rw [e], fun e => (List.cons.inj e).2⟩)
    · rw [if_neg (fun e => h ((tl_eq _ _).1 e)), decide_eq_false (fun e => h (List.cons.inj e).1)]
theorem equal_f (x y : List ByteArray) (k : Nat) (hx : x.length < 4611686018427387904) (hk : x.length + 1 ≤ k) : slices_Equal_string_string.f k x y = some (decide (x = y)) := by
  unfold slices_Equal_string_string.f
  by_cases he : x.length = y.length
  · rw [if_pos (by omega)]
    exact equal_l x y he hx x.length 0 k (by omega) (by omega) (by omega)
  · rw [if_neg (by omega), decide_eq_false (fun e => he (by rw [e]))]
theorem texts_l (x y : List ByteArray) (he : x.length = y.length) (hx : x.length < 4611686018427387904) : ∀ (m i k : Nat), x.length - i = m → i ≤ x.length → m + 1 ≤ k → remoralaw13_texts.l0 k x y (i : Int) = some (decide (x.drop i = y.drop i)) := by
  intro m
  induction m with
  | zero =>
    intro i k hm hi hk
    obtain ⟨k, rfl⟩ : ∃ j, k = j + 1 := ⟨k - 1, by omega⟩
    rw [remoralaw13_texts.l0, if_neg (by omega), List.drop_eq_nil_of_le (by omega), List.drop_eq_nil_of_le (by omega)]
    rfl
  | succ m ih =>
    intro i k hm hi hk
    obtain ⟨k, rfl⟩ : ∃ j, k = j + 1 := ⟨k - 1, by omega⟩
    have hlt : i < x.length := by omega
    have hlt2 : i < y.length := by omega
    rw [remoralaw13_texts.l0, if_pos (by omega), if_pos (by omega), if_pos (by omega), rdOf_get x i hlt, rdOf_get y i hlt2, List.drop_eq_getElem_cons hlt, List.drop_eq_getElem_cons hlt2]
    by_cases h : x[i] = y[i]
    · rw [if_pos ((tl_eq _ _).2 h), wr64 _ (by omega) (by omega), h]
      have := ih (i + 1) k (by omega) (by omega) (by omega)
      refine Eq.trans this ?_
      exact congrArg some (decide_eq_decide.2 ⟨fun e => by rw [e], fun e => (List.cons.inj e).2⟩)
    · rw [if_neg (fun e => h ((tl_eq _ _).1 e)), decide_eq_false (fun e => h (List.cons.inj e).1)]
theorem texts_f (x y : List ByteArray) (k : Nat) (hx : x.length < 4611686018427387904) (hk : x.length + 1 ≤ k) : remoralaw13_texts.f k x y = some (decide (x = y)) := by
  unfold remoralaw13_texts.f
  by_cases he : x.length = y.length
  · rw [if_pos (by omega)]
    exact texts_l x y he hx x.length 0 k (by omega) (by omega) (by omega)
  · rw [if_neg (by omega), decide_eq_false (fun e => he (by rw [e]))]
def sumS : List ByteArray → Nat
  | [] => 0
  | a :: t => a.size + sumS t
theorem sumS_app (a b : List ByteArray) : sumS (a ++ b) = sumS a + sumS b := by
  induction a with
  | nil => simp [sumS]
  | cons x t ih => simp only [List.cons_append, sumS, ih]; omega
theorem sumS_take (l : List ByteArray) (n : Nat) : sumS (l.take n) ≤ sumS l := by
  have := sumS_app (l.take n) (l.drop n)
  rw [List.take_append_drop] at this
  omega
theorem sumS_drop (l : List ByteArray) (n : Nat) : sumS (l.drop n) ≤ sumS l := by
  have := sumS_app (l.take n) (l.drop n)
  rw [List.take_append_drop] at this
  omega
theorem sumS_le (l : List ByteArray) (b : Nat) (h : ∀ p ∈ l, p.size ≤ b) : sumS l ≤ b * l.length := by
  induction l with
  | nil => simp [sumS]
  | cons a t ih =>
    have h1 := h a (List.mem_cons_self ..)
    have h2 := ih (fun p hp => h p (List.mem_cons_of_mem _ hp))
    simp only [sumS, List.length_cons, Nat.mul_add]
    omega
theorem lens_sum (l : List ByteArray) : Lib.lens (l.map toL) = sumS l := by
  induction l with
  | nil => rfl
  | cons a t ih =>
    have := toL_size a
    simp only [Lib.lens, List.map_cons, List.sum_cons, sumS] at ih ⊢
    omega
theorem joinB_size (l : List ByteArray) : (joinB l ⟨#[47]⟩).size ≤ sumS l + l.length := by
  rw [← toL_size, toL_joinB]
  cases l with
  | nil => simp [Lib.join]
  | cons a t =>
    rw [List.map_cons, Lib.join_length, ← List.map_cons (f := toL), lens_sum]
    simp
    omega
theorem joinB_size' (l : List ByteArray) (h : l ≠ []) : (joinB l ⟨#[47]⟩).size + 1 = sumS l + l.length := by
  rw [← toL_size, toL_joinB]
  cases l with
  | nil => exact absurd rfl h
  | cons a t =>
    rw [List.map_cons, Lib.join_length, ← List.map_cons (f := toL), lens_sum]
    simp
    omega
theorem sumS_split (a : ByteArray) : sumS (splitL a) ≤ a.size := by
  by_cases h : splitL a = []
  · rw [h]; exact Nat.zero_le _
  · have h1 := joinB_size' _ h
    rw [joinB_split] at h1
    have : (splitL a).length ≠ 0 := fun e => h (List.length_eq_zero_iff.1 e)
    omega
def gN (l : List ByteArray) (i : Nat) : List Int := (Lib.join ((l.take i).map toL) [47]).map (fun u => (u.toNat : Int))
theorem strOf_nums (s : List UInt8) : strOfNums (s.map (fun u => (u.toNat : Int))) = ⟨s.toArray⟩ := by
  have e : ((fun n : Int => UInt8.ofNat n.toNat) ∘ fun u : UInt8 => (u.toNat : Int)) = id := by
    funext u
    simp
  rw [strOfNums, List.map_map, e, List.map_id]
theorem gN_zero (l : List ByteArray) : gN l 0 = [] := rfl
theorem gN_one (l : List ByteArray) (h : 0 < l.length) : gN l 1 = bytesOf (l[0]) := by
  cases l with
  | nil => simp at h
  | cons a t => simp [gN, Lib.join, bytesOf, toL]
theorem gN_succ (l : List ByteArray) (i : Nat) (h0 : 0 < i) (h : i < l.length) : gN l (i + 1) = gN l i ++ [47] ++ bytesOf (l[i]) := by
  cases l with
  | nil => simp at h
  | cons a t =>
    obtain ⟨j, rfl⟩ : ∃ j, i = j + 1 := ⟨i - 1, by omega⟩
    have ht : j < t.length := by simpa using h
    have hj := Lib.joinTail_take_succ [47] (t.map toL) j (toL (t[j])) (by simp [ht])
    simp only [gN, List.take_succ_cons, List.map_cons, Lib.join_cons, List.map_take] at hj ⊢
    rw [hj]
    simp [bytesOf, toL, List.map_append]
theorem gN_len (l : List ByteArray) (i : Nat) : (gN l i).length ≤ sumS l + l.length := by
  have h1 := joinB_size (l.take i)
  have h2 := sumS_take l i
  rw [← toL_size, toL_joinB] at h1
  have h3 : (l.take i).length ≤ l.length := by rw [List.length_take]; omega
  rw [gN, List.length_map]
  omega
theorem glue_l (l : List ByteArray) (hs : sumS l + l.length < 70368744177664) : ∀ (m i k : Nat), l.length - i = m → i ≤ l.length → m + 1 ≤ k → remoraref13_glue.l0 k l (gN l i) (i : Int) = some (joinB l ⟨#[47]⟩) := by
  intro m
  induction m with
  | zero =>
    intro i k hm hi hk
    obtain ⟨k, rfl⟩ : ∃ j, k = j + 1 := ⟨k - 1, by omega⟩
    obtain rfl : i = l.length := by omega
    rw [remoraref13_glue.l0, if_neg (by omega), gN, strOf_nums, List.take_length]
    rfl
  | succ m ih =>
    intro i k hm hi hk
    obtain ⟨k, rfl⟩ : ∃ j, k = j + 1 := ⟨k - 1, by omega⟩
    have hlt : i < l.length := by omega
    have hl := gN_len l i
    have hl2 := gN_len l (i + 1)
    have hrec := ih (i + 1) k (by omega) (by omega) (by omega)
    rw [remoraref13_glue.l0, if_pos (by omega), wr64 _ (by omega) (by omega), rdOf_get l i hlt]
    by_cases h0 : 0 < i
    · rw [gN_succ l i h0 hlt] at hrec hl2
      have hb := bytesOf_length (l[i])
      rw [List.length_append, hb] at hl2
      rw [if_pos (by omega), if_pos (by omega), Option.bind_some, if_pos (by omega), if_pos (by omega)]
      exact hrec
    · obtain rfl : i = 0 := by omega
      rw [gN_one l hlt] at hrec hl2
      have hb := bytesOf_length (l[0])
      rw [if_neg (by omega), if_pos (by omega), gN_zero, if_pos (by rw [List.length_nil]; omega)]
      exact hrec
theorem glue_f (l : List ByteArray) (hs : sumS l + l.length < 70368744177664) (k : Nat) (hk : l.length + 1 ≤ k) : remoraref13_glue.f k l = some (joinB l ⟨#[47]⟩) :=
  glue_l l hs l.length 0 k (by omega) (by omega) (by omega)
theorem join_f (l : List ByteArray) (hs : sumS l + l.length < 70368744177664) : strings_Join.f l ⟨#[47]⟩ = some (joinB l ⟨#[47]⟩) := by
  have := joinB_size l
  rw [strings_Join.f, if_pos ⟨by omega, by omega⟩]
def sml (a : ByteArray) : Prop := a.size ≤ 1048576
theorem psplit_f (a : ByteArray) (h : sml a) : path_Split.f a = some (splitL a) := by
  unfold sml at h
  rw [path_Split.f, if_pos (by omega)]
theorem rsp_f (a : ByteArray) (h : sml a) (k : Nat) (hk : 1048580 ≤ k) : remoraref13_Split.f k a = some (splitL a) := by
  unfold sml at h
  exact rsplit_f a (by omega) k (by omega)
theorem spl_len (a : ByteArray) (h : sml a) : (splitL a).length ≤ 1048577 := by
  unfold sml at h
  have := splitL_len a
  omega
theorem less_f (a b : ByteArray) (ha : sml a) (hb : sml b) (k : Nat) (hk : 1048580 ≤ k) : path_Less.f k a b = some (decide (cmpL (splitL a) (splitL b) < 0)) := by
  have := spl_len a ha
  rw [path_Less.f, psplit_f a ha, Option.bind_some, psplit_f b hb, Option.bind_some, compare_f _ _ k (by omega) (by omega), Option.bind_some]
def preB (y x : List ByteArray) : Bool := decide (x.take y.length = y)
theorem under_f (a b : ByteArray) (ha : sml a) (hb : sml b) (k : Nat) (hk : 1048580 ≤ k) : path_Under.f k a b = some (preB (splitL b) (splitL a)) := by
  have h1 := spl_len a ha
  rw [path_Under.f, psplit_f a ha, Option.bind_some, psplit_f b hb, Option.bind_some, preB]
  by_cases h : (splitL b).length ≤ (splitL a).length
  · rw [if_pos (by omega), if_pos (by omega), if_pos (by omega), Int.toNat_natCast, equal_f _ _ k (by rw [List.length_take]; omega) (by rw [List.length_take]; omega), Option.bind_some]
  · rw [if_neg (by omega), decide_eq_false]
    intro e
    have := congrArg List.length e
    rw [List.length_take] at this
    omega
theorem depth_f (a : ByteArray) (ha : sml a) : path_Depth.f a = some ((splitL a).length : Int) := by
  rw [path_Depth.f, psplit_f a ha, Option.bind_some]
def comN : List ByteArray → List ByteArray → Nat
  | a :: s, b :: t => if a = b then comN s t + 1 else 0
  | _, _ => 0
theorem comN_le : ∀ x y, comN x y ≤ x.length
  | [], _ => by simp [comN]
  | _ :: _, [] => by simp [comN]
  | a :: s, b :: t => by
    have := comN_le s t
    rw [comN]
    split
    · simp only [List.length_cons]; omega
    · exact Nat.zero_le _
theorem common_l (x y : List ByteArray) (hs : sumS x + x.length < 70368744177664) : ∀ (m i k : Nat), x.length - i = m → i ≤ x.length → m + 1 ≤ k → path_Common.l0 k x y (i : Int) = some (joinB (x.take (i + comN (x.drop i) (y.drop i))) ⟨#[47]⟩) := by
  intro m
  have hfin : ∀ i, i ≤ x.length → strings_Join.f (x.take ((i : Int)).toNat) ⟨#[47]⟩ = some (joinB (x.take i) ⟨#[47]⟩) := fun i hi => by
    rw [Int.toNat_natCast]
    refine join_f _ ?_
    have := sumS_take x i
    rw [List.length_take]
    omega
  induction m with
  | zero =>
    intro i k hm hi hk
    obtain ⟨k, rfl⟩ : ∃ j, k = j + 1 := ⟨k - 1, by omega⟩
    obtain rfl : i = x.length := by omega
    rw [path_Common.l0, if_neg (by omega), if_pos (by omega), if_pos (by omega), hfin _ hi, Option.bind_some, List.drop_length]
    simp [comN]
  | succ m ih =>
    intro i k hm hi hk
    obtain ⟨k, rfl⟩ : ∃ j, k = j + 1 := ⟨k - 1, by omega⟩
    have hlt : i < x.length := by omega
    rw [path_Common.l0, if_pos (by omega), List.drop_eq_getElem_cons hlt]
    by_cases hy : i < y.length
    · rw [if_pos (by omega), if_pos (by omega), rdOf_get x i hlt, rdOf_get y i hy, List.drop_eq_getElem_cons hy, comN]
      by_cases h : x[i] = y[i]
      · rw [if_pos ((tl_eq _ _).2 h), if_pos h, wr64 _ (by omega) (by omega)]
        have := ih (i + 1) k (by omega) (by omega) (by omega)
        refine Eq.trans this ?_
        congr 3
        omega
      · rw [if_neg (fun e => h ((tl_eq _ _).1 e)), if_neg h, if_pos (by omega), hfin _ hi, Option.bind_some]
        rfl
    · rw [if_neg (by omega), if_pos (by omega), if_pos (by omega), hfin _ hi, Option.bind_some, List.drop_eq_nil_of_le (show y.length ≤ i by omega)]
      rfl
theorem sumS_sml (a : ByteArray) (h : sml a) : sumS (splitL a) + (splitL a).length < 70368744177664 := by
  have h1 := sumS_split a
  have h2 := spl_len a h
  unfold sml at h
  omega
theorem common_f (a b : ByteArray) (ha : sml a) (hb : sml b) (k : Nat) (hk : 1048580 ≤ k) : path_Common.f k a b = some (joinB ((splitL a).take (comN (splitL a) (splitL b))) ⟨#[47]⟩) := by
  have h1 := spl_len a ha
  rw [path_Common.f, psplit_f a ha, Option.bind_some, psplit_f b hb, Option.bind_some]
  have := common_l (splitL a) (splitL b) (sumS_sml a ha) _ 0 k rfl (by omega) (by omega)
  rw [List.drop_zero, List.drop_zero, Nat.zero_add] at this
  exact this
theorem rcommon_l (x y : List ByteArray) (hs : sumS x + x.length < 70368744177664) : ∀ (m i k : Nat), x.length - i = m → i ≤ x.length → m + 1 + x.length + 1 ≤ k → remoraref13_Common.l0 k x y (i : Int) = some (joinB (x.take (i + comN (x.drop i) (y.drop i))) ⟨#[47]⟩) := by
  intro m
  have hfin : ∀ i k, i ≤ x.length → x.length + 1 ≤ k → remoraref13_glue.f k (x.take ((i : Int)).toNat) = some (joinB (x.take i) ⟨#[47]⟩) := fun i k hi hk => by
    rw [Int.toNat_natCast]
    have := sumS_take x i
    refine glue_f _ ?_ k ?_
    · rw [List.length_take]
      omega
    · rw [List.length_take]
      omega
  induction m with
  | zero =>
    intro i k hm hi hk
    obtain ⟨k, rfl⟩ : ∃ j, k = j + 1 := ⟨k - 1, by omega⟩
    obtain rfl : i = x.length := by omega
    rw [remoraref13_Common.l0, if_neg (by omega), if_pos (by omega), if_pos (by omega), hfin _ k hi (by omega), Option.bind_some, List.drop_length]
    simp [comN]
  | succ m ih =>
    intro i k hm hi hk
    obtain ⟨k, rfl⟩ : ∃ j, k = j + 1 := ⟨k - 1, by omega⟩
    have hlt : i < x.length := by omega
    rw [remoraref13_Common.l0, if_pos (by omega), List.drop_eq_getElem_cons hlt]
    by_cases hy : i < y.length
    · rw [if_pos (by omega), if_pos (by omega), rdOf_get x i hlt, rdOf_get y i hy, List.drop_eq_getElem_cons hy, comN]
      by_cases h : x[i] = y[i]
      · rw [if_pos ((tl_eq _ _).2 h), if_pos h, wr64 _ (by omega) (by omega)]
        have := ih (i + 1) k (by omega) (by omega) (by omega)
        refine Eq.trans this ?_
        congr 3
        omega
      · rw [if_neg (fun e => h ((tl_eq _ _).1 e)), if_neg h, if_pos (by omega), hfin _ k hi (by omega), Option.bind_some]
        rfl
    · rw [if_neg (by omega), if_pos (by omega), if_pos (by omega), hfin _ k hi (by omega), Option.bind_some, List.drop_eq_nil_of_le (show y.length ≤ i by omega)]
      rfl
theorem rcommon_f (a b : ByteArray) (ha : sml a) (hb : sml b) (k : Nat) (hk : 3000000 ≤ k) : remoraref13_Common.f k a b = some (joinB ((splitL a).take (comN (splitL a) (splitL b))) ⟨#[47]⟩) := by
  have h1 := spl_len a ha
  rw [remoraref13_Common.f, rsp_f a ha k (by omega), Option.bind_some, rsp_f b hb k (by omega), Option.bind_some]
  have := rcommon_l (splitL a) (splitL b) (sumS_sml a ha) _ 0 k rfl (by omega) (by omega)
  rw [List.drop_zero, List.drop_zero, Nat.zero_add] at this
  exact this
theorem runder_l (x y : List ByteArray) (hx : y.length < 4611686018427387904) : ∀ (m i k : Nat), y.length - i = m → i ≤ y.length → m + 1 ≤ k → x.take i = y.take i → remoraref13_Under.l0 k x y (i : Int) = some (preB y x) := by
  intro m
  induction m with
  | zero =>
    intro i k hm hi hk he
    obtain ⟨k, rfl⟩ : ∃ j, k = j + 1 := ⟨k - 1, by omega⟩
    obtain rfl : i = y.length := by omega
    rw [List.take_length] at he
    rw [remoraref13_Under.l0, if_neg (by omega), preB, decide_eq_true he]
  | succ m ih =>
    intro i k hm hi hk he
    obtain ⟨k, rfl⟩ : ∃ j, k = j + 1 := ⟨k - 1, by omega⟩
    have hlt : i < y.length := by omega
    rw [remoraref13_Under.l0, if_pos (by omega)]
    by_cases hx2 : i < x.length
    · rw [if_neg (by omega), if_pos (by omega), if_pos (by omega), rdOf_get x i hx2, rdOf_get y i hlt]
      by_cases h : x[i] = y[i]
      · rw [if_pos ((tl_eq _ _).2 h), wr64 _ (by omega) (by omega)]
        exact ih (i + 1) k (by omega) (by omega) (by omega) (by rw [List.take_succ_eq_append_getElem hx2, List.take_succ_eq_append_getElem hlt, he, h])
      · rw [if_neg (fun e => h ((tl_eq _ _).1 e)), preB, decide_eq_false]
        intro e
        apply h
        have h1 : (x.take y.length)[i]? = y[i]? := by rw [e]
        rw [List.getElem?_take_of_lt hlt, List.getElem?_eq_getElem hx2, List.getElem?_eq_getElem hlt] at h1
        exact Option.some.inj h1
    · rw [if_pos (by omega), preB, decide_eq_false]
      intro e
      have := congrArg List.length e
      rw [List.length_take] at this
      omega
theorem runder_f (a b : ByteArray) (ha : sml a) (hb : sml b) (k : Nat) (hk : 1048580 ≤ k) : remoraref13_Under.f k a b = some (preB (splitL b) (splitL a)) := by
  have h1 := spl_len b hb
  rw [remoraref13_Under.f, rsp_f a ha k (by omega), Option.bind_some, rsp_f b hb k (by omega), Option.bind_some]
  exact runder_l _ _ (by omega) _ 0 k rfl (by omega) (by omega) rfl
theorem less_tail (a b : ByteArray) (s t : List ByteArray) (h : a ≠ b) : decide (cmpL (a :: s) (b :: t) < 0) = Op.bytesLess a.toList b.toList := by
  rw [cmpL]
  by_cases h1 : Op.bytesLess a.toList b.toList = true
  · rw [if_pos h1, h1]; rfl
  · rw [if_neg h1, if_neg h, Bool.eq_false_iff.2 h1]; rfl
theorem less_same (a : ByteArray) (s t : List ByteArray) (h : Op.bytesLess a.toList a.toList = false) : cmpL (a :: s) (a :: t) = cmpL s t := by
  rw [cmpL, if_neg (by rw [h]; decide), if_pos rfl]
theorem bl_irr : ∀ l : List UInt8, Op.bytesLess l l = false
  | [] => rfl
  | a :: t => by
    rw [Op.bytesLess, bl_irr t]
    simp
theorem rless_l (x y : List ByteArray) (hx : x.length < 4611686018427387904) : ∀ (m i k : Nat), x.length - i = m → i ≤ x.length → i ≤ y.length → 2 * m + 2 ≤ k → remoraref13_Less.l0 k x y (i : Int) = some (decide (cmpL (x.drop i) (y.drop i) < 0)) := by
  intro m
  induction m with
  | zero =>
    intro i k hm hi hy hk
    obtain ⟨k, rfl⟩ : ∃ j, k = j + 2 := ⟨k - 2, by omega⟩
    obtain rfl : i = x.length := by omega
    rw [remoraref13_Less.l0, if_neg (by omega), remoraref13_Less.j1, if_neg (by decide), List.drop_length]
    by_cases h : x.length < y.length
    · rw [List.drop_eq_getElem_cons h, decide_eq_true (by omega)]; rfl
    · rw [List.drop_eq_nil_of_le (by omega), decide_eq_false (by omega)]; rfl
  | succ m ih =>
    intro i k hm hi hy hk
    obtain ⟨k, rfl⟩ : ∃ j, k = j + 2 := ⟨k - 2, by omega⟩
    have hlt : i < x.length := by omega
    rw [remoraref13_Less.l0, if_pos (by omega), remoraref13_Less.j1, List.drop_eq_getElem_cons hlt]
    by_cases hy2 : i < y.length
    · rw [if_pos (decide_eq_true (by omega)), if_pos (by omega), if_pos (by omega), if_pos (by omega), rdOf_get x i hlt, rdOf_get y i hy2, List.drop_eq_getElem_cons hy2]
      by_cases h : x[i] = y[i]
      · rw [if_pos ((tl_eq _ _).2 h), wr64 _ (by omega) (by omega), h, less_same _ _ _ (bl_irr _)]
        exact ih (i + 1) k (by omega) (by omega) (by omega) (by omega)
      · rw [if_neg (fun e => h ((tl_eq _ _).1 e)), less_tail _ _ _ _ h]
    · rw [if_neg (by rw [decide_eq_false (by omega)]; decide), List.drop_eq_nil_of_le (show y.length ≤ i by omega), decide_eq_false (by omega)]
      rfl
theorem rless_f (a b : ByteArray) (ha : sml a) (hb : sml b) (k : Nat) (hk : 3000000 ≤ k) : remoraref13_Less.f k a b = some (decide (cmpL (splitL a) (splitL b) < 0)) := by
  have h1 := spl_len a ha
  rw [remoraref13_Less.f, rsp_f a ha k (by omega), Option.bind_some, rsp_f b hb k (by omega), Option.bind_some]
  exact rless_l _ _ (by omega) _ 0 k rfl (by omega) (by omega) (by omega)
theorem rel_f (a b : ByteArray) (ha : sml a) (hb : sml b) (k : Nat) (hk : 1048580 ≤ k) : path_Rel.f k a b = some (if preB (splitL b) (splitL a) = true then (joinB ((splitL a).drop (splitL b).length) ⟨#[47]⟩, true) else (⟨#[]⟩, false)) := by
  rw [path_Rel.f, under_f a b ha hb k hk, Option.bind_some]
  by_cases h : preB (splitL b) (splitL a) = true
  · have hle : (splitL b).length ≤ (splitL a).length := by
      have := congrArg List.length (of_decide_eq_true h)
      rw [List.length_take] at this
      omega
    have hs := sumS_sml a ha
    have hd := sumS_drop (splitL a) (splitL b).length
    rw [if_pos h, if_pos h, psplit_f a ha, Option.bind_some, psplit_f b hb, Option.bind_some, if_pos (by omega), if_pos (by omega), Int.toNat_natCast, join_f _ (by rw [List.length_drop]; omega), Option.bind_some]
  · rw [if_neg h, if_neg h]
theorem rrel_f (a b : ByteArray) (ha : sml a) (hb : sml b) (k : Nat) (hk : 3000000 ≤ k) : remoraref13_Rel.f k a b = some (if preB (splitL b) (splitL a) = true then (joinB ((splitL a).drop (splitL b).length) ⟨#[47]⟩, true) else (⟨#[]⟩, false)) := by
  rw [remoraref13_Rel.f, runder_f a b ha hb k (by omega), Option.bind_some]
  by_cases h : preB (splitL b) (splitL a) = true
  · have hle : (splitL b).length ≤ (splitL a).length := by
      have := congrArg List.length (of_decide_eq_true h)
      rw [List.length_take] at this
      omega
    have hs := sumS_sml a ha
    have hl := spl_len a ha
    have hd := sumS_drop (splitL a) (splitL b).length
    rw [if_pos h, if_pos h, rsp_f a ha k (by omega), Option.bind_some, rsp_f b hb k (by omega), Option.bind_some, if_pos (by omega), if_pos (by omega), Int.toNat_natCast, glue_f _ (by rw [List.length_drop]; omega) k (by rw [List.length_drop]; omega), Option.bind_some]
  · rw [if_neg h, if_neg h]
theorem awake13_100 : remoralaw13_awake.f 100 = some true := by kernel_rfl
theorem awake13 (k : Nat) (hk : 100 ≤ k) : remoralaw13_awake.f k = some true := by
  induction k with
  | zero => omega
  | succ k ih =>
    by_cases h : k + 1 = 100
    · rw [h]; exact awake13_100
    · exact remoralaw13_awake.mono k _ (ih (by omega))
end Go.Proofs.Ytdomeeaaidjmpaa.PA
