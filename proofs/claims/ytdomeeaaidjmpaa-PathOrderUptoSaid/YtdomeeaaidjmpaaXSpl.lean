/- Plain: a list of bytes parted at 47, and joined again. -/
import Derived.Lib.Join
import Derived.Test.YtdomeeaaidjmpaaPAx0
import Derived.Test.YtdomeeaaidjmpaaXSplitSpec
import Derived.Test.YtdomeeaaidjmpaaXstringsJoin
namespace Go.Proofs.Ytdomeeaaidjmpaa.PA
open Go.RowKit Go.Proofs.YtdomeeaaidjmpaaW.PrintWords Go.Proofs.YtdomeeaaidjmpaaW.PrintLast Go.Proofs.YtdomeeaaidjmpaaW.PrintMore
attribute [local go_sem] max2_int min2_int max_two min_two max_three min_three max_four min_four
set_option linter.unusedVariables false
set_option linter.unusedSimpArgs false
def spl : List UInt8 → List (List UInt8)
  | [] => [[]]
  | x :: t => if x = 47 then [] :: spl t else match spl t with
    | [] => [[x]]
    | h :: r => (x :: h) :: r
theorem spl_ne : ∀ s, spl s ≠ []
  | [] => by simp [spl]
  | x :: t => by
    rw [spl]
    split
    · simp
    · split <;> simp
theorem spl_cons (x : UInt8) (t : List UInt8) (h : x ≠ 47) : ∃ a r, spl t = a :: r ∧ spl (x :: t) = (x :: a) :: r := by
  cases hs : spl t with
  | nil => exact absurd hs (spl_ne t)
  | cons a r =>
    refine ⟨a, r, rfl, ?_⟩
    rw [spl, if_neg h, hs]
theorem spl_snoc47 : ∀ s, spl (s ++ [47]) = spl s ++ [[]]
  | [] => rfl
  | x :: t => by
    by_cases h : x = 47
    · rw [List.cons_append, spl, if_pos h, spl, if_pos h, spl_snoc47 t, List.cons_append]
    · obtain ⟨a, r, e1, e2⟩ := spl_cons x t h
      obtain ⟨a', r', e3, e4⟩ := spl_cons x (t ++ [47]) h
      rw [spl_snoc47 t, e1, List.cons_append] at e3
      rw [List.cons_append, e4, e2]
      have e5 := List.cons.inj e3
      rw [← e5.1, ← e5.2, List.cons_append]
theorem spl_snoc (c : UInt8) (hc : c ≠ 47) : ∀ (s : List UInt8) (L : List (List UInt8)) (x : List UInt8), spl s = L ++ [x] → spl (s ++ [c]) = L ++ [x ++ [c]]
  | [], L, x, h => by
    cases L with
    | nil =>
      have hx := (List.cons.inj (show ([[]] : List (List UInt8)) = [x] from h)).1
      rw [← hx]
      simp [spl, hc]
    | cons a r =>
      have h1 := (List.cons.inj (show ([[]] : List (List UInt8)) = a :: (r ++ [x]) from h)).2
      simp at h1
  | y :: t, L, x, h => by
    by_cases hy : y = 47
    · rw [spl, if_pos hy] at h
      cases L with
      | nil =>
        have h1 := (List.cons.inj (show [] :: spl t = [x] from h)).2
        exact absurd h1 (spl_ne t)
      | cons a r =>
        have h1 := List.cons.inj (show [] :: spl t = a :: (r ++ [x]) from h)
        rw [List.cons_append, spl, if_pos hy, spl_snoc c hc t r x h1.2, h1.1]
        rfl
    · obtain ⟨a, r, e1, e2⟩ := spl_cons y t hy
      rw [e2] at h
      cases L with
      | nil =>
        have h1 := List.cons.inj (show (y :: a) :: r = [x] from h)
        have h2 := spl_snoc c hc t [] a (by rw [e1, h1.2]; rfl)
        obtain ⟨a', r', e3, e4⟩ := spl_cons y (t ++ [c]) hy
        rw [h2] at e3
        have h3 := List.cons.inj (show [a ++ [c]] = a' :: r' from e3)
        rw [List.cons_append, e4, ← h3.1, ← h3.2, ← h1.1]
        rfl
      | cons b q =>
        have h1 := List.cons.inj (show (y :: a) :: r = b :: (q ++ [x]) from h)
        have h2 := spl_snoc c hc t (a :: q) x (by rw [e1, h1.2]; rfl)
        obtain ⟨a', r', e3, e4⟩ := spl_cons y (t ++ [c]) hy
        rw [h2] at e3
        have h3 := List.cons.inj (show a :: (q ++ [x ++ [c]]) = a' :: r' from e3)
        rw [List.cons_append, e4, ← h3.1, ← h3.2, ← h1.1]
        rfl
theorem join_two (x y : List UInt8) (r : List (List UInt8)) : Lib.join (x :: y :: r) [47] = x ++ 47 :: Lib.join (y :: r) [47] := by
  rw [Lib.join_cons, Lib.join_cons]
  simp [Lib.joinTail]
theorem join_spl : ∀ s, Lib.join (spl s) [47] = s
  | [] => rfl
  | x :: t => by
    have ih := join_spl t
    by_cases h : x = 47
    · rw [spl, if_pos h]
      cases hs : spl t with
      | nil => exact absurd hs (spl_ne t)
      | cons a r => rw [join_two, ← hs, ih, h]; rfl
    · obtain ⟨a, r, e1, e2⟩ := spl_cons x t h
      rw [e2]
      rw [e1] at ih
      cases r with
      | nil => rw [Lib.join_one] at ih ⊢; rw [ih]
      | cons b q => rw [join_two] at ih ⊢; rw [List.cons_append, ih]
theorem spl_parts : ∀ s, ∀ p ∈ spl s, (47 : UInt8) ∉ p
  | [] => by simp [spl]
  | x :: t => by
    intro p hp
    have ih := spl_parts t
    by_cases h : x = 47
    · rw [spl, if_pos h] at hp
      rcases List.mem_cons.1 hp with h1 | h1
      · rw [h1]; simp
      · exact ih p h1
    · obtain ⟨a, r, e1, e2⟩ := spl_cons x t h
      rw [e2] at hp
      rcases List.mem_cons.1 hp with h1 | h1
      · rw [h1]
        intro hm
        rcases List.mem_cons.1 hm with h2 | h2
        · exact h h2.symm
        · exact ih a (by rw [e1]; exact List.mem_cons_self ..) h2
      · exact ih p (by rw [e1]; exact List.mem_cons_of_mem _ h1)
theorem spl_none : ∀ p : List UInt8, (47 : UInt8) ∉ p → spl p = [p]
  | [], _ => rfl
  | x :: t, h => by
    have hx : x ≠ 47 := fun e => h (by rw [e]; exact List.mem_cons_self ..)
    have ih := spl_none t (fun hm => h (List.mem_cons_of_mem _ hm))
    rw [spl, if_neg hx, ih]
theorem spl_front : ∀ (p q : List UInt8), (47 : UInt8) ∉ p → spl (p ++ 47 :: q) = p :: spl q
  | [], q, _ => by rw [List.nil_append, spl, if_pos rfl]
  | x :: t, q, h => by
    have hx : x ≠ 47 := fun e => h (by rw [e]; exact List.mem_cons_self ..)
    have ih := spl_front t q (fun hm => h (List.mem_cons_of_mem _ hm))
    rw [List.cons_append, spl, if_neg hx, ih]
theorem spl_join : ∀ (l : List (List UInt8)), l ≠ [] → (∀ p ∈ l, (47 : UInt8) ∉ p) → spl (Lib.join l [47]) = l
  | [], h, _ => absurd rfl h
  | [p], _, h => by rw [Lib.join_one]; exact spl_none p (h p (List.mem_cons_self ..))
  | p :: q :: r, _, h => by
    rw [join_two, spl_front p _ (h p (List.mem_cons_self ..)), spl_join (q :: r) (by simp) (fun x hx => h x (List.mem_cons_of_mem _ hx))]
def toL (a : ByteArray) : List UInt8 := a.data.toList
theorem toL_inj {a b : ByteArray} (h : toL a = toL b) : a = b := by
  have := Array.toList_inj.1 (show a.data.toList = b.data.toList from h)
  exact ByteArray.ext this
theorem toL_size (a : ByteArray) : (toL a).length = a.size := by
  rw [toL, Array.length_toList]; rfl
theorem toL_extract (a : ByteArray) (i j : Nat) : toL (a.extract i j) = ((toL a).take j).drop i := by
  unfold toL
  rw [ByteArray.data_extract, Array.toList_extract, List.extract_eq_take_drop, List.drop_take]
theorem take_snoc (a : ByteArray) (k : Nat) (h : k < a.size) : (toL a).take (k + 1) = (toL a).take k ++ [UInt8.ofNat (bt a (k : Int)).toNat] := by
  have hl : k < (toL a).length := by rw [toL_size]; exact h
  rw [List.take_succ_eq_append_getElem hl]
  congr 2
  rw [bt, dif_pos (by simpa using h)]
  simp [toL]
  rfl
theorem u47 (b : Int) (h0 : 0 ≤ b) (h1 : b ≤ 255) : UInt8.ofNat b.toNat = 47 ↔ b = 47 := by
  constructor
  · intro h
    have := congrArg UInt8.toNat h
    rw [UInt8.toNat_ofNat'] at this
    have e : (47 : UInt8).toNat = 47 := rfl
    rw [e] at this
    omega
  · intro h; rw [h]; rfl
theorem splitTo_spl (a : ByteArray) : ∀ k, k ≤ a.size → spl ((toL a).take k) = (splitTo a k).1.map toL ++ [((toL a).take k).drop (splitTo a k).2]
  | 0, _ => rfl
  | k + 1, h => by
    have ih := splitTo_spl a k (by omega)
    have hr := bt_range a (k : Int)
    have hle := splitTo_le a k
    have hlen : ((toL a).take k).length = k := by rw [List.length_take, toL_size]; omega
    rw [take_snoc a k (by omega)]
    by_cases hb : bt a (k : Int) = 47
    · rw [(u47 _ hr.1 hr.2).2 hb, spl_snoc47, ih, splitTo_hit a k hb, List.map_append, List.map_cons, List.map_nil, toL_extract]
      congr 1
      simp
      omega
    · rw [spl_snoc _ (fun e => hb ((u47 _ hr.1 hr.2).1 e)) _ _ _ ih, splitTo_miss a k hb, List.drop_append_of_le_length (by rw [hlen]; exact hle)]
theorem split_spl (a : ByteArray) (h : a.size ≠ 0) : (splitL a).map toL = spl (toL a) := by
  have := splitTo_spl a a.size (Nat.le_refl _)
  have e : (toL a).take a.size = toL a := List.take_of_length_le (by rw [toL_size]; exact Nat.le_refl _)
  rw [e] at this
  rw [splitL, if_neg h, this, List.map_append, List.map_cons, List.map_nil, toL_extract, e]
theorem size_zero {a : ByteArray} (h : a.size = 0) : a = ⟨#[]⟩ := by
  apply toL_inj
  have : (toL a).length = 0 := by rw [toL_size]; exact h
  rw [List.length_eq_zero_iff.1 this]
  rfl
theorem map_data (l : List ByteArray) : l.map (·.data.toList) = l.map toL := rfl
theorem toL_joinB (l : List ByteArray) : toL (joinB l ⟨#[47]⟩) = Lib.join (l.map toL) [47] := by
  unfold joinB toL
  rfl
theorem joinB_split (a : ByteArray) : joinB (splitL a) ⟨#[47]⟩ = a := by
  by_cases h : a.size = 0
  · rw [splitL, if_pos h, size_zero h]; rfl
  · apply toL_inj
    rw [toL_joinB, split_spl a h, join_spl]
theorem map_toL_inj {l m : List ByteArray} (h : l.map toL = m.map toL) : l = m := by
  induction l generalizing m with
  | nil => cases m with
    | nil => rfl
    | cons b t => simp at h
  | cons a s ih => cases m with
    | nil => simp at h
    | cons b t =>
      simp only [List.map_cons, List.cons.injEq] at h
      rw [toL_inj h.1, ih h.2]
theorem split_nil_iff (a : ByteArray) : splitL a = [] ↔ a.size = 0 := by
  rw [splitL]
  by_cases h : a.size = 0
  · rw [if_pos h]; simp [h]
  · rw [if_neg h]; simp [h]
theorem split_no47 (a : ByteArray) : ∀ p ∈ splitL a, (47 : UInt8) ∉ toL p := by
  by_cases h : a.size = 0
  · rw [splitL, if_pos h]; simp
  · intro p hp
    have := List.mem_map_of_mem (f := toL) hp
    rw [split_spl a h] at this
    exact spl_parts _ _ this
theorem split_joinB (l : List ByteArray) (h0 : ∀ p ∈ l, p.size ≠ 0) (h : ∀ p ∈ l, (47 : UInt8) ∉ toL p) : splitL (joinB l ⟨#[47]⟩) = l := by
  cases l with
  | nil => rfl
  | cons x t =>
    have hj := toL_joinB (x :: t)
    have hs := spl_join ((x :: t).map toL) (by simp) (fun p hp => by
      obtain ⟨q, hq, rfl⟩ := List.mem_map.1 hp
      exact h q hq)
    have hne : (joinB (x :: t) ⟨#[47]⟩).size ≠ 0 := by
      have hx := h0 x (List.mem_cons_self ..)
      rw [← toL_size, hj, List.map_cons, Lib.join_cons, List.length_append, toL_size]
      omega
    apply map_toL_inj
    rw [split_spl _ hne, hj, hs]
theorem joinB_to (a : ByteArray) (k : Nat) (hk : k ≤ a.size) (h : (splitTo a k).2 ≠ 0) : joinB (splitTo a k).1 ⟨#[47]⟩ = a.extract 0 ((splitTo a k).2 - 1) := by
  induction k with
  | zero => exact absurd rfl h
  | succ k ih =>
    by_cases hb : bt a (k : Int) = 47
    · rw [splitTo_hit a k hb]
      apply toL_inj
      have hs := splitTo_spl a k (by omega)
      have := join_spl ((toL a).take k)
      rw [hs] at this
      rw [toL_joinB, List.map_append, List.map_cons, List.map_nil, toL_extract, this, toL_extract]
      simp
    · rw [splitTo_miss a k hb] at h ⊢
      exact ih (by omega) h
end Go.Proofs.Ytdomeeaaidjmpaa.PA
