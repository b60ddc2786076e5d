/- Plain: where the signs stand in a line. -/
import Derived.Test.YtljpcmpjfklloaaPAx0
import Derived.Test.YtljpcmpjfklloaaXKinds
import Derived.Test.YtljpcmpjfklloaaXMayPure
import Derived.Test.YtljpcmpjfklloaaXWordSpec
import Derived.Test.YtljpcmpjfklloaaXitemLine
import Derived.Test.YtljpcmpjfklloaaXitemcheck
import Derived.Test.YtljpcmpjfklloaaXquickText
namespace Go.Proofs.Ytljpcmpjfklloaa.PA
open Go.RowKit Go.Proofs.YtljpcmpjfklloaaW.PrintWords Go.Proofs.YtljpcmpjfklloaaW.PrintLast Go.Proofs.YtljpcmpjfklloaaW.PrintMore
attribute [local go_sem] max2_int min2_int max_two min_two max_three min_three max_four min_four
set_option linter.unusedVariables false
set_option linter.unusedSimpArgs false
theorem app_get (a b : ByteArray) (i : Nat) (h : i < a.size) : bt (a ++ b) (i : Int) = bt a (i : Int) := by
  unfold bt
  have h2 : i < (a ++ b).size := by rw [ByteArray.size_append]; omega
  rw [dif_pos (by simpa using h2), dif_pos (by simpa using h)]
  simp only [Int.toNat_natCast]
  rw [ByteArray.getElem_append_left h]
theorem app_get2 (a b : ByteArray) (i : Nat) (h : i < b.size) : bt (a ++ b) ((a.size + i : Nat) : Int) = bt b (i : Int) := by
  unfold bt
  have h2 : a.size + i < (a ++ b).size := by rw [ByteArray.size_append]; omega
  rw [dif_pos (by rw [Int.toNat_natCast]; exact h2), dif_pos (by rw [Int.toNat_natCast]; exact h)]
  simp only [Int.toNat_natCast]
  rw [ByteArray.getElem_append_right (by omega)]
  simp
theorem signs_at (a b t r : ByteArray) (ha : a.size = 2) (hb : b = (⟨#[32]⟩ : ByteArray)) (ht : t.size = 9) : bt (a ++ b ++ t ++ b ++ r) 2 = 32 ∧ bt (a ++ b ++ t ++ b ++ r) 12 = 32 ∧ (a ++ b ++ t ++ b ++ r).extract 3 12 = t := by
  have hb1 : b.size = 1 := by rw [hb]; rfl
  have hb2 : bt b ((0 : Nat) : Int) = 32 := by rw [hb]; rfl
  have e1 : (a ++ b).size = 3 := by rw [ByteArray.size_append]; omega
  have e2 : (a ++ b ++ t).size = 12 := by rw [ByteArray.size_append]; omega
  have e3 : (a ++ b ++ t ++ b).size = 13 := by rw [ByteArray.size_append]; omega
  refine ⟨?_, ?_, ?_⟩
  · have h := app_get2 a b 0 (by omega)
    rw [ha, hb2] at h
    rw [show (2 : Int) = ((2 + 0 : Nat) : Int) from rfl, app_get _ _ (2 + 0) (by omega), app_get _ _ (2 + 0) (by omega), app_get _ _ (2 + 0) (by omega)]
    exact h
  · have h := app_get2 (a ++ b ++ t) b 0 (by omega)
    rw [e2, hb2] at h
    rw [show (12 : Int) = ((12 + 0 : Nat) : Int) from rfl, app_get _ _ (12 + 0) (by omega)]
    exact h
  · rw [show a ++ b ++ t ++ b ++ r = (a ++ b) ++ (t ++ (b ++ r)) by rw [ByteArray.append_assoc, ByteArray.append_assoc]]
    clear e2 e3
    generalize a ++ b = u at *
    rw [ByteArray.extract_append, e1, ByteArray.extract_append]
    have x1 : u.extract 3 12 = ByteArray.empty := by
      exact ByteArray.extract_eq_empty_iff.2 (by omega)
    have x2 : t.extract (3 - 3) (12 - 3) = t := by
      rw [show 12 - 3 = t.size by omega]
      exact ByteArray.extract_zero_size
    have x3 : (b ++ r).extract (3 - 3 - t.size) (12 - 3 - t.size) = ByteArray.empty := ByteArray.extract_eq_empty_iff.2 (by omega)
    rw [x1, x2, x3, ByteArray.append_empty, ByteArray.empty_append]
/-- a line is five parts -/
theorem lineB_parts (k : Int) (p f : ByteArray) (t d : Int) : ∃ r : ByteArray, lineB k p f t d = strOfNums [kindL k, thingL t] ++ (⟨#[32]⟩ : ByteArray) ++ textSpec d ++ (⟨#[32]⟩ : ByteArray) ++ (strOfNums (wordTo p p.size) ++ r) := by
  unfold lineB
  by_cases h : twoB k = true
  · exact ⟨(⟨#[32]⟩ : ByteArray) ++ strOfNums (wordTo f f.size), by rw [if_pos h]; exact ByteArray.append_assoc⟩
  · exact ⟨ByteArray.empty, by rw [if_neg h, ByteArray.append_empty]⟩
theorem word_pos (p : ByteArray) (h : p.size ≠ 0) : 1 ≤ (strOfNums (wordTo p p.size)).size := by
  rw [nums_size]
  obtain ⟨m, hm⟩ : ∃ m, p.size = m + 1 := ⟨p.size - 1, by omega⟩
  rw [hm]
  unfold wordTo encB
  split <;> simp
theorem chk_path {k t d : Int} {p f : ByteArray} (h : checkI k p f t d = 0) : p.size ≠ 0 := by
  intro h0
  have hm : mayB p = false := by
    have : p.toList = [] := by
      refine List.eq_nil_of_length_eq_zero ?_
      rw [ByteArray.toList_eq, data_length]
      exact h0
    unfold mayB
    rw [this]
    rfl
  unfold checkI at h
  split at h
  · omega
  · rw [if_pos (Or.inl hm)] at h
    omega
theorem signs_line (k : Int) (p f : ByteArray) (t d : Int) (h : p.size ≠ 0) : 13 < (lineB k p f t d).size ∧ bt (lineB k p f t d) 2 = 32 ∧ bt (lineB k p f t d) 12 = 32 ∧ (lineB k p f t d).extract 3 12 = textSpec d := by
  obtain ⟨r, hr⟩ := lineB_parts k p f t d
  have hw := word_pos p h
  have h2 : (strOfNums [kindL k, thingL t]).size = 2 := by rw [nums_size]; rfl
  have h9 : (textSpec d).size = 9 := by unfold textSpec; rw [nums_size, textL_len]
  obtain ⟨a, b, e⟩ := signs_at (strOfNums [kindL k, thingL t]) (⟨#[32]⟩ : ByteArray) (textSpec d) (strOfNums (wordTo p p.size) ++ r) h2 rfl h9
  rw [hr]
  refine ⟨?_, a, b, e⟩
  have h1 : (⟨#[32]⟩ : ByteArray).size = 1 := rfl
  simp only [ByteArray.size_append]
  omega
end Go.Proofs.Ytljpcmpjfklloaa.PA
