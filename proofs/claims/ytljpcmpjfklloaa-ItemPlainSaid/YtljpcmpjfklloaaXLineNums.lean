/- Plain: a line and many lines as lists of numbers, all of them plain signs or line feeds. -/
import Derived.Test.YtljpcmpjfklloaaPAx0
import Derived.Test.YtljpcmpjfklloaaXKinds
import Derived.Test.YtljpcmpjfklloaaXWordSpec
import Derived.Test.YtljpcmpjfklloaaXitemLine
import Derived.Test.YtljpcmpjfklloaaXquickText
namespace Go.Proofs.Ytljpcmpjfklloaa.PA
open Go.RowKit Go.Proofs.YtljpcmpjfklloaaW.PrintWords Go.Proofs.YtljpcmpjfklloaaW.PrintLast Go.Proofs.YtljpcmpjfklloaaW.PrintMore
attribute [local go_sem] max2_int min2_int max_two min_two max_three min_three max_four min_four
set_option linter.unusedVariables false
set_option linter.unusedSimpArgs false
theorem sn_append (a b : List Int) : strOfNums (a ++ b) = strOfNums a ++ strOfNums b := by
  simp [strOfNums, ByteArray.append_eq, ByteArray.ext_iff]
def okN (x : Int) : Prop := 32 ≤ x ∧ x ≤ 126
def lineN (k : Int) (p f : ByteArray) (t d : Int) : List Int :=
  [kindL k, thingL t] ++ [32] ++ textL d 9 ++ [32] ++ wordTo p p.size ++ (if twoB k = true then [32] ++ wordTo f f.size else [])
theorem lineB_nums (k : Int) (p f : ByteArray) (t d : Int) : lineB k p f t d = strOfNums (lineN k p f t d) := by
  unfold lineB lineN textSpec
  have h32 : (⟨#[32]⟩ : ByteArray) = strOfNums [32] := rfl
  rw [h32]
  by_cases h : twoB k = true
  · rw [if_pos h, if_pos h]
    simp only [sn_append]
  · rw [if_neg h, if_neg h, List.append_nil]
    simp only [sn_append]
theorem enc_range (b : Int) (h0 : 0 ≤ b) (h1 : b ≤ 255) : ∀ x ∈ encB b, okN x := by
  intro x hx
  unfold encB at hx
  by_cases h : plainB b = true
  · rw [if_pos h] at hx
    have hb := List.mem_singleton.1 hx
    subst hb
    simp only [plainB, Bool.and_eq_true, decide_eq_true_eq] at h
    exact ⟨by omega, by omega⟩
  · rw [if_neg h] at hx
    have r1 : okN (hexd (b / 16)) := by unfold hexd okN; split <;> omega
    have r2 : okN (hexd (b % 16)) := by unfold hexd okN; split <;> omega
    simp only [List.mem_cons, List.not_mem_nil, or_false] at hx
    rcases hx with rfl | rfl | rfl
    · exact ⟨by omega, by omega⟩
    · exact r1
    · exact r2
theorem word_range (s : ByteArray) : ∀ k, ∀ x ∈ wordTo s k, okN x
  | 0 => by simp [wordTo]
  | k + 1 => by
    intro x hx
    have hb := bt_range s (k : Int)
    rcases List.mem_append.1 (show x ∈ wordTo s k ++ encB (bt s (k : Int)) from hx) with h | h
    · exact word_range s k x h
    · exact enc_range _ hb.1 hb.2 x h
theorem text_range (d : Int) : ∀ x ∈ textL d 9, okN x := by
  intro x hx
  unfold textL at hx
  obtain ⟨i, hi, rfl⟩ := List.mem_map.1 hx
  have hi9 : i < 9 := by simpa using hi
  split
  · exact ⟨by omega, by omega⟩
  · have : i = 0 ∨ i = 1 ∨ i = 2 ∨ i = 3 ∨ i = 4 ∨ i = 5 ∨ i = 6 ∨ i = 7 ∨ i = 8 := by omega
    rcases this with rfl | rfl | rfl | rfl | rfl | rfl | rfl | rfl | rfl <;> exact ⟨by decide, by decide⟩
theorem kind_range (k : Int) : okN (kindL k) := by
  unfold kindL okN
  repeat' split
  all_goals omega
theorem thing_range (k : Int) : okN (thingL k) := by
  unfold thingL okN
  repeat' split
  all_goals omega
theorem lineN_range (k : Int) (p f : ByteArray) (t d : Int) : ∀ x ∈ lineN k p f t d, okN x := by
  intro x hx
  have h32 : okN 32 := ⟨by decide, by decide⟩
  unfold lineN at hx
  simp only [List.mem_append, List.mem_cons, List.not_mem_nil, or_false] at hx
  rcases hx with ((((((h | h) | h) | h) | h) | h) | h)
  · rw [h]; exact kind_range k
  · rw [h]; exact thing_range t
  · rw [h]; exact h32
  · exact text_range d x h
  · rw [h]; exact h32
  · exact word_range p _ x h
  · split at h
    · rcases List.mem_append.1 h with h | h
      · rw [List.mem_singleton.1 h]; exact h32
      · exact word_range f _ x h
    · simp at h
theorem lineN_len (k : Int) (p f : ByteArray) (t d : Int) : (lineN k p f t d).length ≤ 14 + 3 * p.size + 3 * f.size := by
  have h1 := wordTo_len p p.size
  have h2 := wordTo_len f f.size
  have h3 := textL_len d 9
  unfold lineN
  simp only [List.length_append, List.length_cons, List.length_nil, h3]
  split
  · simp only [List.length_append, List.length_cons, List.length_nil]
    omega
  · simp only [List.length_nil]
    omega
theorem bt_nums (xs : List Int) (j : Nat) (hj : j < xs.length) (h0 : 0 ≤ xs[j]) (h1 : xs[j] < 256) : bt (strOfNums xs) (j : Int) = xs[j] := by
  have hs : j < (strOfNums xs).size := by rw [nums_size]; exact hj
  rw [bt, dif_pos (by rw [Int.toNat_natCast]; exact hs)]
  simp only [Int.toNat_natCast]
  have e : (strOfNums xs)[j]'hs = UInt8.ofNat (xs[j]).toNat := by
    show (strOfNums xs).data[j]'hs = _
    simp [strOfNums]
  rw [e, UInt8.toNat_ofNat']
  omega
end Go.Proofs.Ytljpcmpjfklloaa.PA
