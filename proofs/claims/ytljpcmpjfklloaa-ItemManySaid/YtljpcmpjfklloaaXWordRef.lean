/- Plain: the reference's word is the word. -/
import Derived.Test.YtljpcmpjfklloaaPAfremoraref28Word
import Derived.Test.YtljpcmpjfklloaaPAx0
import Derived.Test.YtljpcmpjfklloaaXSplitSpec
import Derived.Test.YtljpcmpjfklloaaXWordSpec
namespace Go.Proofs.Ytljpcmpjfklloaa.PA
open Go.RowKit Go.Proofs.YtljpcmpjfklloaaW.PrintWords Go.Proofs.YtljpcmpjfklloaaW.PrintLast Go.Proofs.YtljpcmpjfklloaaW.PrintMore
attribute [local go_sem] max2_int min2_int max_two min_two max_three min_three max_four min_four
set_option linter.unusedVariables false
set_option linter.unusedSimpArgs false
theorem nums_append (a b : List Int) : strOfNums (a ++ b) = strOfNums a ++ strOfNums b := by
  simp [strOfNums, ByteArray.append_eq, ByteArray.ext_iff]
theorem nums_len (l : List Int) : (strOfNums l).size = l.length := by
  show (strOfNums l).data.size = _
  simp [strOfNums]
theorem hex_cut (n : Int) (h0 : 0 ≤ n) (h1 : n < 16) : (⟨#[48, 49, 50, 51, 52, 53, 54, 55, 56, 57, 97, 98, 99, 100, 101, 102]⟩ : ByteArray).extract n.toNat (n + 1).toNat = strOfNums [hexd n] := by
  have : n = 0 ∨ n = 1 ∨ n = 2 ∨ n = 3 ∨ n = 4 ∨ n = 5 ∨ n = 6 ∨ n = 7 ∨ n = 8 ∨ n = 9 ∨ n = 10 ∨ n = 11 ∨ n = 12 ∨ n = 13 ∨ n = 14 ∨ n = 15 := by omega
  rcases this with rfl | rfl | rfl | rfl | rfl | rfl | rfl | rfl | rfl | rfl | rfl | rfl | rfl | rfl | rfl | rfl <;> decide
theorem byte_cut (s : ByteArray) (j : Nat) (h : j < s.size) : s.extract j (j + 1) = strOfNums [bt s (j : Int)] := by
  have e : bt s (j : Int) = ((s[j]'h).toNat : Int) := by
    rw [bt, dif_pos (by simpa using h)]
    rfl
  rw [e]
  apply ByteArray.ext
  apply Array.ext
  · have h' : j < s.data.size := h
    simp [strOfNums]
    omega
  · intro i h1 h2
    have hi : i = 0 := by simp [strOfNums] at h2; omega
    subst hi
    simp [strOfNums]
    rfl
theorem wordTo_succ (s : ByteArray) (j : Nat) : wordTo s (j + 1) = wordTo s j ++ encB (bt s (j : Int)) := rfl
theorem rword_step (s : ByteArray) (hs : s.size < 4398046511104) (k j : Nat) (hj : j < s.size) : remoraref28_Word.l0 (k + 1) s (strOfNums (wordTo s j)) (j : Int) = remoraref28_Word.l0 k s (strOfNums (wordTo s (j + 1))) ((j + 1 : Nat) : Int) := by
  have hr := bt_range s (j : Int)
  have hl := wordTo_len s j
  have hcut := byte_cut s j hj
  have e1 : wrap64 (bt s (j : Int)) = bt s (j : Int) := wr64 _ (by omega) (by omega)
  have e2 : wrap64 ((j : Int) + 1) = ((j + 1 : Nat) : Int) := by rw [wr64 _ (by omega) (by omega)]; rfl
  simp only [remoraref28_Word.l0, e1, e2]
  rw [wordTo_succ]
  generalize bt s (j : Int) = b at *
  rw [if_pos (show (j : Int) < (s.size : Int) by omega), if_pos (show 0 ≤ (j : Int) by omega)]
  have d1 : Int.tdiv b 16 = b / 16 := Int.tdiv_eq_ediv_of_nonneg hr.1
  have d2 : Int.tmod b 16 = b % 16 := Int.tmod_eq_emod_of_nonneg hr.1
  have d3 : wrap64 (b / 16) = b / 16 := wr64 _ (by omega) (by omega)
  have d4 : wrap64 (b / 16 + 1) = b / 16 + 1 := wr64 _ (by omega) (by omega)
  have d5 : wrap64 (b % 16 + 1) = b % 16 + 1 := wr64 _ (by omega) (by omega)
  simp only [d1, d2, d3, d4, d5]
  have c1 := hex_cut (b / 16) (by omega) (by omega)
  have c2 := hex_cut (b % 16) (by omega) (by omega)
  simp only [c1, c2]
  have k3 : (⟨#[37]⟩ : ByteArray) ++ strOfNums [hexd (b / 16)] ++ strOfNums [hexd (b % 16)] = strOfNums [37, hexd (b / 16), hexd (b % 16)] := by
    rw [show (⟨#[37]⟩ : ByteArray) = strOfNums [37] from rfl, ← nums_append, ← nums_append]
    rfl
  have k2 : (⟨#[37]⟩ : ByteArray) ++ strOfNums [hexd (b / 16)] = strOfNums [37, hexd (b / 16)] := by
    rw [show (⟨#[37]⟩ : ByteArray) = strOfNums [37] from rfl, ← nums_append]
    rfl
  have q1 : (0 ≤ b / 16) = True := eq_true (by omega)
  have q2 : (b / 16 ≤ b / 16 + 1) = True := eq_true (by omega)
  have q3 : (b / 16 + 1 ≤ 16) = True := eq_true (by omega)
  have q4 : (0 ≤ b % 16) = True := eq_true (by omega)
  have q5 : (b % 16 ≤ b % 16 + 1) = True := eq_true (by omega)
  have q6 : (b % 16 + 1 ≤ 16) = True := eq_true (by omega)
  have q7 : (1 + (strOfNums [hexd (b / 16)]).size ≤ 9223372036854775807) = True := eq_true (by rw [nums_len]; simp only [List.length_cons, List.length_nil]; omega)
  have q8 : ((strOfNums [37, hexd (b / 16)]).size + (strOfNums [hexd (b % 16)]).size ≤ 9223372036854775807) = True := eq_true (by rw [nums_len, nums_len]; simp only [List.length_cons, List.length_nil]; omega)
  have q9 : ((strOfNums (wordTo s j)).size + (strOfNums [37, hexd (b / 16), hexd (b % 16)]).size ≤ 9223372036854775807) = True := eq_true (by rw [nums_len, nums_len]; simp only [List.length_cons, List.length_nil]; omega)
  have q10 : ((j : Int) ≤ ((j + 1 : Nat) : Int)) = True := eq_true (by omega)
  have q11 : (((j + 1 : Nat) : Int) ≤ (s.size : Int)) = True := eq_true (by omega)
  have q12 : ((strOfNums (wordTo s j)).size + (strOfNums [b]).size ≤ 9223372036854775807) = True := eq_true (by rw [nums_len, nums_len]; simp only [List.length_cons, List.length_nil]; omega)
  simp only [k3]
  simp only [k2, Int.toNat_natCast, hcut, q1, q2, q3, q4, q5, q6, q7, q8, q9, q10, q11, q12, if_true]
  simp only [← nums_append]
  unfold encB plainB
  by_cases h1 : b > 32
  · by_cases h2 : b < 127
    · by_cases h3 : b = 37
      · rw [if_pos h1, if_pos h2, if_pos h3, if_neg (by simp [h3])]
      · rw [if_pos h1, if_pos h2, if_neg h3, if_pos (by simp [h2, h3]; omega)]
    · rw [if_pos h1, if_neg h2, if_neg (by simp [h2])]
  · rw [if_neg h1, if_neg (by simp; omega)]
theorem rword_l (s : ByteArray) (hs : s.size < 4398046511104) : ∀ k j : Nat, j ≤ s.size → s.size - j < k → remoraref28_Word.l0 k s (strOfNums (wordTo s j)) (j : Int) = some (strOfNums (wordTo s s.size))
  | 0, j, _, h => by omega
  | k + 1, j, hj, h => by
    by_cases hlt : j < s.size
    · rw [rword_step s hs k j hlt]
      exact rword_l s hs k (j + 1) (by omega) (by omega)
    · obtain rfl : j = s.size := by omega
      unfold remoraref28_Word.l0
      rw [if_neg (by omega)]
theorem rword_f (s : ByteArray) (hs : s.size < 4398046511104) (k : Nat) (hk : s.size < k) : remoraref28_Word.f k s = some (strOfNums (wordTo s s.size)) := by
  unfold remoraref28_Word.f
  exact rword_l s hs k 0 (by omega) (by omega)
end Go.Proofs.Ytljpcmpjfklloaa.PA
