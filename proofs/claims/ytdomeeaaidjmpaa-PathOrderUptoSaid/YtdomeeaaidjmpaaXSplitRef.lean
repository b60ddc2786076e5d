/- Plain: the reference's Split, and its look for a byte 0. -/
import Derived.Lib.Bytealg
import Derived.Test.YtdomeeaaidjmpaaPAfremoraref13Split
import Derived.Test.YtdomeeaaidjmpaaPAfremoraref13nought
import Derived.Test.YtdomeeaaidjmpaaPAx0
import Derived.Test.YtdomeeaaidjmpaaXSplitSpec
namespace Go.Proofs.Ytdomeeaaidjmpaa.PA
open Go.RowKit Go.Proofs.YtdomeeaaidjmpaaW.PrintWords Go.Proofs.YtdomeeaaidjmpaaW.PrintLast Go.Proofs.YtdomeeaaidjmpaaW.PrintMore
attribute [local go_sem] max2_int min2_int max_two min_two max_three min_three max_four min_four
set_option linter.unusedVariables false
set_option linter.unusedSimpArgs false
theorem rsplit_l (s : ByteArray) (hs : s.size < 4398046511104) : ∀ k j : Nat, j ≤ s.size → s.size + 1 - j < k → remoraref13_Split.l0 k s (splitTo s j).1 ((splitTo s j).2 : Int) (j : Int) = some ((splitTo s s.size).1 ++ [s.extract (splitTo s s.size).2 s.size])
  | 0, j, _, h => by omega
  | k + 1, j, hj, h => by
    have hle := splitTo_le s j
    have hlen := splitTo_len s j
    have e2 : wrap64 ((j : Int) + 1) = ((j + 1 : Nat) : Int) := by rw [wr64 _ (by omega) (by omega)]; rfl
    unfold remoraref13_Split.l0
    rw [if_pos (show (j : Int) ≤ (s.size : Int) by omega), e2]
    by_cases hlt : j < s.size
    · rw [if_neg (show ¬ (j : Int) = (s.size : Int) by omega), if_pos (show 0 ≤ (j : Int) by omega), if_pos (show (j : Int) < (s.size : Int) by omega)]
      by_cases hb : bt s (j : Int) = 47
      · have hh := splitTo_hit s j hb
        rw [if_pos hb, if_pos (by omega), if_pos (by omega), if_pos (by omega)]
        have ih := rsplit_l s hs k (j + 1) (by omega) (by omega)
        rw [hh] at ih
        exact ih
      · have hh := splitTo_miss s j hb
        rw [if_neg hb]
        have ih := rsplit_l s hs k (j + 1) (by omega) (by omega)
        rw [hh] at ih
        exact ih
    · obtain rfl : j = s.size := by omega
      rw [if_pos rfl, if_pos (by omega), if_pos (by omega), if_pos (by omega)]
      cases k with
      | zero => omega
      | succ k =>
        unfold remoraref13_Split.l0
        rw [if_neg (by omega)]
        rfl
theorem rsplit_f (s : ByteArray) (hs : s.size < 4398046511104) (k : Nat) (hk : s.size + 1 < k) : remoraref13_Split.f k s = some (splitL s) := by
  unfold remoraref13_Split.f splitL
  by_cases h : s.toList = ([] : List UInt8)
  · have h1 := congrArg List.length h
    rw [ByteArray.toList_eq, data_length] at h1
    rw [if_pos h, if_pos (show s.size = 0 from h1)]
  · rw [if_neg h, if_neg]
    · exact rsplit_l s hs k 0 (by omega) (by omega)
    · intro h0
      refine h (List.eq_nil_of_length_eq_zero ?_)
      rw [ByteArray.toList_eq, data_length]
      exact h0
theorem index_ge (c : UInt8) : ∀ l : List UInt8, -1 ≤ Lib.indexByte l c
  | [] => Int.le_refl _
  | b :: l => by
    have := index_ge c l
    unfold Lib.indexByte
    split
    · omega
    · split
      · omega
      · omega
theorem rnought_l (s : ByteArray) (hs : s.size < 4398046511104) : ∀ k j : Nat, j ≤ s.size → s.size - j < k → remoraref13_nought.l0 k s (j : Int) = some (decide (0 ≤ Lib.indexByte (s.data.toList.drop j) 0))
  | 0, j, _, h => by omega
  | k + 1, j, hj, h => by
    unfold remoraref13_nought.l0
    by_cases hlt : j < s.size
    · have e2 : wrap64 ((j : Int) + 1) = ((j + 1 : Nat) : Int) := by rw [wr64 _ (by omega) (by omega)]; rfl
      rw [if_pos (show (j : Int) < (s.size : Int) by omega), if_pos (show 0 ≤ (j : Int) by omega), e2]
      have hl : j < s.data.toList.length := by rw [data_length]; exact hlt
      rw [List.drop_eq_getElem_cons hl]
      have eb : bt s (j : Int) = ((s.data.toList[j]'hl).toNat : Int) := by
        rw [bt, dif_pos (by simpa using hlt)]
        simp
        rfl
      rw [eb]
      generalize s.data.toList[j]'hl = b
      have ih := rnought_l s hs k (j + 1) (by omega) (by omega)
      by_cases hb : b = 0
      · subst hb
        rw [if_pos (by decide)]
        rfl
      · rw [if_neg (by intro h0; exact hb (UInt8.toNat_inj.1 (by simpa using h0))), ih]
        have hg := index_ge 0 (s.data.toList.drop (j + 1))
        have e : Lib.indexByte (b :: s.data.toList.drop (j + 1)) 0 = if Lib.indexByte (s.data.toList.drop (j + 1)) 0 == -1 then -1 else Lib.indexByte (s.data.toList.drop (j + 1)) 0 + 1 := by
          rw [Lib.indexByte, if_neg (by simpa using hb)]
        rw [e]
        generalize Lib.indexByte (s.data.toList.drop (j + 1)) 0 = x at *
        by_cases hx : x = -1
        · subst hx
          rfl
        · rw [if_neg (by simpa using hx), decide_eq_true (show 0 ≤ x by omega), decide_eq_true (show 0 ≤ x + 1 by omega)]
    · obtain rfl : j = s.size := by omega
      rw [if_neg (by omega), ← data_length, List.drop_length]
      rfl
theorem rnought_f (s : ByteArray) (hs : s.size < 4398046511104) (k : Nat) (hk : s.size < k) : remoraref13_nought.f k s = some (decide (0 ≤ Lib.indexByte s.data.toList 0)) := by
  unfold remoraref13_nought.f
  exact rnought_l s hs k 0 (by omega) (by omega)
end Go.Proofs.Ytdomeeaaidjmpaa.PA
