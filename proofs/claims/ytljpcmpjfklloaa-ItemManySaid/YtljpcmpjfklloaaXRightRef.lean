/- Plain: the reference's Right, and 'there', over the parts. -/
import Derived.Test.YtljpcmpjfklloaaPAfremoraref13Right
import Derived.Test.YtljpcmpjfklloaaPAfremoraref28there
import Derived.Test.YtljpcmpjfklloaaPAx0
import Derived.Test.YtljpcmpjfklloaaXMayPure
import Derived.Test.YtljpcmpjfklloaaXSplitRef
import Derived.Test.YtljpcmpjfklloaaXSplitSpec
namespace Go.Proofs.Ytljpcmpjfklloaa.PA
open Go.RowKit Go.Proofs.YtljpcmpjfklloaaW.PrintWords Go.Proofs.YtljpcmpjfklloaaW.PrintLast Go.Proofs.YtljpcmpjfklloaaW.PrintMore
attribute [local go_sem] max2_int min2_int max_two min_two max_three min_three max_four min_four
set_option linter.unusedVariables false
set_option linter.unusedSimpArgs false
theorem rright_l (l : List ByteArray) (hsz : ∀ s ∈ l, s.size < 4398046511104) (hl : l.length < 9223372036854775807) : ∀ k j : Nat, j ≤ l.length → l.length - j + 50 < k → remoraref13_Right.l0 k l (j : Int) = some ((l.drop j).all partB)
  | 0, j, _, h => by omega
  | k + 1, j, hj, h => by
    unfold remoraref13_Right.l0
    by_cases hlt : j < l.length
    · rw [if_pos (show (j : Int) < (l.length : Int) by omega), if_pos (show 0 ≤ (j : Int) by omega)]
      have e : rdOf ByteArray.empty l (j : Int) = l[j]'hlt := by
        simp [rdOf, hlt]
      have hs := hsz _ (List.getElem_mem hlt)
      rw [e, List.drop_eq_getElem_cons hlt, List.all_cons]
      have ih := rright_l l hsz hl k (j + 1) (by omega) (by omega)
      have e2 : wrap64 ((j : Int) + 1) = ((j + 1 : Nat) : Int) := by rw [wr64 _ (by omega) (by omega)]; rfl
      rw [e2]
      generalize l[j]'hlt = s at *
      unfold partB
      by_cases h1 : s.toList = ([] : List UInt8)
      · rw [if_pos h1, beq_iff_eq.mpr h1]
        rfl
      · rw [if_neg h1, beq_eq_false_iff_ne.mpr h1]
        by_cases h3 : s.toList = ([46] : List UInt8)
        · rw [if_pos h3, beq_iff_eq.mpr h3]
          simp
        · rw [if_neg h3, beq_eq_false_iff_ne.mpr h3]
          by_cases h4 : s.toList = ([46, 46] : List UInt8)
          · rw [if_pos h4, beq_iff_eq.mpr h4]
            simp
          · rw [if_neg h4, beq_eq_false_iff_ne.mpr h4]
            by_cases h2 : (s.size : Int) > 48
            · rw [if_pos h2, decide_eq_false (show ¬ (s.size : Int) ≤ 48 by omega)]
              rfl
            · rw [if_neg h2, decide_eq_true (show (s.size : Int) ≤ 48 by omega), rnought_f s hs k (by omega), Option.bind_some]
              by_cases hn : 0 ≤ Lib.indexByte s.data.toList 0
              · rw [decide_eq_true hn, if_pos rfl, decide_eq_false (show ¬ Lib.indexByte s.data.toList 0 < 0 by omega)]
                rfl
              · rw [decide_eq_false hn, if_neg (by decide), decide_eq_true (show Lib.indexByte s.data.toList 0 < 0 by omega), ih]
                rfl
    · obtain rfl : j = l.length := by omega
      rw [if_neg (by omega), List.drop_length]
      rfl
theorem extract_le (s : ByteArray) (a b : Nat) : (s.extract a b).size ≤ s.size := by
  rw [ByteArray.size_extract]
  omega
theorem splitTo_sizes (s : ByteArray) : ∀ k, ∀ t ∈ (splitTo s k).1, t.size ≤ s.size
  | 0 => by simp [splitTo]
  | k + 1 => by
    have ih := splitTo_sizes s k
    unfold splitTo
    split
    · intro t ht
      rcases List.mem_append.1 ht with h | h
      · exact ih t h
      · rw [List.mem_singleton.1 h]
        exact extract_le _ _ _
    · exact ih
theorem splitL_sizes (s : ByteArray) : ∀ t ∈ splitL s, t.size ≤ s.size := by
  unfold splitL
  split
  · simp
  · intro t ht
    rcases List.mem_append.1 ht with h | h
    · exact splitTo_sizes s _ t h
    · rw [List.mem_singleton.1 h]
      exact extract_le _ _ _
theorem rright_f (s : ByteArray) (hs : s.size < 4398046511104) (k : Nat) (hk : s.size + 60 < k) : remoraref13_Right.f k s = some (rightB s) := by
  unfold remoraref13_Right.f
  rw [rsplit_f s hs k (by omega), Option.bind_some]
  have hl := splitL_len s
  have hz := splitL_sizes s
  unfold rightB
  cases k with
  | zero => omega
  | succ k =>
    have hj : ∀ b, remoraref13_Right.j0 (k + 1) (splitL s) b = if b = true then some false else remoraref13_Right.l0 k (splitL s) 0 := fun _ => rfl
    have hr := rright_l (splitL s) (fun t ht => by have := hz t ht; omega) (by omega) k 0 (by omega) (by omega)
    rw [List.drop_zero] at hr
    by_cases h1 : ((splitL s).length : Int) > 12
    · rw [if_pos h1, hj, if_pos rfl, decide_eq_false (show ¬ ((splitL s).length : Int) ≤ 12 by omega)]
      simp
    · rw [if_neg h1, hj, decide_eq_true (show ((splitL s).length : Int) ≤ 12 by omega)]
      by_cases h2 : (s.size : Int) > 200
      · rw [decide_eq_true h2, if_pos rfl, decide_eq_false (show ¬ (s.size : Int) ≤ 200 by omega)]
        simp
      · rw [decide_eq_false h2, if_neg (by decide), decide_eq_true (show (s.size : Int) ≤ 200 by omega)]
        rw [show ((0 : Nat) : Int) = 0 from rfl] at hr
        rw [hr]
        simp
theorem there_f (p : ByteArray) (hs : p.size < 4398046511104) (k : Nat) (hk : p.size + 60 < k) : remoraref28_there.f k p = some (mayB p) := by
  unfold remoraref28_there.f mayB
  by_cases h1 : p.toList = ([] : List UInt8)
  · rw [if_pos h1, beq_iff_eq.mpr h1]
    rfl
  · rw [if_neg h1, beq_eq_false_iff_ne.mpr h1, rright_f p hs k hk]
    rfl
end Go.Proofs.Ytljpcmpjfklloaa.PA
