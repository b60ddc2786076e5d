/- Plain: what may stand in a line: path.Right over the parts. -/
import Derived.Test.YtljpcmpjfklloaaDoorPAfitemmay
import Derived.Test.YtljpcmpjfklloaaDoorPAfpathRight
import Derived.Test.YtljpcmpjfklloaaDoorPAfpathpart
import Derived.Test.YtljpcmpjfklloaaDoorPAx0
import Derived.Test.YtljpcmpjfklloaaDoorXSplitSpec
import Derived.Test.YtljpcmpjfklloaaDoorXpathSplit
namespace Go.Proofs.YtljpcmpjfklloaaDoor.PA
open Go.RowKit Go.Proofs.YtljpcmpjfklloaaDoorW.PrintWords Go.Proofs.YtljpcmpjfklloaaDoorW.PrintLast Go.Proofs.YtljpcmpjfklloaaDoorW.PrintMore
attribute [local go_sem] max2_int min2_int max_two min_two max_three min_three max_four min_four
set_option linter.unusedVariables false
set_option linter.unusedSimpArgs false
def partB (s : ByteArray) : Bool := !(s.toList == []) && decide ((s.size : Int) ≤ 48) && !(s.toList == [46]) && !(s.toList == [46, 46]) && decide (Lib.indexByte s.data.toList 0 < 0)
theorem part_f (s : ByteArray) : path_part.f s = some (partB s) := by
  unfold path_part.f partB
  by_cases h1 : s.toList = ([] : List UInt8)
  · rw [if_pos h1, beq_iff_eq.mpr h1]
    rfl
  · rw [if_neg h1, beq_eq_false_iff_ne.mpr h1]
    by_cases h2 : (s.size : Int) ≤ 48
    · rw [if_pos h2, decide_eq_true h2]
      by_cases h3 : s.toList = ([46] : List UInt8)
      · rw [if_pos h3, beq_iff_eq.mpr h3]
        rfl
      · rw [if_neg h3, beq_eq_false_iff_ne.mpr h3]
        by_cases h4 : s.toList = ([46, 46] : List UInt8)
        · rw [if_pos h4, beq_iff_eq.mpr h4]
          rfl
        · rw [if_neg h4, beq_eq_false_iff_ne.mpr h4]
          rfl
    · rw [if_neg h2, decide_eq_false h2]
      rfl
def rightB (p : ByteArray) : Bool := (splitL p).all partB && decide (((splitL p).length : Int) ≤ 12) && decide ((p.size : Int) ≤ 200)
theorem right_l (p : ByteArray) (l : List ByteArray) (hl : l.length < 9223372036854775807) : ∀ k j : Nat, j ≤ l.length → l.length - j < k → path_Right.l0 k p l l (l.length : Int) (j : Int) = some ((l.drop j).all partB && decide ((l.length : Int) ≤ 12) && decide ((p.size : Int) ≤ 200))
  | 0, j, _, h => by omega
  | k + 1, j, hj, h => by
    unfold path_Right.l0
    by_cases hlt : j < l.length
    · rw [if_pos (show (j : Int) < (l.length : Int) by omega), if_pos (show 0 ≤ (j : Int) by omega), if_pos (show (j : Int) < (l.length : Int) by omega), part_f]
      have e : rdOf ByteArray.empty l (j : Int) = l[j]'hlt := by
        simp [rdOf, hlt]
      rw [e, List.drop_eq_getElem_cons hlt]
      show (if partB (l[j]'hlt) = true then _ else _) = _
      cases hp : partB (l[j]'hlt) with
      | true =>
        rw [if_pos rfl, wr64 _ (by omega) (by omega)]
        have ih := right_l p l hl k (j + 1) (by omega) (by omega)
        rw [show ((j : Int) + 1) = ((j + 1 : Nat) : Int) by omega, ih, List.all_cons, hp, Bool.true_and]
      | false =>
        rw [if_neg (by decide), List.all_cons, hp]
        rfl
    · have hje : j = l.length := by omega
      rw [if_neg (show ¬ (j : Int) < (l.length : Int) by omega), hje, List.drop_length]
      by_cases h12 : (l.length : Int) ≤ 12
      · rw [if_pos h12, decide_eq_true h12]
        rfl
      · rw [if_neg h12, decide_eq_false h12]
        rfl
theorem splitL_len (s : ByteArray) : (splitL s).length ≤ s.size + 1 := by
  have := splitTo_len s s.size
  unfold splitL
  split
  · exact Nat.zero_le _
  · simp
    omega
theorem right_f (p : ByteArray) (hs : p.size < 4398046511104) (k : Nat) (hk : p.size + 1 < k) : path_Right.f k p = some (rightB p) := by
  unfold path_Right.f path_Split.f
  rw [if_pos hs]
  have h := splitL_len p
  show path_Right.l0 k p (splitL p) (splitL p) ((splitL p).length : Int) 0 = _
  exact right_l p (splitL p) (by omega) k 0 (by omega) (by omega)
def mayB (p : ByteArray) : Bool := !(p.toList == []) && rightB p
theorem may_f (p : ByteArray) (hs : p.size < 4398046511104) (k : Nat) (hk : p.size + 1 < k) : item_may.f k p = some (mayB p) := by
  unfold item_may.f mayB
  by_cases h1 : p.toList = ([] : List UInt8)
  · rw [if_pos h1, beq_iff_eq.mpr h1]
    rfl
  · rw [if_neg h1, beq_eq_false_iff_ne.mpr h1, right_f p hs k hk]
    rfl
end Go.Proofs.YtljpcmpjfklloaaDoor.PA
