/- Plain: whether a rule may be, by the code and by the reference. -/
import Derived.Test.YtioehkeocddniaaDoorNG1
import Derived.Lib.Bytealg
import Derived.Test.YtioehkeocddniaaDoorNG4
import Derived.Test.YtioehkeocddniaaDoorNG2
namespace Go.Proofs.YtioehkeocddniaaDoor.PA
open Go.RowKit Go.Proofs.YtioehkeocddniaaDoorW.PrintWords Go.Proofs.YtioehkeocddniaaDoorW.PrintLast Go.Proofs.YtioehkeocddniaaDoorW.PrintMore
attribute [local go_sem] max2_int min2_int max_two min_two max_three min_three max_four min_four   -- for this text's walks alone
set_option linter.unusedVariables false
set_option linter.unusedSimpArgs false
end Go.Proofs.YtioehkeocddniaaDoor.PA
namespace Go.Proofs.YtioehkeocddniaaDoor.PA
open Go.RowKit Go.Proofs.YtioehkeocddniaaDoorW.PrintWords Go.Proofs.YtioehkeocddniaaDoorW.PrintLast Go.Proofs.YtioehkeocddniaaDoorW.PrintMore
attribute [local go_sem] max2_int min2_int max_two min_two max_three min_three max_four min_four
set_option linter.unusedVariables false
set_option linter.unusedSimpArgs false
theorem index_ge (c : UInt8) : ∀ l : List UInt8, -1 ≤ Lib.indexByte l c
 | [] => Int.le_refl _
 | b :: l => by
  have := index_ge c l
  unfold Lib.indexByte
  split
  ·omega
  ·split
   ·omega
   ·omega
end Go.Proofs.YtioehkeocddniaaDoor.PA
namespace Go.Proofs.YtioehkeocddniaaDoor.PA
open Go.RowKit Go.Proofs.YtioehkeocddniaaDoorW.PrintWords Go.Proofs.YtioehkeocddniaaDoorW.PrintLast Go.Proofs.YtioehkeocddniaaDoorW.PrintMore
attribute [local go_sem] max2_int min2_int max_two min_two max_three min_three max_four min_four
set_option linter.unusedVariables false
set_option linter.unusedSimpArgs false
theorem size_tl (p : ByteArray) : p.toList = ([] : List UInt8) ↔ p.size = 0 := by
 constructor
 ·intro h
  have := congrArg List.length h
  rw [ByteArray.toList_eq, Array.length_toList] at this
  exact this
 ·intro h
  rw [ByteArray.toList_eq]
  exact List.eq_nil_of_length_eq_zero (by rw [Array.length_toList]; exact h)
theorem wr_predB (t : ByteArray) (hs : t.size ≤ 9223372036854775807) (h : 0 < t.size) : wrap64 ((t.size : Int) - 1) = ((t.size - 1 : Nat) : Int) := by
 rw [wr64 _ (by omega) (by omega)]
 omega
def badP (p : ByteArray) : Bool := decide (p.size = 0) || (decide (bt p 0 = 47) || (decide (bt p ((p.size - 1 : Nat) : Int) = 47) || hasB p 10))
def chkI (a : Int) (p : ByteArray) : Int := if actB a = 0 then 2 else if badP p = true then 5 else chkO p
theorem check_f (a : Int) (p : ByteArray) (d h : Bool) (hs : p.size ≤ 9223372036854775807) : rules_check.f a p d h = some (chkI a p) := by
 unfold rules_check.f chkI
 rw [rules_sign.f, Option.bind_some]
 by_cases h1 : actB a = 0
 ·rw [if_pos h1, if_pos h1]
 ·rw [if_neg h1, if_neg h1]
  by_cases h2 : p.size = 0
  ·rw [if_pos ((size_tl p).2 h2), if_pos (show badP p = true by unfold badP; rw [decide_eq_true h2]; rfl)]
  ·rw [if_neg (fun e => h2 ((size_tl p).1 e)), if_pos (by omega)]
   by_cases h3 : bt p 0 = 47
   ·rw [if_pos h3, if_pos (show badP p = true by unfold badP; rw [decide_eq_true h3]; simp)]
   ·rw [if_neg h3, wr_predB p hs (by omega), if_pos (by omega), if_pos (by omega)]
    by_cases h4 : bt p ((p.size - 1 : Nat) : Int) = 47
    ·rw [if_pos h4, if_pos (show badP p = true by unfold badP; rw [decide_eq_true h4]; simp)]
    ·rw [if_neg h4, strings_Contains.f, if_pos (show (⟨#[10]⟩ : ByteArray).size = 1 from rfl), Option.bind_some]
     have e : badP p = hasB p 10 := by unfold badP; rw [decide_eq_false h2, decide_eq_false h3, decide_eq_false h4]; simp
     have e2 : hasB p ((⟨#[10]⟩ : ByteArray).data.toList.headD 0) = hasB p 10 := rfl
     rw [e2, e]
     by_cases h5 : hasB p 10 = true
     ·rw [if_pos h5, if_pos h5]
     ·rw [if_neg h5, if_neg h5, glob_Check.f, Option.bind_some]
theorem has10_l (s : ByteArray) (a : Int) (d h : Bool) (hs : s.size < 1000000) : ∀ k j : Nat, j ≤ s.size → s.size - j < k → remoraref15_one.l0 k (s.size : Int) (j : Int) a s d h = some (if 0 ≤ Lib.indexByte (s.data.toList.drop j) 10 then 5 else chkO s)
 | 0, j, _, h => by omega
 | k + 1, j, hj, hk => by
  unfold remoraref15_one.l0
  by_cases hlt : j < s.size
  ·have e2 : wrap64 ((j : Int) + 1) = ((j + 1 : Nat) : Int) := by rw [wr64 _ (by omega) (by omega)]; rfl
   rw [if_pos (show (j : Int) < (s.size : Int) by omega), if_pos (show 0 ≤ (j : Int) by omega), if_pos (show (j : Int) < (s.size : Int) by omega), e2]
   have hl : j < s.data.toList.length := by rw [Array.length_toList]; exact hlt
   rw [List.drop_eq_getElem_cons hl]
   have eb : bt s (j : Int) = ((s.data.toList[j]'hl).toNat : Int) := by
    rw [bt, dif_pos (by simpa using hlt)]
    simp
    rfl
   rw [eb]
   generalize s.data.toList[j]'hl = b
   have ih := has10_l s a d h hs k (j + 1) (by omega) (by omega)
   by_cases hb : b = 10
   ·subst hb
    rw [if_pos (by decide), if_pos]
    simp [Lib.indexByte]
   ·rw [if_neg (by intro h0; exact hb (UInt8.toNat_inj.1 (show b.toNat = 10 by omega))), ih]
    have hg := index_ge 10 (s.data.toList.drop (j + 1))
    have e : Lib.indexByte (b :: s.data.toList.drop (j + 1)) 10 = if Lib.indexByte (s.data.toList.drop (j + 1)) 10 == -1 then -1 else Lib.indexByte (s.data.toList.drop (j + 1)) 10 + 1 := by
     rw [Lib.indexByte, if_neg (by simpa using hb)]
    rw [e]
    generalize Lib.indexByte (s.data.toList.drop (j + 1)) 10 = x at *
    by_cases hx : x = -1
    ·subst hx
     rfl
    ·rw [if_neg (show ¬ (x == -1) = true by simpa using hx), if_pos (show 0 ≤ x by omega), if_pos (show 0 ≤ x + 1 by omega)]
  ·obtain rfl : j = s.size := by omega
   have hn : ¬ 0 ≤ Lib.indexByte (s.data.toList.drop s.size) 10 := by
    have : s.data.toList.drop s.size = [] := List.drop_eq_nil_of_le (by rw [Array.length_toList]; exact Nat.le_refl _)
    rw [this]
    decide
   rw [if_neg (by omega), if_neg hn, remoraref14_Check.f, if_pos hs, Option.bind_some]
theorem one_f (a : Int) (p : ByteArray) (d h : Bool) (hs : p.size < 1000000) (k : Nat) (hk : p.size + 3 ≤ k) : remoraref15_one.f k a p d h = some (chkI a p) := by
 obtain ⟨k, rfl⟩ : ∃ j, k = j + 1 := ⟨k - 1, by omega⟩
 unfold remoraref15_one.f
 have j0t : remoraref15_one.j0 (k + 1) true a p d h = some 2 := by rw [remoraref15_one.j0, if_pos rfl]
 by_cases ha : 1 ≤ a ∧ a ≤ 4
 ·have hb : actB a ≠ 0 := by
   obtain ⟨h1, h2⟩ := ha
   have : a = 1 ∨ a = 2 ∨ a = 3 ∨ a = 4 := by omega
   rcases this with rfl | rfl | rfl | rfl <;> decide
  rw [if_neg (by omega), decide_eq_false (by omega), remoraref15_one.j0, if_neg (by decide)]
  obtain ⟨k, rfl⟩ : ∃ j, k = j + 1 := ⟨k - 1, by omega⟩
  have j1t : remoraref15_one.j1 (k + 1) (p.size : Int) true a p d h = some 5 := by rw [remoraref15_one.j1, if_pos rfl]
  unfold chkI
  rw [if_neg hb]
  by_cases h2 : p.size = 0
  ·rw [if_pos (by omega), j1t, if_pos (show badP p = true by unfold badP; rw [decide_eq_true h2]; rfl)]
  ·rw [if_neg (by omega), if_pos (by omega)]
   by_cases h3 : bt p 0 = 47
   ·rw [if_pos h3, j1t, if_pos (show badP p = true by unfold badP; rw [decide_eq_true h3]; simp)]
   ·rw [if_neg h3, wr_predB p (by omega) (by omega), if_pos (by omega), if_pos (by omega)]
    by_cases h4 : bt p ((p.size - 1 : Nat) : Int) = 47
    ·rw [beq_iff_eq.2 h4, j1t, if_pos (show badP p = true by unfold badP; rw [decide_eq_true h4]; simp)]
    ·have e : badP p = hasB p 10 := by unfold badP; rw [decide_eq_false h2, decide_eq_false h3, decide_eq_false h4]; simp
     rw [beq_eq_false_iff_ne.2 h4, remoraref15_one.j1, if_neg (by decide), show (0 : Int) = ((0 : Nat) : Int) from rfl, has10_l p a d h hs k 0 (by omega) (by omega), e]
     unfold hasB
     rw [List.drop_zero]
     by_cases h5 : 0 ≤ Lib.indexByte p.data.toList 10
     ·rw [if_pos h5, decide_eq_true h5, if_pos rfl]
     ·rw [if_neg h5, decide_eq_false h5, if_neg (by decide)]
 ·have hb : actB a = 0 := by unfold actB; rw [if_neg (by omega), if_neg (by omega), if_neg (by omega), if_neg (by omega)]
  unfold chkI
  rw [if_pos hb]
  by_cases h1 : a < 1
  ·rw [if_pos h1, j0t]
  ·rw [if_neg h1, decide_eq_true (show a > 4 by omega), j0t]
def chkR (x : S24) : Int := chkI x.f0 x.f1
theorem rd24_get (L : List S24) (i : Nat) (h : i < L.length) : rd_T24 L (i : Int) = L[i] := by
 simp [rd_T24, rdOf, h]
end Go.Proofs.YtioehkeocddniaaDoor.PA
