/- Plain: what Lines answers for a list of light steps: their lines, each with a line feed, or the first error. -/
import Derived.Test.YtljpcmpjfklloaaPAfitemLines
import Derived.Test.YtljpcmpjfklloaaPAx0
import Derived.Test.YtljpcmpjfklloaaXAwakePure28
import Derived.Test.YtljpcmpjfklloaaXLineNums
import Derived.Test.YtljpcmpjfklloaaXSplitSpec
import Derived.Test.YtljpcmpjfklloaaXitemLine
import Derived.Test.YtljpcmpjfklloaaXitemcheck
namespace Go.Proofs.Ytljpcmpjfklloaa.PA
open Go.RowKit Go.Proofs.YtljpcmpjfklloaaW.PrintWords Go.Proofs.YtljpcmpjfklloaaW.PrintLast Go.Proofs.YtljpcmpjfklloaaW.PrintMore
attribute [local go_sem] max2_int min2_int max_two min_two max_three min_three max_four min_four
set_option linter.unusedVariables false
set_option linter.unusedSimpArgs false
def litS (x : S27) : Prop := (x.f1.size : Int) ≤ 1000 ∧ (x.f2.size : Int) ≤ 1000
def chkS (x : S27) : Int := checkI x.f0 x.f1 x.f2 x.f3.f1 x.f4
def lnN (x : S27) : List Int := lineN x.f0 x.f1 x.f2 x.f3.f1 x.f4
def linesN : List S27 → List Int
  | [] => []
  | x :: t => (lnN x ++ [10]) ++ linesN t
def firstE : List S27 → Int
  | [] => 0
  | x :: t => if chkS x = 0 then firstE t else chkS x
def linesR (L : List S27) : ByteArray × Int := if firstE L = 0 then (strOfNums (linesN L), 0) else ((⟨#[]⟩ : ByteArray), firstE L)
theorem linesN_app (a b : List S27) : linesN (a ++ b) = linesN a ++ linesN b := by
  induction a with
  | nil => rfl
  | cons x t ih => simp only [List.cons_append, linesN, ih, List.append_assoc]
theorem rd_get (L : List S27) (i : Nat) (h : i < L.length) : rd_T27 L (i : Int) = L[i] := by
  simp [rd_T27, h]
theorem linesN_take (L : List S27) (i : Nat) (h : i < L.length) : linesN (L.take (i + 1)) = linesN (L.take i) ++ (lnN (L[i]) ++ [10]) := by
  rw [List.take_succ_eq_append_getElem h, linesN_app]
  simp [linesN]
theorem firstE_drop (L : List S27) (i : Nat) (h : i < L.length) : firstE (L.drop i) = if chkS (L[i]) = 0 then firstE (L.drop (i + 1)) else chkS (L[i]) := by
  rw [List.drop_eq_getElem_cons h]
  rfl
theorem lnN_len (x : S27) (h : litS x) : (lnN x).length ≤ 6014 := by
  have := lineN_len x.f0 x.f1 x.f2 x.f3.f1 x.f4
  have h1 := h.1
  have h2 := h.2
  unfold lnN
  omega
theorem linesN_len (L : List S27) (h : ∀ x ∈ L, litS x) : (linesN L).length ≤ 6015 * L.length := by
  induction L with
  | nil => simp [linesN]
  | cons x t ih =>
    have h1 := lnN_len x (h x (List.mem_cons_self ..))
    have h2 := ih (fun y hy => h y (List.mem_cons_of_mem _ hy))
    simp only [linesN, List.length_append, List.length_cons, List.length_nil]
    omega
theorem linesN_mem (L : List S27) : ∀ y ∈ linesN L, okN y ∨ y = 10 := by
  induction L with
  | nil => simp [linesN]
  | cons x t ih =>
    intro y hy
    simp only [linesN, List.mem_append, List.mem_singleton] at hy
    rcases hy with (h | h) | h
    · exact Or.inl (lineN_range _ _ _ _ _ y h)
    · exact Or.inr h
    · exact ih y h
theorem count_ok : ∀ l : List Int, (∀ y ∈ l, okN y) → l.count 10 = 0 := by
  intro l h
  rw [List.count_eq_zero]
  intro h10
  have := h 10 h10
  unfold okN at this
  omega
theorem linesN_count (L : List S27) : (linesN L).count 10 = L.length := by
  induction L with
  | nil => rfl
  | cons x t ih =>
    have := count_ok (lnN x) (lineN_range _ _ _ _ _)
    simp only [linesN, List.count_append, this, ih, List.length_cons]
    simp
    omega
theorem lineS_f (x : S27) (h : litS x) : item_Line.f x.f0 x.f1 x.f2 x.f3.f0 x.f3.f1 x.f3.f2 x.f3.f3.f0 x.f3.f3.f1 x.f3.f3.f2 x.f3.f3.f3 x.f3.f3.f4 x.f3.f4 x.f3.f5 x.f3.f6 x.f4 = some (if chkS x = 0 then (strOfNums (lnN x), 0) else ((⟨#[]⟩ : ByteArray), chkS x)) := by
  rw [line_f _ _ _ _ _ _ _ _ _ _ _ _ _ _ _ h.1 h.2, lineB_nums]
  rfl
theorem lines_loop (L : List S27) (hL : L.length ≤ 40) (hl : ∀ x ∈ L, litS x) : ∀ (m i k : Nat), L.length - i = m → i ≤ L.length → L.length - i + 1 ≤ k → item_Lines.l0 k (strOfNums (linesN (L.take i))) L (L.length : Int) (i : Int) = some (if firstE (L.drop i) = 0 then (strOfNums (linesN L), 0) else ((⟨#[]⟩ : ByteArray), firstE (L.drop i))) := by
  intro m
  induction m with
  | zero =>
    intro i k hm hi hk
    obtain ⟨k, rfl⟩ : ∃ j, k = j + 1 := ⟨k - 1, by omega⟩
    have he : i = L.length := by omega
    subst he
    rw [item_Lines.l0, if_neg (by omega), List.take_length, List.drop_length]
    rfl
  | succ m ih =>
    intro i k hm hi hk
    obtain ⟨k, rfl⟩ : ∃ j, k = j + 1 := ⟨k - 1, by omega⟩
    have hlt : i < L.length := by omega
    have hx := hl _ (List.getElem_mem hlt)
    rw [item_Lines.l0, if_pos (by omega), if_pos (by omega), if_pos (by omega), rd_get L i hlt, lineS_f _ hx, Option.bind_some, firstE_drop L i hlt]
    by_cases hc : chkS (L[i]) = 0
    · rw [if_pos hc, if_pos hc]
      dsimp only
      have e10 : (⟨#[10]⟩ : ByteArray) = strOfNums [10] := rfl
      have h1 := lnN_len _ hx
      have h2 := linesN_len (L.take i) (fun y hy => hl y (List.mem_of_mem_take hy))
      rw [List.length_take] at h2
      rw [if_pos rfl, if_pos (by rw [nums_size]; omega), e10, ← sn_append, ← sn_append, if_pos (by rw [nums_size, nums_size]; simp only [List.length_append, List.length_singleton]; omega), ← linesN_take L i hlt, wr64 _ (by omega) (by omega)]
      exact ih (i + 1) k (by omega) (by omega) (by omega)
    · rw [if_neg hc, if_neg hc]
      dsimp only
      rw [if_neg hc, if_neg hc]
theorem lines_f (L : List S27) (hL : L.length ≤ 40) (hl : ∀ x ∈ L, litS x) (k : Nat) (hk : 41 ≤ k) : item_Lines.f k L = some (linesR L) := by
  have := lines_loop L hL hl L.length 0 k (by omega) (by omega) (by omega)
  rw [List.take_zero, List.drop_zero] at this
  exact this
end Go.Proofs.Ytljpcmpjfklloaa.PA
