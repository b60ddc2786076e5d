/- Plain: a path's word, byte by byte. -/
import Derived.Test.YtljpcmpjfklloaaDoorPAfitemplain
import Derived.Test.YtljpcmpjfklloaaDoorPAx0
namespace Go.Proofs.YtljpcmpjfklloaaDoor.PA
open Go.RowKit Go.Proofs.YtljpcmpjfklloaaDoorW.PrintWords Go.Proofs.YtljpcmpjfklloaaDoorW.PrintLast Go.Proofs.YtljpcmpjfklloaaDoorW.PrintMore
attribute [local go_sem] max2_int min2_int max_two min_two max_three min_three max_four min_four
set_option linter.unusedVariables false
set_option linter.unusedSimpArgs false
def plainB (b : Int) : Bool := decide (32 < b) && decide (b < 127) && !(b == 37)
def hexd (n : Int) : Int := if n < 10 then 48 + n else 87 + n
def encB (b : Int) : List Int := if plainB b = true then [b] else [37, hexd (b / 16), hexd (b % 16)]
/-- the word of the first k bytes -/
def wordTo (s : ByteArray) : Nat → List Int
  | 0 => []
  | k + 1 => wordTo s k ++ encB (bt s (k : Int))
theorem wordTo_len (s : ByteArray) : ∀ k, (wordTo s k).length ≤ 3 * k
  | 0 => Nat.le_refl _
  | k + 1 => by
    have := wordTo_len s k
    unfold wordTo encB
    split <;> simp <;> omega
theorem plain_f (b : Int) : item_plain.f b = some (plainB b) := by
  unfold item_plain.f plainB
  by_cases h1 : b > 32
  · rw [if_pos h1, decide_eq_true (show 32 < b from h1)]
    by_cases h2 : b < 127
    · rw [if_pos h2, decide_eq_true h2]
      rfl
    · rw [if_neg h2, decide_eq_false h2]
      rfl
  · rw [if_neg h1, decide_eq_false (show ¬ 32 < b from h1)]
    rfl
theorem hex_at (n : Int) (h0 : 0 ≤ n) (h1 : n < 16) : ∀ h : n.toNat < (⟨#[48, 49, 50, 51, 52, 53, 54, 55, 56, 57, 97, 98, 99, 100, 101, 102]⟩ : ByteArray).size, (((⟨#[48, 49, 50, 51, 52, 53, 54, 55, 56, 57, 97, 98, 99, 100, 101, 102]⟩ : ByteArray)[n.toNat]'h).toNat : Int) = hexd n := by
  intro h
  have : n = 0 ∨ n = 1 ∨ n = 2 ∨ n = 3 ∨ n = 4 ∨ n = 5 ∨ n = 6 ∨ n = 7 ∨ n = 8 ∨ n = 9 ∨ n = 10 ∨ n = 11 ∨ n = 12 ∨ n = 13 ∨ n = 14 ∨ n = 15 := by omega
  rcases this with rfl | rfl | rfl | rfl | rfl | rfl | rfl | rfl | rfl | rfl | rfl | rfl | rfl | rfl | rfl | rfl <;> rfl
theorem hexd_range (n : Int) (h0 : 0 ≤ n) (h1 : n < 16) : 0 ≤ hexd n ∧ hexd n < 256 := by
  unfold hexd
  split <;> omega
end Go.Proofs.YtljpcmpjfklloaaDoor.PA
