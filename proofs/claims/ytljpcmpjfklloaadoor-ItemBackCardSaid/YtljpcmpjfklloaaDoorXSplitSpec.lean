/- Plain: the parts of a text between bytes 47, and a decoded rune beside the byte 47. -/
import Derived.Test.YtljpcmpjfklloaaDoorPAx0
namespace Go.Proofs.YtljpcmpjfklloaaDoor.PA
open Go.RowKit Go.Proofs.YtljpcmpjfklloaaDoorW.PrintWords Go.Proofs.YtljpcmpjfklloaaDoorW.PrintLast Go.Proofs.YtljpcmpjfklloaaDoorW.PrintMore
attribute [local go_sem] max2_int min2_int max_two min_two max_three min_three max_four min_four
set_option linter.unusedVariables false
set_option linter.unusedSimpArgs false
theorem wr64 (x : Int) (h1 : -9223372036854775808 ≤ x) (h2 : x < 9223372036854775808) : wrap64 x = x := by
  unfold wrap64
  omega
/-- the parts that end ahead of byte k, and where the next one begins -/
def splitTo (s : ByteArray) : Nat → List ByteArray × Nat
  | 0 => ([], 0)
  | k + 1 => if bt s (k : Int) = 47 then ((splitTo s k).1 ++ [s.extract (splitTo s k).2 k], k + 1) else splitTo s k
def splitL (s : ByteArray) : List ByteArray := if s.size = 0 then [] else (splitTo s s.size).1 ++ [s.extract (splitTo s s.size).2 s.size]
theorem splitTo_hit (s : ByteArray) (k : Nat) (h : bt s (k : Int) = 47) : splitTo s (k + 1) = ((splitTo s k).1 ++ [s.extract (splitTo s k).2 k], k + 1) := by
  rw [splitTo, if_pos h]
theorem splitTo_miss (s : ByteArray) (k : Nat) (h : ¬ bt s (k : Int) = 47) : splitTo s (k + 1) = splitTo s k := by
  rw [splitTo, if_neg h]
theorem splitTo_le (s : ByteArray) : ∀ k, (splitTo s k).2 ≤ k
  | 0 => Nat.le_refl _
  | k + 1 => by
    have := splitTo_le s k
    unfold splitTo
    split
    · exact Nat.le_refl _
    · omega
theorem splitTo_len (s : ByteArray) : ∀ k, (splitTo s k).1.length ≤ k
  | 0 => Nat.le_refl _
  | k + 1 => by
    have := splitTo_len s k
    unfold splitTo
    split
    · simp
      omega
    · omega
theorem splitTo_skip (s : ByteArray) (p : Nat) : ∀ m, (∀ j, j < m → ¬ bt s ((p + j : Nat) : Int) = 47) → splitTo s (p + m) = splitTo s p
  | 0, _ => rfl
  | m + 1, h => by
    rw [← Nat.add_assoc, splitTo_miss s (p + m) (h m (by omega))]
    exact splitTo_skip s p m (fun j hj => h j (by omega))
theorem bt_get (s : ByteArray) (k : Nat) (h : k < s.size) : bt s (k : Int) = ((s.get! k).toNat : Int) := by
  have e : s.get! k = s[k]'h := by
    simp [ByteArray.get!, getElem!_pos, h]
    rfl
  rw [e, bt, dif_pos (by simpa using h)]
  rfl
theorem dec47 (s : ByteArray) (p : Nat) (h : p < s.size) : 1 ≤ (Utf8.decode s p).2 ∧ p + (Utf8.decode s p).2 ≤ s.size ∧ (Utf8.decode s p).1 < 4294967296 ∧ (bt s (p : Int) = 47 → (Utf8.decode s p) = (47, 1)) ∧ (¬ bt s (p : Int) = 47 → ¬ (Utf8.decode s p).1 = 47 ∧ splitTo s (p + (Utf8.decode s p).2) = splitTo s p) := by
  have hb := bt_get s p h
  have key : 1 ≤ (Utf8.decode s p).2 ∧ p + (Utf8.decode s p).2 ≤ s.size ∧ (Utf8.decode s p).1 < 4294967296 ∧ ((s.get! p).toNat = 47 → (Utf8.decode s p) = (47, 1)) ∧ (¬ (s.get! p).toNat = 47 → ¬ (Utf8.decode s p).1 = 47 ∧ ∀ j, 1 ≤ j → j < (Utf8.decode s p).2 → p + j < s.size ∧ ¬ (s.get! (p + j)).toNat = 47) := by
    have l0 : (s.get! (p + 0)).toNat < 256 := UInt8.toNat_lt _
    have l1 : (s.get! (p + 1)).toNat < 256 := UInt8.toNat_lt _
    have l2 : (s.get! (p + 2)).toNat < 256 := UInt8.toNat_lt _
    have l3 : (s.get! (p + 3)).toNat < 256 := UInt8.toNat_lt _
    have z : s.get! p = s.get! (p + 0) := rfl
    have r : Utf8.runeError = 65533 := rfl
    rw [z]
    have J : ∀ (n j : Nat), 1 ≤ j → j < n → n ≤ 4 → j = 1 ∨ j = 2 ∨ j = 3 := by omega
    unfold Utf8.decode
    simp only [Bool.and_eq_true, decide_eq_true_eq, beq_iff_eq]
    repeat' split
    all_goals first
      | (refine ⟨by dsimp only; omega, by dsimp only; omega, by dsimp only; omega, fun hh => by first | omega | (rw [hh]; done) | (exact absurd hh (by omega)), fun hh => ⟨by dsimp only; omega, fun j hj hj2 => ?_⟩⟩; dsimp only at hj2; omega)
      | (refine ⟨by dsimp only; omega, by dsimp only; omega, by dsimp only; omega, fun hh => by first | omega | (rw [hh]; done) | (exact absurd hh (by omega)), fun hh => ⟨by dsimp only; omega, fun j hj hj2 => ?_⟩⟩; dsimp only at hj2; rcases J _ j hj hj2 (by omega) with rfl | rfl | rfl <;> omega)
  obtain ⟨k1, k2, k3, k4, k5⟩ := key
  refine ⟨k1, k2, k3, fun hh => k4 (by omega), fun hh => ?_⟩
  obtain ⟨m1, m2⟩ := k5 (by omega)
  refine ⟨m1, splitTo_skip s p _ (fun j hj => ?_)⟩
  cases j with
  | zero => exact hh
  | succ j =>
    obtain ⟨q1, q2⟩ := m2 (j + 1) (by omega) hj
    rw [bt_get s _ q1]
    omega
end Go.Proofs.YtljpcmpjfklloaaDoor.PA
