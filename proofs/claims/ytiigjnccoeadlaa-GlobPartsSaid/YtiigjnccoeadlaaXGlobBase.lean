/- Signs of patterns as values: a kind, a byte, a flag and 256 members; how they are made and read. -/
import Derived.Deep.MidRow
import Derived.Test.YtiigjnccoeadlaaPAx0
namespace Go.Proofs.Ytiigjnccoeadlaa.PA
open Go.RowKit Go.Proofs.YtiigjnccoeadlaaW.PrintWords Go.Proofs.YtiigjnccoeadlaaW.PrintLast Go.Proofs.YtiigjnccoeadlaaW.PrintMore
attribute [local go_sem] max2_int min2_int max_two min_two max_three min_three max_four min_four
set_option linter.unusedVariables false
set_option linter.unusedSimpArgs false
structure Sg where
  k : Int
  c : Int
  n : Bool
  s : Nat → Bool
inductive Tok where
  | lit (c : Int)
  | star2
  | star
  | one
  | cls (n : Bool) (s : Nat → Bool)
def noS : Nat → Bool := fun _ => false
def sgz : Sg := ⟨0, 0, false, noS⟩
def codeSg : Tok → Sg
  | .lit c => ⟨0, c, false, noS⟩
  | .star2 => ⟨1, 0, false, noS⟩
  | .star => ⟨2, 0, false, noS⟩
  | .one => ⟨3, 0, false, noS⟩
  | .cls n s => ⟨4, 0, n, s⟩
def refSg : Tok → Sg
  | .lit c => ⟨0, c, false, noS⟩
  | .one => ⟨1, 63, false, noS⟩
  | .star => ⟨2, 42, false, noS⟩
  | .star2 => ⟨3, 42, false, noS⟩
  | .cls n s => ⟨4, 0, n, s⟩
def sgL (x : Sg) : List Value := .int .i64 x.k :: .int .u8 x.c :: .bool x.n :: (List.range 256).map (fun i => .bool (x.s i))
def sgA (x : Sg) : Array Value := (sgL x).toArray
theorem sgL_len (x : Sg) : (sgL x).length = 259 := by simp [sgL]
theorem sgA_len (x : Sg) : (sgA x).size = 259 := by simp [sgA, sgL_len]
theorem sgL_one (x : Sg) : ∀ u ∈ sgL x, u.oneCell' = true := by
  intro u hu
  simp only [sgL, List.mem_cons, List.mem_map] at hu
  rcases hu with rfl | rfl | rfl | ⟨i, _, rfl⟩ <;> rfl
theorem sgA_one (x : Sg) : (sgA x).all (·.oneCell') = true := all_oneCell_toArray (sgL_one x)
theorem sgL_get (x : Sg) (i : Nat) (h : i < 256) : (sgL x)[3 + i]? = some (.bool (x.s i)) := by
  rw [Nat.add_comm]
  simp [sgL, h]
theorem sgA_get (x : Sg) (i : Nat) (h : i < 256) : (sgA x)[3 + i]? = some (.bool (x.s i)) := by
  rw [sgA, List.getElem?_toArray, sgL_get x i h]
def addS (s : Nat → Bool) (j : Nat) : Nat → Bool := fun i => i == j || s i
theorem sg_set (k c : Int) (n : Bool) (s : Nat → Bool) (j : Nat) (h : j < 256) : (sgA ⟨k, c, n, s⟩).setIfInBounds (3 + j) (.bool true) = sgA ⟨k, c, n, addS s j⟩ := by
  apply Array.ext_getElem?
  intro i
  rw [Array.getElem?_setIfInBounds, sgA_len]
  by_cases hi : 3 + j = i
  · subst hi
    rw [if_pos rfl, if_pos (by omega), sgA_get _ _ h]
    simp [addS]
  · rw [if_neg hi]
    by_cases h3 : i < 3
    · have : i = 0 ∨ i = 1 ∨ i = 2 := by omega
      rcases this with rfl | rfl | rfl <;> simp only [sgA, sgL, List.getElem?_toArray, List.getElem?_cons_zero, List.getElem?_cons_succ]
    · obtain ⟨m, rfl⟩ : ∃ m, i = 3 + m := ⟨i - 3, by omega⟩
      by_cases hm : m < 256
      · rw [sgA_get _ _ hm, sgA_get _ _ hm]
        have : (m == j) = false := by simp; omega
        simp [addS, this]
      · rw [Array.getElem?_eq_none (by rw [sgA_len]; omega), Array.getElem?_eq_none (by rw [sgA_len]; omega)]
theorem sg_not (k c : Int) (n : Bool) (s : Nat → Bool) : (sgA ⟨k, c, n, s⟩).setIfInBounds 2 (.bool true) = sgA ⟨k, c, true, s⟩ := by
  simp only [sgA, sgL, List.setIfInBounds_toArray, List.set_cons_succ, List.set_cons_zero]
theorem sg_kind (k c k' : Int) (n : Bool) (s : Nat → Bool) : (sgA ⟨k, c, n, s⟩).setIfInBounds 0 (.int .i64 k') = sgA ⟨k', c, n, s⟩ := by
  simp only [sgA, sgL, List.setIfInBounds_toArray, List.set_cons_succ, List.set_cons_zero]
theorem sg_c (k c c' : Int) (n : Bool) (s : Nat → Bool) : (sgA ⟨k, c, n, s⟩).setIfInBounds 1 (.int .u8 c') = sgA ⟨k, c', n, s⟩ := by
  simp only [sgA, sgL, List.setIfInBounds_toArray, List.set_cons_succ, List.set_cons_zero]
theorem cells_sg : Value.cells (.agg (sgA sgz)) = sgA sgz := rfl
/-- A value of some cells, as a kind. -/
def kRow {α : Type} (n : Nat) (enc : α → List Value) (hl : ∀ x, (enc x).length = n) (h1 : ∀ x, ∀ u ∈ enc x, u.oneCell' = true) : Kd α where
  sz := n
  E := []
  K := fun _ x cs => cs = enc x
  M := fun _ _ _ x cs => cs = enc x
  K_len := fun h => by rw [h]; exact hl _
  K_one := fun h u hu => by
    rw [h] at hu
    exact h1 _ u hu
  K_below := fun _ h => h
  K_of_M := fun h => h
  M_mono := fun _ h => h
  M_bound := fun h => h
  M_move := fun _ h => h
  M_lower := fun _ h => h
def kSg : Kd Sg := kRow 259 sgL sgL_len sgL_one
theorem sgInfo1 : (Try.prog.info? 45).map (fun i => (i.zero, i.size, i.bytes)) = some (some (.agg (sgA sgz)), 259, 272) := by kernel_rfl
theorem sgInfo2 : (Try.prog.info? 34).map (fun i => (i.zero, i.size, i.bytes)) = some (some (.agg (sgA sgz)), 259, 272) := by kernel_rfl
theorem sgSize1 (x : Sg) : (Try.prog.info? 45).map (·.size) = some (sgA x).size := by rw [sgA_len]; kernel_rfl
theorem sgSize2 (x : Sg) : (Try.prog.info? 34).map (·.size) = some (sgA x).size := by rw [sgA_len]; kernel_rfl
theorem sgAlloc_of {P : Program} {t : TypeId} (h : (P.info? t).map (fun i => (i.zero, i.size, i.bytes)) = some (some (.agg (sgA sgz)), 259, 272)) (W : World) : (Instr.alloc t true (.tuple #[])).run P W = .ok (.pointer (some ⟨W.heap.size, 0, none⟩)) (W.alloc (.cells (sgA sgz) t)) := by
  cases hq : P.info? t with
  | none => simp [hq] at h
  | some i =>
    simp only [hq, Option.map_some, Option.some.injEq, Prod.mk.injEq] at h
    obtain ⟨h1, h2, h3⟩ := h
    simp [Instr.alloc, zeroValue, typeInfo, hq, h1, h2, newVar, newRow, cells_sg]
theorem sgZero_of {P : Program} {t : TypeId} (h : (P.info? t).map (fun i => (i.zero, i.size, i.bytes)) = some (some (.agg (sgA sgz)), 259, 272)) (W : World) : (zeroValue t).run P W = .ok (.agg (sgA sgz)) W := by
  cases hq : P.info? t with
  | none => simp [hq] at h
  | some i =>
    simp only [hq, Option.map_some, Option.some.injEq, Prod.mk.injEq] at h
    obtain ⟨h1, h2, h3⟩ := h
    simp [zeroValue, typeInfo, hq, h1]
theorem sgAlloc (W : World) : (zeroValue 45).run Try.prog W = .ok (.agg (sgA sgz)) W := sgZero_of sgInfo1 W
theorem sgAlloc2 (W : World) : (zeroValue 34).run Try.prog W = .ok (.agg (sgA sgz)) W := sgZero_of sgInfo2 W
end Go.Proofs.Ytiigjnccoeadlaa.PA
