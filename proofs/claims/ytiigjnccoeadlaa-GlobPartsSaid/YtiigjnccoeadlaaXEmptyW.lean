/- The walk of empty: signs that may match no bytes are passed over. -/
import Derived.Laws.CopyOwn
import Derived.Outline
import Derived.RegionTactic
import Derived.Test.YtiigjnccoeadlaaPAx0
import Derived.Test.YtiigjnccoeadlaaXGlobApp
import Derived.Test.YtiigjnccoeadlaaXGlobBase
import Derived.Test.YtiigjnccoeadlaaXTakesW
namespace Go.Proofs.Ytiigjnccoeadlaa.PA
open Go.RowKit Go.Proofs.YtiigjnccoeadlaaW.PrintWords Go.Proofs.YtiigjnccoeadlaaW.PrintLast Go.Proofs.YtiigjnccoeadlaaW.PrintMore
attribute [local go_sem] max2_int min2_int max_two min_two max_three min_three max_four min_four
set_option linter.unusedVariables false
set_option linter.unusedSimpArgs false
def bA (f : Nat → Bool) (n : Nat) : Array Value := ((List.range n).map fun i => .bool (f i)).toArray
theorem bA_len (f : Nat → Bool) (n : Nat) : (bA f n).size = n := by simp [bA]
theorem bA_get (f : Nat → Bool) (n i : Nat) (h : i < n) : (bA f n)[i]? = some (.bool (f i)) := by simp [bA, h]
theorem bA_set (f : Nat → Bool) (n j : Nat) : (bA f n).setIfInBounds j (.bool true) = bA (addS f j) n := by
  apply Array.ext_getElem?
  intro i
  rw [Array.getElem?_setIfInBounds, bA_len]
  by_cases hn : i < n
  · rw [bA_get _ _ _ hn, bA_get _ _ _ hn]
    by_cases hi : j = i
    · subst hi
      rw [if_pos rfl, if_pos hn]
      simp [addS]
    · have : (i == j) = false := beq_eq_false_iff_ne.2 (Ne.symm hi)
      rw [if_neg hi]
      simp [addS, this]
  · rw [Array.getElem?_eq_none (by rw [bA_len]; omega)]
    by_cases hi : j = i
    · subst hi
      rw [if_pos rfl, if_neg hn, Array.getElem?_eq_none (by rw [bA_len]; omega)]
    · rw [if_neg hi, Array.getElem?_eq_none (by rw [bA_len]; omega)]
theorem bA_made (n : Nat) : madeCells #[.bool false] n = bA noS n := by
  apply Array.ext_getElem?
  intro i
  by_cases hn : i < n
  · rw [bA_get _ _ _ hn]
    simp [madeCells, hn, noS, Nat.mod_one]
  · rw [Array.getElem?_eq_none (xs := madeCells #[.bool false] n) (by simp [madeCells]; omega), Array.getElem?_eq_none (by rw [bA_len]; omega)]
/-- A row of signs as a slice's value: where it lies. -/
def SgVal (T : Nat) (w : World) (A : Option Addr) (l : List Sg) : Prop := l ≠ [] → ∃ g cur, A = some ⟨g, 0, none⟩ ∧ w.heap[g]? = some (.cells cur T (0, 0)) ∧ ∀ j x, l[j]? = some x → ∀ i u, (sgL x)[i]? = some u → cur[j * 259 + i]? = some u
theorem SgVal.of {T : Nat} {w0 w : World} {v : Value} {l : List Sg} (h : SgRow T w0 w v l) : ∃ A c, v = .slice A l.length c ∧ SgVal T w A l := by
  obtain ⟨_, _, inner, ⟨h1, h2⟩, h3⟩ := h
  rcases h2 with ⟨rfl, h0⟩ | ⟨g, cap, cur, rfl, _, hh, _, _, _, ht⟩
  · exact ⟨none, 0, by rw [h0], fun hl => absurd (List.length_eq_zero_iff.1 h0) hl⟩
  · have ht : List.take (l.length * 259) cur.toList = inner := ht
    refine ⟨_, cap, rfl, fun _ => ⟨g, cur, rfl, hh, fun j x hj i u hi => ?_⟩⟩
    have hr : (inner.drop (j * 259)).take 259 = sgL x := h3.2 j x hj
    have hi2 : i < 259 := by
      have := (List.getElem?_eq_some_iff.1 hi).1
      rwa [sgL_len] at this
    have hjl := (List.getElem?_eq_some_iff.1 hj).1
    have hi' := hi
    rw [← hr, List.getElem?_take_of_lt hi2, List.getElem?_drop, ← ht] at hi'
    have hlt : j * 259 + i < l.length * 259 := by
      have : (j + 1) * 259 ≤ l.length * 259 := Nat.mul_le_mul_right _ hjl
      omega
    rw [List.getElem?_take_of_lt hlt] at hi'
    rwa [Array.getElem?_toList] at hi'
theorem SgVal.of_map {T : Nat} {w0 w : World} {v : Value} {l : List Tok} {f : Tok → Sg} (h : SgRow T w0 w v (l.map f)) : ∃ A c, v = .slice A l.length c ∧ SgVal T w A (l.map f) := by
  obtain ⟨A, c, rfl, h2⟩ := SgVal.of h
  exact ⟨A, c, by rw [List.length_map], h2⟩
theorem SgVal.step {T : Nat} {w w2 : World} {A : Option Addr} {l : List Sg} (h : SgVal T w A l) (hb : Below w.heap.size w w2) : SgVal T w2 A l := fun hl => by
  obtain ⟨g, cur, h1, h2, h3⟩ := h hl
  exact ⟨g, cur, h1, blk_below h2 hb, h3⟩
theorem SgVal.row {T t : Nat} {w : World} {A : Option Addr} {l : List Sg} {ga : Nat} {X : Array Value} (h : SgVal T w A l) (hb : w.heap[ga]? = some (.cells X t (0, 0))) (hne : T ≠ t) (Y : Array Value) : SgVal T (w.setRow ga Y) A l := fun hl => by
  obtain ⟨g, cur, h1, h2, h3⟩ := h hl
  refine ⟨g, cur, h1, (setRow_other _ _ _ _ ?_).trans h2, h3⟩
  rintro rfl
  rw [h2] at hb
  injection hb with hb
  injection hb with _ hb
  exact hne hb
theorem SgVal.has {T : Nat} {w : World} {A : Option Addr} {l : List Sg} (h : SgVal T w A l) (k : Nat) (x : Sg) (hk : l[k]? = some x) : ∃ g, A = some ⟨g, 0, none⟩ ∧ SgHas w g (k * 259) x := by
  obtain ⟨g, cur, h1, h2, h3⟩ := h (by rintro rfl; simp at hk)
  exact ⟨g, h1, fun i u hi => (blk_cell h2 _).trans (h3 k x hk i u hi)⟩
theorem setRow_cell {w : World} {g t : Nat} {cs : Array Value} (h : w.heap[g]? = some (.cells cs t (0, 0))) (i : Nat) (u : Value) : w.setCell ⟨g, i, none⟩ u = w.setRow g (cs.setIfInBounds i u) := setCell_eq_setRow w g i cs t (0, 0) u h
def starT : Tok → Bool
  | .star2 => true
  | .star => true
  | _ => false
def kindT (t : Tok) : Int := (codeSg t).k
theorem kindT_star {t : Tok} (h : starT t = true) : kindT t = 1 ∨ kindT t = 2 := by
  cases t <;> first | exact .inl rfl | exact .inr rfl | exact absurd h (by simp [starT])
theorem kindT_no {t : Tok} (h : starT t = false) : (kindT t == 1) = false ∧ (kindT t == 2) = false := by
  cases t <;> first | exact ⟨rfl, rfl⟩ | exact absurd h (by simp [starT])
def emS (l : List Tok) (f : Nat → Bool) : Nat → (Nat → Bool)
  | 0 => f
  | k + 1 => if (emS l f k k && starT (l.getD k .one)) = true then addS (emS l f k) (k + 1) else emS l f k
set_option maxHeartbeats 4000000 in
set_option maxRecDepth 100000 in
theorem empty_call (l : List Tok) (A : Option Addr) (cp ga ca : Nat) (f : Nat → Bool) (w : World) (hl : l.length < 1000000) (hS : SgVal 45 w A (l.map codeSg)) (hA : w.heap[ga]? = some (.cells (bA f (l.length + 1)) 4 (0, 0))) :
    Calls Try.prog 23 #[.slice A l.length cp, .slice (some ⟨ga, 0, none⟩) (l.length + 1) ca] w fun e w' => e = .returned (.tuple #[]) ∧ w' = w.setRow ga (bA (emS l f l.length) (l.length + 1)) := by
  have HS := Aside0.mk hS
  have HA := Aside0.mk hA
  clear hS hA
  have h0 := Aside0.mk (show w = w.setRow ga (bA (emS l f 0) (l.length + 1)) from (setRow_self w ga _ _ _ HA.out).symm)
  go_enter Try.func23, Try.ntmps23
  go_wp2
  go_loopw [7] (fun v7 wr => ∃ k : Nat, v7 = .int .i64 k ∧ k ≤ l.length ∧ Aside0 (wr = w.setRow ga (bA (emS l f k) (l.length + 1)))) (fun v7 _ => l.length - (intOf v7).toNat)
  case atStart => exact ⟨0, rfl, Nat.zero_le _, h0⟩
  case round =>
    clear h0
    obtain ⟨k, rfl, hk, HW⟩ := hrel
    by_cases hlt : k < l.length
    · have e0 : ((k : Int) < (l.length : Int)) = True := eq_true (by omega)
      have e1 : ((k : Int) < ((l.length : Int) + 1)) = True := eq_true (by omega)
      have e2 : (((k : Int) + 1) < ((l.length : Int) + 1)) = True := eq_true (by omega)
      have HB := Aside0.mk (show wr.heap[ga]? = some (.cells (bA (emS l f k) (l.length + 1)) 4 (0, 0)) by rw [HW.out]; exact setRow_heap _ _ _ _ _ _ HA.out)
      obtain ⟨t, ht⟩ : ∃ t, l[k]? = some t := ⟨_, List.getElem?_eq_getElem hlt⟩
      have hmk : (l.map codeSg)[k]? = some (codeSg t) := by rw [List.getElem?_map, ht]; rfl
      have hS1 : SgVal 45 wr A (l.map codeSg) := by rw [HW.out]; exact HS.out.row HA.out (by decide) _
      obtain ⟨g, hg, hh⟩ := hS1.has k _ hmk
      have hkd := hh 0 (.int .i64 (kindT t)) rfl
      rw [Nat.add_zero] at hkd
      have hgd : l.getD k .one = t := by rw [List.getD_eq_getElem?_getD, ht]; rfl
      have hat := (blk_cell HB.out k).trans (bA_get _ _ k (by omega))
      have hst := (blk_cell HB.out (k + 1)).trans (bA_get _ _ (k + 1) (by omega))
      have hfr := blk_frozen HB.out (k + 1)
      clear hh hS1 hmk ht
      have hem : emS l f (k + 1) = (if (emS l f k k && starT t) = true then addS (emS l f k) (k + 1) else emS l f k) := by rw [emS, hgd]
      clear hgd
      subst hg
      by_cases hb : emS l f k k = true
      · rw [hb] at hat
        by_cases hst2 : starT t = true
        · have HE := Aside0.mk (show emS l f (k + 1) = addS (emS l f k) (k + 1) by rw [hem, hb, hst2]; rfl)
          clear hem
          rcases kindT_star hst2 with hkk | hkk
          all_goals
            rw [hkk] at hkd
            clear hkk hst2 hb
            go_wp2
            have n0_ := Aside0.mk (setRow_cell HB.out (k + 1) (.bool true))
            go_roundw
            case rel => exact ⟨k + 1, by go_num, by omega, ⟨by rw [n0_.out, bA_set, HE.out, HW.out, setRow_setRow]⟩⟩
            case measure => simp [intOf]; omega
        · have hst3 : starT t = false := Bool.eq_false_iff.2 hst2
          have HE := Aside0.mk (show emS l f (k + 1) = emS l f k by rw [hem, hb, hst3]; rfl)
          clear hem
          obtain ⟨q1, q2⟩ := kindT_no hst3
          clear hst2 hst3 hb
          go_wp2
          go_roundw
          case rel => exact ⟨k + 1, by go_num, by omega, ⟨by rw [HE.out]; exact HW.out⟩⟩
          case measure => simp [intOf]; omega
      · have hb2 : emS l f k k = false := Bool.eq_false_iff.2 hb
        have HE := Aside0.mk (show emS l f (k + 1) = emS l f k by rw [hem, hb2]; rfl)
        rw [hb2] at hat
        clear hem hb hb2
        go_wp2
        go_roundw
        case rel => exact ⟨k + 1, by go_num, by omega, ⟨by rw [HE.out]; exact HW.out⟩⟩
        case measure => simp [intOf]; omega
    · obtain rfl : k = l.length := by omega
      have e0 : ((l.length : Int) < (l.length : Int)) = False := eq_false (by omega)
      go_wp2
      go_end0
      exact ⟨rfl, HW.out⟩
end Go.Proofs.Ytiigjnccoeadlaa.PA
