/- symMerge of a row of structs: one element ahead of a run. -/
import Derived.Lib.QuietBelow
import Derived.Shelf.SlSortCmp.InsertionK
import Derived.Test.YtodbmagneaiocaaASG1
import Derived.Test.YtodbmagneaiocaaASG3
import Derived.BigQuiet
import Derived.Deep.QuietTactic
import Derived.Laws.NewBlocks
import Derived.Outline
import Derived.Sort.Statements
namespace Go.Proofs.Ytodbmagneaiocaa.PA
open Go.RowKit Go.Proofs.YtodbmagneaiocaaW.PrintWords Go.Proofs.YtodbmagneaiocaaW.PrintLast Go.Proofs.YtodbmagneaiocaaW.PrintMore
attribute [local go_sem] max2_int min2_int max_two min_two max_three min_three max_four min_four
set_option linter.unusedVariables false
set_option linter.unusedSimpArgs false
open Go Go.Shelf Go.Lib Go.Sort
abbrev E43 := {x : S43 // sml x.f0}
instance : Inhabited E43 := ⟨⟨z43, Nat.zero_le _⟩⟩
def cells43 (x : S43) : List Value := [.string x.f0, .int .i64 x.f1, .int .i64 x.f2, .int .i64 x.f3.f0, .int .i64 x.f3.f1, .int .i64 x.f3.f2, .int .i64 x.f3.f3, .int .i64 x.f3.f4, .string x.f4, .string x.f5, .int .i64 x.f6]
def enc43 (x : E43) : List Value := cells43 x.1
theorem enc43_len (x : E43) : (enc43 x).length = 11 := rfl
theorem enc43_one (x : E43) : ∀ v ∈ enc43 x, v.oneCell' = true := by
 intro v hv
 simp only [enc43, cells43, List.mem_cons, List.not_mem_nil, or_false] at hv
 rcases hv with rfl | rfl | rfl | rfl | rfl | rfl | rfl | rfl | rfl | rfl | rfl <;> rfl
theorem lift43 : ∀ l : List S43, (∀ x ∈ l, sml x.f0) → ∃ m : List E43, m.map (·.1) = l
 | [], _ => ⟨[], rfl⟩
 | x :: l, h => by
  obtain ⟨m, hm⟩ := lift43 l (fun y hy => h y (by simp [hy]))
  exact ⟨⟨x, h x (by simp)⟩ :: m, by simp [hm]⟩
theorem row_holds {W : World} {base : Nat} {v : Value} (m : List E43) (h : Kd.R k43 43 W base (fun _ => True) v (m.map (·.1))) :
  (v = .slice none 0 0 ∧ m = []) ∨ ∃ g cap cur, v = .slice (some ⟨g, 0, none⟩) m.length cap ∧ base ≤ g ∧ W.heap[g]? = some (.cells cur 43 (0, 0)) ∧ m.length ≤ cap ∧ cap ≤ maxLen ∧ cur.size = cap * 11 ∧ HoldsK enc43 11 W g 0 m.toArray := by
 obtain ⟨_, inner, ho, hr⟩ := h
 have hml : (m.map (·.1)).length = m.length := List.length_map _
 rw [hml] at ho
 obtain ⟨hil, ho⟩ := ho
 rcases ho with ⟨rfl, h0⟩ | ⟨g, cap, cur, rfl, hb, hh, h1, h2, h3, h4⟩
 ·exact Or.inl ⟨rfl, List.length_eq_zero_iff.1 h0⟩
 ·refine Or.inr ⟨g, cap, cur, rfl, hb, hh, h1, h2, h3, fun t ht => ?_⟩
  rw [size_flatK] at ht
  have ht' : t < m.length * 11 := by simpa using ht
  refine ⟨?_, by rw [Nat.zero_add]; exact blk_frozen hh t⟩
  rw [Nat.zero_add, blk_cell hh t, get_flatK enc43 11 m.toArray t ht]
  have hj : t / 11 < m.length := by omega
  have hp : (m.map (·.1))[t / 11]? = some (m[t / 11]).1 := by rw [List.getElem?_map, List.getElem?_eq_getElem hj]; rfl
  have hc := k43_openM (hr.2 (t / 11) _ hp)
  have hc : (inner.drop (t / 11 * 11)).take 11 = cells43 (m[t / 11]).1 := hc
  have he : inner[t]? = (cells43 (m[t / 11]).1)[t % 11]? := by
   rw [← hc, List.getElem?_take, if_pos (by omega), List.getElem?_drop]
   congr 1
   omega
  have hcur : cur[t]? = inner[t]? := by
   rw [← h4, List.getElem?_take, if_pos (by show t < m.length * k43.sz; exact ht'), Array.getElem?_toList]
  have hd : m.toArray[t / 11]! = m[t / 11] := by
   simp [hj]
  rw [hcur, he, hd]
  show (cells43 (m[t / 11]).1)[t % 11]? = some ((cells43 (m[t / 11]).1)[t % 11]!)
  have hl : (cells43 (m[t / 11]).1).length = 11 := rfl
  rw [List.getElem?_eq_getElem (by omega), getElem!_pos _ _ (by omega)]
theorem holds_row {W : World} {base g cap : Nat} {cur : Array Value} (d : Array E43) (hb : base ≤ g) (hh : W.heap[g]? = some (.cells cur 43 (0, 0))) (h1 : d.size ≤ cap) (h2 : cap ≤ maxLen) (h3 : cur.size = cap * 11) (hH : HoldsK enc43 11 W g 0 d) :
  Kd.R k43 43 W base (fun _ => True) (.slice (some ⟨g, 0, none⟩) d.size cap) (d.toList.map (·.1)) := by
 have hml : (d.toList.map (·.1)).length = d.size := by rw [List.length_map, Array.length_toList]
 refine ⟨fun _ _ => trivial, cur.toList.take (d.size * 11), ?_, ?_⟩
 ·rw [hml]
  refine ⟨?_, Or.inr ⟨g, cap, cur, rfl, hb, hh, h1, h2, h3, rfl⟩⟩
  rw [List.length_take, Array.length_toList, h3]
  show min (d.size * 11) (cap * 11) = d.size * 11
  omega
 ·refine ⟨?_, fun j p hp => ?_⟩
  ·rw [hml, List.length_take, Array.length_toList, h3]
   show min (d.size * 11) (cap * 11) = d.size * 11
   omega
  ·have hj : j < d.size := by
    have := (List.getElem?_eq_some_iff.1 hp).1
    omega
   have hpe : p = (d[j]).1 := by
    rw [List.getElem?_map, List.getElem?_eq_getElem (by rw [Array.length_toList]; exact hj)] at hp
    simpa using hp.symm
   have hcell : ((cur.toList.take (d.size * 11)).drop (j * 11)).take 11 = cells43 p := by
    apply List.ext_getElem?
    intro i
    by_cases hi : i < 11
    ·rw [List.getElem?_take, if_pos hi, List.getElem?_drop, List.getElem?_take, if_pos (by omega), Array.getElem?_toList]
     have hF := (hH (j * 11 + i) (by rw [size_flatK]; omega)).1
     rw [Nat.zero_add, blk_cell hh (j * 11 + i), get_flatK enc43 11 d _ (by omega)] at hF
     rw [hF, show (j * 11 + i) / 11 = j by omega, show (j * 11 + i) % 11 = i by omega, hpe, getElem!_pos d j hj]
     show some ((cells43 (d[j]).1)[i]!) = (cells43 (d[j]).1)[i]?
     have hl : (cells43 (d[j]).1).length = 11 := rfl
     rw [List.getElem?_eq_getElem (by omega), getElem!_pos _ _ (by omega)]
    ·rw [List.getElem?_eq_none (by rw [List.length_take]; omega), List.getElem?_eq_none (by show 11 ≤ i; omega)]
   show k43.M W base _ p (((cur.toList.take (d.size * 11)).drop (j * 11)).take 11)
   rw [hcell]
   exact k43_mkM _ _ _ p
theorem sWB_row (w : World) (g q : Nat) (d : Array E43) (os : Array Obj) (cur : Array Value) (hh : w.heap[g]? = some (.cells cur 43 (0, 0))) : ∃ cur', (sWB enc43 11 w g 0 q d os).heap[g]? = some (.cells cur' 43 (0, 0)) ∧ cur'.size = cur.size := by
 have hlt : g < w.heap.size := (Array.getElem?_eq_some_iff.1 hh).1
 refine ⟨putCells id 0 (flatK enc43 11 d) cur, ?_, by unfold putCells; simp⟩
 unfold sWB grow redrawn putRowK putRow mapBlock
 show ((w.heap.modify g _) ++ os)[g]? = _
 rw [Array.getElem?_append_left (by rw [Array.size_modify]; exact hlt), Array.getElem?_modify, if_pos rfl, hh]
 rfl
theorem sWB_below (w : World) (g q b : Nat) (d : Array E43) (os : Array Obj) (hb : b ≤ g) (hg : g < w.heap.size) : Below b w (sWB enc43 11 w g 0 q d os) := by
 refine ⟨rfl, rfl, rfl, sWB_size enc43 11 w g 0 q d os, fun k hk => ?_⟩
 unfold sWB grow redrawn putRowK putRow mapBlock
 show ((w.heap.modify g _) ++ os)[k]? = _
 rw [Array.getElem?_append_left (by rw [Array.size_modify]; omega), Array.getElem?_modify, if_neg (by omega)]
end Go.Proofs.Ytodbmagneaiocaa.PA
namespace Go.Proofs.Ytodbmagneaiocaa.PA
open Go.RowKit Go.Proofs.YtodbmagneaiocaaW.PrintWords Go.Proofs.YtodbmagneaiocaaW.PrintLast Go.Proofs.YtodbmagneaiocaaW.PrintMore
attribute [local go_sem] max2_int min2_int max_two min_two max_three min_three max_four min_four
set_option linter.unusedVariables false
set_option linter.unusedSimpArgs false
def ltS (x y : S43) : Bool := decide (cmpL (splitL x.f0) (splitL y.f0) < 0)
def cf43 (x y : E43) : Int := if ltS x.1 y.1 = true then -1 else if ltS y.1 x.1 = true then 1 else 0
theorem ltOf_cf43 (x y : E43) : ltOf cf43 x y = ltS x.1 y.1 := by
 unfold ltOf cf43
 by_cases h : ltS x.1 y.1 = true
 ·rw [if_pos h, h]
  rfl
 ·rw [if_neg h, show ltS x.1 y.1 = false by simpa using h]
  split <;> rfl
set_option maxHeartbeats 2000000 in
set_option maxRecDepth 100000 in
theorem lessE_call (x y : S43) (hx : sml x.f0) (hy : sml y.f0) (w : World) :
  Calls Try.prog 35 #[.agg #[.string x.f0, .int .i64 x.f1, .int .i64 x.f2, .int .i64 x.f3.f0, .int .i64 x.f3.f1, .int .i64 x.f3.f2, .int .i64 x.f3.f3, .int .i64 x.f3.f4, .string x.f4, .string x.f5, .int .i64 x.f6], .agg #[.string y.f0, .int .i64 y.f1, .int .i64 y.f2, .int .i64 y.f3.f0, .int .i64 y.f3.f1, .int .i64 y.f3.f2, .int .i64 y.f3.f3, .int .i64 y.f3.f4, .string y.f4, .string y.f5, .int .i64 y.f6]] w fun e w' => e = .returned (.bool (ltS x y)) ∧ Below w.heap.size w w' := by
 have hu := Try.underlying43
 obtain ⟨k, hk⟩ : ∃ k, k = 1048600 := ⟨_, rfl⟩
 have hl := fun W => path_Less.calls k x.f0 y.f0 _ W (less_f x.f0 y.f0 hx hy k (by omega))
 have HB := Aside0.mk (below_alloc (below_alloc (Below.refl w.heap.size w) (.cells #[.string x.f0, .int .i64 x.f1, .int .i64 x.f2, .int .i64 x.f3.f0, .int .i64 x.f3.f1, .int .i64 x.f3.f2, .int .i64 x.f3.f3, .int .i64 x.f3.f4, .string x.f4, .string x.f5, .int .i64 x.f6] 43 (0, 0))) (.cells #[.string y.f0, .int .i64 y.f1, .int .i64 y.f2, .int .i64 y.f3.f0, .int .i64 y.f3.f1, .int .i64 y.f3.f2, .int .i64 y.f3.f3, .int .i64 y.f3.f4, .string y.f4, .string y.f5, .int .i64 y.f6] 43 (0, 0)))
 go_enter Try.func35, Try.ntmps35
 go_wp2_with (go_at_call 33; (with_reducible refine (hl _).mono ?_); rintro e w1 ⟨rfl, hb⟩; have n0_ := Aside0.mk (below_step HB.out hb); clear HB hb; have HB := n0_; clear n0_)
 go_ret
 exact ⟨rfl, HB.out⟩
set_option maxHeartbeats 4000000 in
set_option maxRecDepth 100000 in
theorem cmpE_call (x y : E43) (g : Nat) (w : World) (hg : w.cell? ⟨g, 0, none⟩ = some (.func (.func 35) #[] #[])) :
  Calls Try.prog 41 #[.agg (enc43 x).toArray, .agg (enc43 y).toArray, .pointer (some ⟨g, 0, none⟩)] w fun e w' => e = .returned (.int .i64 (cf43 x y)) ∧ Below w.heap.size w w' := by
 obtain ⟨x, hx⟩ := x
 obtain ⟨y, hy⟩ := y
 have hlt := World.block_lt_of_cell? w _ hg
 have HG := Aside0.mk hg
 have HL := Aside0.mk hlt
 have hu := Try.underlying43
 show Calls Try.prog 41 #[.agg #[.string x.f0, .int .i64 x.f1, .int .i64 x.f2, .int .i64 x.f3.f0, .int .i64 x.f3.f1, .int .i64 x.f3.f2, .int .i64 x.f3.f3, .int .i64 x.f3.f4, .string x.f4, .string x.f5, .int .i64 x.f6], .agg #[.string y.f0, .int .i64 y.f1, .int .i64 y.f2, .int .i64 y.f3.f0, .int .i64 y.f3.f1, .int .i64 y.f3.f2, .int .i64 y.f3.f3, .int .i64 y.f3.f4, .string y.f4, .string y.f5, .int .i64 y.f6], .pointer (some ⟨g, 0, none⟩)] w _
 have HB := Aside0.mk (below_alloc (below_alloc (Below.refl w.heap.size w) (.cells #[.string x.f0, .int .i64 x.f1, .int .i64 x.f2, .int .i64 x.f3.f0, .int .i64 x.f3.f1, .int .i64 x.f3.f2, .int .i64 x.f3.f3, .int .i64 x.f3.f4, .string x.f4, .string x.f5, .int .i64 x.f6] 43 (0, 0))) (.cells #[.string y.f0, .int .i64 y.f1, .int .i64 y.f2, .int .i64 y.f3.f0, .int .i64 y.f3.f1, .int .i64 y.f3.f2, .int .i64 y.f3.f3, .int .i64 y.f3.f4, .string y.f4, .string y.f5, .int .i64 y.f6] 43 (0, 0)))
 have hc0 : ((w.alloc (.cells #[.string x.f0, .int .i64 x.f1, .int .i64 x.f2, .int .i64 x.f3.f0, .int .i64 x.f3.f1, .int .i64 x.f3.f2, .int .i64 x.f3.f3, .int .i64 x.f3.f4, .string x.f4, .string x.f5, .int .i64 x.f6] 43 (0, 0))).alloc (.cells #[.string y.f0, .int .i64 y.f1, .int .i64 y.f2, .int .i64 y.f3.f0, .int .i64 y.f3.f1, .int .i64 y.f3.f2, .int .i64 y.f3.f3, .int .i64 y.f3.f4, .string y.f4, .string y.f5, .int .i64 y.f6] 43 (0, 0))).cell? ⟨g, 0, none⟩ = some (.func (.func 35) #[] #[]) := (HB.out.cell hlt).trans hg
 have B1 := Aside0.mk (blk_alloc (blk_new w (.cells #[.string x.f0, .int .i64 x.f1, .int .i64 x.f2, .int .i64 x.f3.f0, .int .i64 x.f3.f1, .int .i64 x.f3.f2, .int .i64 x.f3.f3, .int .i64 x.f3.f4, .string x.f4, .string x.f5, .int .i64 x.f6] 43 (0, 0))) (.cells #[.string y.f0, .int .i64 y.f1, .int .i64 y.f2, .int .i64 y.f3.f0, .int .i64 y.f3.f1, .int .i64 y.f3.f2, .int .i64 y.f3.f3, .int .i64 y.f3.f4, .string y.f4, .string y.f5, .int .i64 y.f6] 43 (0, 0)))
 have B2 : Aside0 (((w.alloc (.cells #[.string x.f0, .int .i64 x.f1, .int .i64 x.f2, .int .i64 x.f3.f0, .int .i64 x.f3.f1, .int .i64 x.f3.f2, .int .i64 x.f3.f3, .int .i64 x.f3.f4, .string x.f4, .string x.f5, .int .i64 x.f6] 43 (0, 0))).alloc (.cells #[.string y.f0, .int .i64 y.f1, .int .i64 y.f2, .int .i64 y.f3.f0, .int .i64 y.f3.f1, .int .i64 y.f3.f2, .int .i64 y.f3.f3, .int .i64 y.f3.f4, .string y.f4, .string y.f5, .int .i64 y.f6] 43 (0, 0))).heap[w.heap.size + 1]? = some (.cells #[.string y.f0, .int .i64 y.f1, .int .i64 y.f2, .int .i64 y.f3.f0, .int .i64 y.f3.f1, .int .i64 y.f3.f2, .int .i64 y.f3.f3, .int .i64 y.f3.f4, .string y.f4, .string y.f5, .int .i64 y.f6] 43 (0, 0))) := ⟨by
  have := blk_new (w.alloc (.cells #[.string x.f0, .int .i64 x.f1, .int .i64 x.f2, .int .i64 x.f3.f0, .int .i64 x.f3.f1, .int .i64 x.f3.f2, .int .i64 x.f3.f3, .int .i64 x.f3.f4, .string x.f4, .string x.f5, .int .i64 x.f6] 43 (0, 0))) (.cells #[.string y.f0, .int .i64 y.f1, .int .i64 y.f2, .int .i64 y.f3.f0, .int .i64 y.f3.f1, .int .i64 y.f3.f2, .int .i64 y.f3.f3, .int .i64 y.f3.f4, .string y.f4, .string y.f5, .int .i64 y.f6] 43 (0, 0))
  rwa [World.size_alloc] at this⟩
 have h1 := fun W => lessE_call x y hx hy W
 have h2 := fun W => lessE_call y x hy hx W
 obtain ⟨b1, hb1⟩ : ∃ b, ltS x y = b := ⟨_, rfl⟩
 obtain ⟨b2, hb2⟩ : ∃ b, ltS y x = b := ⟨_, rfl⟩
 have HR : Aside0 (cf43 ⟨x, hx⟩ ⟨y, hy⟩ = if b1 = true then -1 else if b2 = true then 1 else 0) := ⟨by unfold cf43; rw [hb1, hb2]⟩
 simp only [hb1] at h1
 simp only [hb2] at h2
 clear hg hlt hb1 hb2
 cases b1 with
 | true =>
  go_enter Try.func41, Try.ntmps41
  go_wp2_with (first | (go_at_call 35; (with_reducible refine (h1 _).mono ?_); rintro e w9 ⟨rfl, hb⟩; have n0_ := Aside0.mk (below_step HB.out hb); have BX := Aside0.mk (blk_below B1.out hb); have BY := Aside0.mk (blk_below B2.out hb); have hc9 : w9.cell? ⟨g, 0, none⟩ = some (.func (.func 35) #[] #[]) := (n0_.out.cell HL.out).trans HG.out; clear HB hb; have HB := n0_; clear n0_; have hx_0 : w9.cell? ⟨w.heap.size, 0, none⟩ = some (.string x.f0) := (blk_cell BX.out 0).trans rfl; have hy_0 : w9.cell? ⟨w.heap.size + 1, 0, none⟩ = some (.string y.f0) := (blk_cell BY.out 0).trans rfl; have hx_1 : w9.cell? ⟨w.heap.size, 1, none⟩ = some (.int .i64 x.f1) := (blk_cell BX.out 1).trans rfl; have hy_1 : w9.cell? ⟨w.heap.size + 1, 1, none⟩ = some (.int .i64 y.f1) := (blk_cell BY.out 1).trans rfl; have hx_2 : w9.cell? ⟨w.heap.size, 2, none⟩ = some (.int .i64 x.f2) := (blk_cell BX.out 2).trans rfl; have hy_2 : w9.cell? ⟨w.heap.size + 1, 2, none⟩ = some (.int .i64 y.f2) := (blk_cell BY.out 2).trans rfl; have hx_3 : w9.cell? ⟨w.heap.size, 3, none⟩ = some (.int .i64 x.f3.f0) := (blk_cell BX.out 3).trans rfl; have hy_3 : w9.cell? ⟨w.heap.size + 1, 3, none⟩ = some (.int .i64 y.f3.f0) := (blk_cell BY.out 3).trans rfl; have hx_4 : w9.cell? ⟨w.heap.size, 4, none⟩ = some (.int .i64 x.f3.f1) := (blk_cell BX.out 4).trans rfl; have hy_4 : w9.cell? ⟨w.heap.size + 1, 4, none⟩ = some (.int .i64 y.f3.f1) := (blk_cell BY.out 4).trans rfl; have hx_5 : w9.cell? ⟨w.heap.size, 5, none⟩ = some (.int .i64 x.f3.f2) := (blk_cell BX.out 5).trans rfl; have hy_5 : w9.cell? ⟨w.heap.size + 1, 5, none⟩ = some (.int .i64 y.f3.f2) := (blk_cell BY.out 5).trans rfl; have hx_6 : w9.cell? ⟨w.heap.size, 6, none⟩ = some (.int .i64 x.f3.f3) := (blk_cell BX.out 6).trans rfl; have hy_6 : w9.cell? ⟨w.heap.size + 1, 6, none⟩ = some (.int .i64 y.f3.f3) := (blk_cell BY.out 6).trans rfl; have hx_7 : w9.cell? ⟨w.heap.size, 7, none⟩ = some (.int .i64 x.f3.f4) := (blk_cell BX.out 7).trans rfl; have hy_7 : w9.cell? ⟨w.heap.size + 1, 7, none⟩ = some (.int .i64 y.f3.f4) := (blk_cell BY.out 7).trans rfl; have hx_8 : w9.cell? ⟨w.heap.size, 8, none⟩ = some (.string x.f4) := (blk_cell BX.out 8).trans rfl; have hy_8 : w9.cell? ⟨w.heap.size + 1, 8, none⟩ = some (.string y.f4) := (blk_cell BY.out 8).trans rfl; have hx_9 : w9.cell? ⟨w.heap.size, 9, none⟩ = some (.string x.f5) := (blk_cell BX.out 9).trans rfl; have hy_9 : w9.cell? ⟨w.heap.size + 1, 9, none⟩ = some (.string y.f5) := (blk_cell BY.out 9).trans rfl; have hx_10 : w9.cell? ⟨w.heap.size, 10, none⟩ = some (.int .i64 x.f6) := (blk_cell BX.out 10).trans rfl; have hy_10 : w9.cell? ⟨w.heap.size + 1, 10, none⟩ = some (.int .i64 y.f6) := (blk_cell BY.out 10).trans rfl))
  go_ret
  exact ⟨by rw [HR.out]; rfl, HB.out⟩
 | false =>
  cases b2 with
  | true =>
   go_enter Try.func41, Try.ntmps41
   go_wp2_with (first | (go_at_call 35; (with_reducible refine (h1 _).mono ?_); rintro e w9 ⟨rfl, hb⟩; have n0_ := Aside0.mk (below_step HB.out hb); have BX := Aside0.mk (blk_below B1.out hb); have BY := Aside0.mk (blk_below B2.out hb); have hc9 : w9.cell? ⟨g, 0, none⟩ = some (.func (.func 35) #[] #[]) := (n0_.out.cell HL.out).trans HG.out; clear HB hb; have HB := n0_; clear n0_; have hx_0 : w9.cell? ⟨w.heap.size, 0, none⟩ = some (.string x.f0) := (blk_cell BX.out 0).trans rfl; have hy_0 : w9.cell? ⟨w.heap.size + 1, 0, none⟩ = some (.string y.f0) := (blk_cell BY.out 0).trans rfl; have hx_1 : w9.cell? ⟨w.heap.size, 1, none⟩ = some (.int .i64 x.f1) := (blk_cell BX.out 1).trans rfl; have hy_1 : w9.cell? ⟨w.heap.size + 1, 1, none⟩ = some (.int .i64 y.f1) := (blk_cell BY.out 1).trans rfl; have hx_2 : w9.cell? ⟨w.heap.size, 2, none⟩ = some (.int .i64 x.f2) := (blk_cell BX.out 2).trans rfl; have hy_2 : w9.cell? ⟨w.heap.size + 1, 2, none⟩ = some (.int .i64 y.f2) := (blk_cell BY.out 2).trans rfl; have hx_3 : w9.cell? ⟨w.heap.size, 3, none⟩ = some (.int .i64 x.f3.f0) := (blk_cell BX.out 3).trans rfl; have hy_3 : w9.cell? ⟨w.heap.size + 1, 3, none⟩ = some (.int .i64 y.f3.f0) := (blk_cell BY.out 3).trans rfl; have hx_4 : w9.cell? ⟨w.heap.size, 4, none⟩ = some (.int .i64 x.f3.f1) := (blk_cell BX.out 4).trans rfl; have hy_4 : w9.cell? ⟨w.heap.size + 1, 4, none⟩ = some (.int .i64 y.f3.f1) := (blk_cell BY.out 4).trans rfl; have hx_5 : w9.cell? ⟨w.heap.size, 5, none⟩ = some (.int .i64 x.f3.f2) := (blk_cell BX.out 5).trans rfl; have hy_5 : w9.cell? ⟨w.heap.size + 1, 5, none⟩ = some (.int .i64 y.f3.f2) := (blk_cell BY.out 5).trans rfl; have hx_6 : w9.cell? ⟨w.heap.size, 6, none⟩ = some (.int .i64 x.f3.f3) := (blk_cell BX.out 6).trans rfl; have hy_6 : w9.cell? ⟨w.heap.size + 1, 6, none⟩ = some (.int .i64 y.f3.f3) := (blk_cell BY.out 6).trans rfl; have hx_7 : w9.cell? ⟨w.heap.size, 7, none⟩ = some (.int .i64 x.f3.f4) := (blk_cell BX.out 7).trans rfl; have hy_7 : w9.cell? ⟨w.heap.size + 1, 7, none⟩ = some (.int .i64 y.f3.f4) := (blk_cell BY.out 7).trans rfl; have hx_8 : w9.cell? ⟨w.heap.size, 8, none⟩ = some (.string x.f4) := (blk_cell BX.out 8).trans rfl; have hy_8 : w9.cell? ⟨w.heap.size + 1, 8, none⟩ = some (.string y.f4) := (blk_cell BY.out 8).trans rfl; have hx_9 : w9.cell? ⟨w.heap.size, 9, none⟩ = some (.string x.f5) := (blk_cell BX.out 9).trans rfl; have hy_9 : w9.cell? ⟨w.heap.size + 1, 9, none⟩ = some (.string y.f5) := (blk_cell BY.out 9).trans rfl; have hx_10 : w9.cell? ⟨w.heap.size, 10, none⟩ = some (.int .i64 x.f6) := (blk_cell BX.out 10).trans rfl; have hy_10 : w9.cell? ⟨w.heap.size + 1, 10, none⟩ = some (.int .i64 y.f6) := (blk_cell BY.out 10).trans rfl))
   refine (h2 _).mono ?_
   rintro e w10 ⟨rfl, hb⟩
   have n0_ := Aside0.mk (below_step HB.out hb)
   clear HB hb
   have HB := n0_
   clear n0_
   go_wp2
   go_ret
   exact ⟨by rw [HR.out]; rfl, HB.out⟩
  | false =>
   go_enter Try.func41, Try.ntmps41
   go_wp2_with (first | (go_at_call 35; (with_reducible refine (h1 _).mono ?_); rintro e w9 ⟨rfl, hb⟩; have n0_ := Aside0.mk (below_step HB.out hb); have BX := Aside0.mk (blk_below B1.out hb); have BY := Aside0.mk (blk_below B2.out hb); have hc9 : w9.cell? ⟨g, 0, none⟩ = some (.func (.func 35) #[] #[]) := (n0_.out.cell HL.out).trans HG.out; clear HB hb; have HB := n0_; clear n0_; have hx_0 : w9.cell? ⟨w.heap.size, 0, none⟩ = some (.string x.f0) := (blk_cell BX.out 0).trans rfl; have hy_0 : w9.cell? ⟨w.heap.size + 1, 0, none⟩ = some (.string y.f0) := (blk_cell BY.out 0).trans rfl; have hx_1 : w9.cell? ⟨w.heap.size, 1, none⟩ = some (.int .i64 x.f1) := (blk_cell BX.out 1).trans rfl; have hy_1 : w9.cell? ⟨w.heap.size + 1, 1, none⟩ = some (.int .i64 y.f1) := (blk_cell BY.out 1).trans rfl; have hx_2 : w9.cell? ⟨w.heap.size, 2, none⟩ = some (.int .i64 x.f2) := (blk_cell BX.out 2).trans rfl; have hy_2 : w9.cell? ⟨w.heap.size + 1, 2, none⟩ = some (.int .i64 y.f2) := (blk_cell BY.out 2).trans rfl; have hx_3 : w9.cell? ⟨w.heap.size, 3, none⟩ = some (.int .i64 x.f3.f0) := (blk_cell BX.out 3).trans rfl; have hy_3 : w9.cell? ⟨w.heap.size + 1, 3, none⟩ = some (.int .i64 y.f3.f0) := (blk_cell BY.out 3).trans rfl; have hx_4 : w9.cell? ⟨w.heap.size, 4, none⟩ = some (.int .i64 x.f3.f1) := (blk_cell BX.out 4).trans rfl; have hy_4 : w9.cell? ⟨w.heap.size + 1, 4, none⟩ = some (.int .i64 y.f3.f1) := (blk_cell BY.out 4).trans rfl; have hx_5 : w9.cell? ⟨w.heap.size, 5, none⟩ = some (.int .i64 x.f3.f2) := (blk_cell BX.out 5).trans rfl; have hy_5 : w9.cell? ⟨w.heap.size + 1, 5, none⟩ = some (.int .i64 y.f3.f2) := (blk_cell BY.out 5).trans rfl; have hx_6 : w9.cell? ⟨w.heap.size, 6, none⟩ = some (.int .i64 x.f3.f3) := (blk_cell BX.out 6).trans rfl; have hy_6 : w9.cell? ⟨w.heap.size + 1, 6, none⟩ = some (.int .i64 y.f3.f3) := (blk_cell BY.out 6).trans rfl; have hx_7 : w9.cell? ⟨w.heap.size, 7, none⟩ = some (.int .i64 x.f3.f4) := (blk_cell BX.out 7).trans rfl; have hy_7 : w9.cell? ⟨w.heap.size + 1, 7, none⟩ = some (.int .i64 y.f3.f4) := (blk_cell BY.out 7).trans rfl; have hx_8 : w9.cell? ⟨w.heap.size, 8, none⟩ = some (.string x.f4) := (blk_cell BX.out 8).trans rfl; have hy_8 : w9.cell? ⟨w.heap.size + 1, 8, none⟩ = some (.string y.f4) := (blk_cell BY.out 8).trans rfl; have hx_9 : w9.cell? ⟨w.heap.size, 9, none⟩ = some (.string x.f5) := (blk_cell BX.out 9).trans rfl; have hy_9 : w9.cell? ⟨w.heap.size + 1, 9, none⟩ = some (.string y.f5) := (blk_cell BY.out 9).trans rfl; have hx_10 : w9.cell? ⟨w.heap.size, 10, none⟩ = some (.int .i64 x.f6) := (blk_cell BX.out 10).trans rfl; have hy_10 : w9.cell? ⟨w.heap.size + 1, 10, none⟩ = some (.int .i64 y.f6) := (blk_cell BY.out 10).trans rfl))
   refine (h2 _).mono ?_
   rintro e w10 ⟨rfl, hb⟩
   have n0_ := Aside0.mk (below_step HB.out hb)
   clear HB hb
   have HB := n0_
   clear n0_
   go_wp2
   go_ret
   exact ⟨by rw [HR.out]; rfl, HB.out⟩
end Go.Proofs.Ytodbmagneaiocaa.PA
namespace Go.Proofs.Ytodbmagneaiocaa.PA
open Go.RowKit Go.Proofs.YtodbmagneaiocaaW.PrintWords Go.Proofs.YtodbmagneaiocaaW.PrintLast Go.Proofs.YtodbmagneaiocaaW.PrintMore
attribute [local go_sem] max2_int min2_int max_two min_two max_three min_three max_four min_four
set_option linter.unusedVariables false
set_option linter.unusedSimpArgs false
open Go.Sort
section
variable {α : Type} (lt : α → α → Bool)
def eqvB (c y : α) : Bool := !lt c y && !lt y c
def SortedL (l : List α) : Prop := l.Pairwise (fun x y => lt y x = false)
def StP (l r : List α) : Prop := r.Perm l ∧ ∀ c, r.filter (eqvB lt c) = l.filter (eqvB lt c)
variable {lt}
theorem StP.refl (l : List α) : StP lt l l := ⟨List.Perm.refl _, fun _ => rfl⟩
theorem StP.trans {a b d : List α} (h : StP lt a b) (h2 : StP lt b d) : StP lt a d := ⟨h2.1.trans h.1, fun c => (h2.2 c).trans (h.2 c)⟩
theorem StP.app {a b a' b' : List α} (h : StP lt a a') (h2 : StP lt b b') : StP lt (a ++ b) (a' ++ b') := ⟨h.1.append h2.1, fun c => by rw [List.filter_append, List.filter_append, h.2 c, h2.2 c]⟩
theorem StP.len {a b : List α} (h : StP lt a b) : b.length = a.length := h.1.length_eq
theorem StP.swap (X Y : List α) (hS : SWO lt) (h : ∀ x ∈ X, ∀ y ∈ Y, lt y x = true) : StP lt (X ++ Y) (Y ++ X) := by
 refine ⟨List.perm_append_comm, fun c => ?_⟩
 rw [List.filter_append, List.filter_append]
 by_cases hX : X.filter (eqvB lt c) = []
 ·rw [hX, List.append_nil, List.nil_append]
 ·by_cases hY : Y.filter (eqvB lt c) = []
  ·rw [hY, List.append_nil, List.nil_append]
  ·exfalso
   obtain ⟨x, hx⟩ := List.exists_mem_of_ne_nil _ hX
   obtain ⟨y, hy⟩ := List.exists_mem_of_ne_nil _ hY
   rw [List.mem_filter] at hx hy
   have hxy := h x hx.1 y hy.1
   unfold eqvB at hx hy
   simp only [Bool.and_eq_true, Bool.not_eq_true'] at hx hy
   have := hS.ntrans y c x hy.2.2 hx.2.1
   rw [this] at hxy
   exact absurd hxy (by decide)
theorem up1 (hS : SWO lt) {Y : List α} (hY : SortedL lt Y) (x : α) (h : Nat) (hh : h < Y.length) (hl : lt Y[h] x = true) : ∀ y ∈ Y.take (h + 1), lt y x = true := by
 intro y hy
 obtain ⟨t, ht, rfl⟩ := List.getElem_of_mem hy
 rw [List.length_take] at ht
 rw [List.getElem_take]
 by_cases e : t = h
 ·subst e
  exact hl
 ·have hp := List.pairwise_iff_getElem.1 hY t h (by omega) hh (by omega)
  apply Classical.byContradiction
  intro hn
  have := hS.ntrans Y[h] (Y[t]'(by omega)) x hp (by simpa using hn)
  rw [this] at hl
  exact absurd hl (by decide)
theorem down1 (hS : SWO lt) {Y : List α} (hY : SortedL lt Y) (x : α) (h : Nat) (hh : h < Y.length) (hl : lt Y[h] x = false) : ∀ y ∈ Y.drop h, lt y x = false := by
 intro y hy
 obtain ⟨t, ht, rfl⟩ := List.getElem_of_mem hy
 rw [List.length_drop] at ht
 rw [List.getElem_drop]
 by_cases e : t = 0
 ·subst e
  exact hl
 ·have hp := List.pairwise_iff_getElem.1 hY h (h + t) hh (by omega) (by omega)
  exact hS.ntrans _ _ _ hp hl
theorem up2 (hS : SWO lt) {X : List α} (hX : SortedL lt X) (y : α) (h : Nat) (hh : h < X.length) (hl : lt y X[h] = false) : ∀ x ∈ X.take (h + 1), lt y x = false := by
 intro x hx
 obtain ⟨t, ht, rfl⟩ := List.getElem_of_mem hx
 rw [List.length_take] at ht
 rw [List.getElem_take]
 by_cases e : t = h
 ·subst e
  exact hl
 ·have hp := List.pairwise_iff_getElem.1 hX t h (by omega) hh (by omega)
  exact hS.ntrans _ _ _ hl hp
theorem down2 (hS : SWO lt) {X : List α} (hX : SortedL lt X) (y : α) (h : Nat) (hh : h < X.length) (hl : lt y X[h] = true) : ∀ x ∈ X.drop h, lt y x = true := by
 intro x hx
 obtain ⟨t, ht, rfl⟩ := List.getElem_of_mem hx
 rw [List.length_drop] at ht
 rw [List.getElem_drop]
 by_cases e : t = 0
 ·subst e
  exact hl
 ·have hp := List.pairwise_iff_getElem.1 hX h (h + t) hh (by omega) (by omega)
  apply Classical.byContradiction
  intro hn
  have := hS.ntrans y (X[h + t]'(by omega)) X[h] (by simpa using hn) hp
  rw [this] at hl
  exact absurd hl (by decide)
theorem sorted_app {l r : List α} : SortedL lt (l ++ r) ↔ SortedL lt l ∧ SortedL lt r ∧ ∀ x ∈ l, ∀ y ∈ r, lt y x = false := List.pairwise_append
theorem anti (hS : SWO lt) {x y : α} (h : lt y x = true) : lt x y = false := by
 apply Classical.byContradiction
 intro hn
 have := hS.trans x y x (by simpa using hn) h
 rw [hS.irrefl] at this
 exact absurd this (by decide)
theorem fin1 (hS : SWO lt) {Y : List α} (hY : SortedL lt Y) (x : α) (i : Nat) (h1 : ∀ y ∈ Y.take i, lt y x = true) (h2 : ∀ y ∈ Y.drop i, lt y x = false) : StP lt ([x] ++ Y) (Y.take i ++ x :: Y.drop i) ∧ SortedL lt (Y.take i ++ x :: Y.drop i) := by
 have hd : Y = Y.take i ++ Y.drop i := (List.take_append_drop i Y).symm
 have hs : SortedL lt (Y.take i ++ Y.drop i) := by rw [← hd]; exact hY
 rw [sorted_app] at hs
 constructor
 ·have := StP.app (StP.swap [x] (Y.take i) hS (fun a ha y hy => by rw [List.mem_singleton.1 ha]; exact h1 y hy)) (StP.refl (lt := lt) (Y.drop i))
  rw [List.append_assoc, List.append_assoc, ← hd] at this
  exact this
 ·rw [show Y.take i ++ x :: Y.drop i = Y.take i ++ ([x] ++ Y.drop i) by simp, sorted_app, sorted_app]
  refine ⟨hs.1, ⟨List.pairwise_singleton _ _, hs.2.1, fun a ha y hy => by rw [List.mem_singleton.1 ha]; exact h2 y hy⟩, fun a ha y hy => ?_⟩
  rcases List.mem_append.1 hy with h | h
  ·rw [List.mem_singleton.1 h]
   exact anti hS (h1 a ha)
  ·exact hs.2.2 a ha y h
theorem fin2 (hS : SWO lt) {X : List α} (hX : SortedL lt X) (y : α) (i : Nat) (h1 : ∀ x ∈ X.take i, lt y x = false) (h2 : ∀ x ∈ X.drop i, lt y x = true) : StP lt (X ++ [y]) (X.take i ++ y :: X.drop i) ∧ SortedL lt (X.take i ++ y :: X.drop i) := by
 have hd : X = X.take i ++ X.drop i := (List.take_append_drop i X).symm
 have hs : SortedL lt (X.take i ++ X.drop i) := by rw [← hd]; exact hX
 rw [sorted_app] at hs
 constructor
 ·have := StP.app (StP.refl (lt := lt) (X.take i)) (StP.swap (X.drop i) [y] hS (fun x hx a ha => by rw [List.mem_singleton.1 ha]; exact h2 x hx))
  rw [← List.append_assoc, ← hd] at this
  exact this
 ·rw [show X.take i ++ y :: X.drop i = X.take i ++ ([y] ++ X.drop i) by simp, sorted_app, sorted_app]
  refine ⟨hs.1, ⟨List.pairwise_singleton _ _, hs.2.1, fun a ha x hx => by rw [List.mem_singleton.1 ha]; exact anti hS (h2 x hx)⟩, fun a ha b hb => ?_⟩
  rcases List.mem_append.1 hb with h | h
  ·rw [List.mem_singleton.1 h]
   exact h1 a ha
  ·exact hs.2.2 a ha b h
theorem cut3 (hS : SWO lt) {X Y : List α} (hX : SortedL lt X) (hY : SortedL lt Y) (s t : Nat) (hs : s ≤ X.length) (ht : t ≤ Y.length)
  (f1 : s = 0 ∨ t = Y.length ∨ ∃ (h1 : s - 1 < X.length) (h2 : t < Y.length), lt Y[t] X[s - 1] = false) (f2 : s = X.length ∨ t = 0 ∨ ∃ (h1 : s < X.length) (h2 : t - 1 < Y.length), lt Y[t - 1] X[s] = true) :
  (∀ x ∈ X.drop s, ∀ y ∈ Y.take t, lt y x = true) ∧ (∀ x ∈ X.take s, ∀ y ∈ Y.drop t, lt y x = false) := by
 constructor
 ·intro x hx y hy
  rcases f2 with h | h | ⟨h1, h2, h3⟩
  ·rw [h, List.drop_length] at hx
   exact absurd hx (by simp)
  ·rw [h, List.take_zero] at hy
   exact absurd hy (by simp)
  ·by_cases t0 : t = 0
   ·rw [t0, List.take_zero] at hy
    exact absurd hy (by simp)
   ·have hy2 := up1 hS hY X[s] (t - 1) h2 h3 y (by rwa [show t - 1 + 1 = t by omega])
    exact down2 hS hX y s h1 hy2 x hx
 ·intro x hx y hy
  rcases f1 with h | h | ⟨h1, h2, h3⟩
  ·rw [h, List.take_zero] at hx
   exact absurd hx (by simp)
  ·rw [h, List.drop_length] at hy
   exact absurd hy (by simp)
  ·by_cases s0 : s = 0
   ·rw [s0, List.take_zero] at hx
    exact absurd hx (by simp)
   ·have hy2 := down1 hS hY X[s - 1] t h2 h3 y hy
    exact up2 hS hX y (s - 1) h1 hy2 x (by rwa [show s - 1 + 1 = s by omega])
theorem part3 (hS : SWO lt) {X Y Z1 Z2 : List α} (hX : SortedL lt X) (hY : SortedL lt Y) (s t : Nat) (hc : (∀ x ∈ X.drop s, ∀ y ∈ Y.take t, lt y x = true) ∧ (∀ x ∈ X.take s, ∀ y ∈ Y.drop t, lt y x = false))
  (z1 : StP lt (X.take s ++ Y.take t) Z1 ∧ SortedL lt Z1) (z2 : StP lt (X.drop s ++ Y.drop t) Z2 ∧ SortedL lt Z2) : StP lt (X ++ Y) (Z1 ++ Z2) ∧ SortedL lt (Z1 ++ Z2) := by
 have hXd : X = X.take s ++ X.drop s := (List.take_append_drop s X).symm
 have hYd : Y = Y.take t ++ Y.drop t := (List.take_append_drop t Y).symm
 have sX : SortedL lt (X.take s ++ X.drop s) := by rw [← hXd]; exact hX
 have sY : SortedL lt (Y.take t ++ Y.drop t) := by rw [← hYd]; exact hY
 rw [sorted_app] at sX sY
 constructor
 ·have h1 := StP.app (StP.app (StP.refl (lt := lt) (X.take s)) (StP.swap (X.drop s) (Y.take t) hS hc.1)) (StP.refl (lt := lt) (Y.drop t))
  have e1 : X.take s ++ (X.drop s ++ Y.take t) ++ Y.drop t = X ++ Y := by
   conv => rhs; rw [hXd, hYd]
   simp only [List.append_assoc]
  have e2 : X.take s ++ (Y.take t ++ X.drop s) ++ Y.drop t = (X.take s ++ Y.take t) ++ (X.drop s ++ Y.drop t) := by simp only [List.append_assoc]
  rw [e1, e2] at h1
  exact h1.trans (StP.app z1.1 z2.1)
 ·rw [sorted_app]
  refine ⟨z1.2, z2.2, fun x hx y hy => ?_⟩
  have hx' := (z1.1.1.mem_iff).1 hx
  have hy' := (z2.1.1.mem_iff).1 hy
  rcases List.mem_append.1 hx' with h | h
  ·rcases List.mem_append.1 hy' with g | g
   ·exact sX.2.2 x h y g
   ·exact hc.2 x h y g
  ·rcases List.mem_append.1 hy' with g | g
   ·exact anti hS (hc.1 y g x h)
   ·exact sY.2.2 x h y g
theorem stp_unique (hS : SWO lt) : ∀ (r1 r2 : List α), SortedL lt r1 → SortedL lt r2 → StP lt r1 r2 → r1 = r2
 | [], r2, _, _, h => by
  have := h.len
  exact (List.length_eq_zero_iff.1 this).symm
 | a :: r1, [], _, _, h => by
  have := h.len
  exact absurd this (by simp)
 | a :: r1, b :: r2, h1, h2, h => by
  have s1 := List.pairwise_cons.1 h1
  have s2 := List.pairwise_cons.1 h2
  have le1 : ∀ z ∈ a :: r1, lt z a = false := fun z hz => by
   rcases List.mem_cons.1 hz with e | e
   ·rw [e]; exact hS.irrefl a
   ·exact s1.1 z e
  have le2 : ∀ z ∈ b :: r2, lt z b = false := fun z hz => by
   rcases List.mem_cons.1 hz with e | e
   ·rw [e]; exact hS.irrefl b
   ·exact s2.1 z e
  have hab : lt b a = false := le1 b ((h.1.mem_iff).1 (by simp))
  have hba : lt a b = false := le2 a ((h.1.mem_iff).2 (by simp))
  have ea : eqvB lt a a = true := by unfold eqvB; rw [hS.irrefl]; rfl
  have eb : eqvB lt a b = true := by unfold eqvB; rw [hab, hba]; rfl
  have hf := h.2 a
  rw [List.filter_cons, List.filter_cons, if_pos ea, if_pos eb, List.cons.injEq] at hf
  obtain ⟨rfl, hf⟩ := hf
  have hrest : StP lt r1 r2 := by
   refine ⟨List.perm_cons b |>.1 h.1, fun c => ?_⟩
   have hc := h.2 c
   rw [List.filter_cons, List.filter_cons] at hc
   by_cases e : eqvB lt c b = true
   ·rw [if_pos e, if_pos e] at hc
    exact (List.cons.inj hc).2
   ·rw [if_neg e, if_neg e] at hc
    exact hc
  rw [stp_unique hS r1 r2 s1.2 s2.2 hrest]
end
end Go.Proofs.Ytodbmagneaiocaa.PA
namespace Go.Proofs.Ytodbmagneaiocaa.PA
open Go.RowKit Go.Proofs.YtodbmagneaiocaaW.PrintWords Go.Proofs.YtodbmagneaiocaaW.PrintLast Go.Proofs.YtodbmagneaiocaaW.PrintMore
attribute [local go_sem] max2_int min2_int max_two min_two max_three min_three max_four min_four
set_option linter.unusedVariables false
set_option linter.unusedSimpArgs false
theorem u8_lt (a b : UInt8) : a < b ↔ a.toNat < b.toNat := UInt8.lt_iff_toNat_lt
theorem u8_eq (a b : UInt8) : a = b ↔ a.toNat = b.toNat := UInt8.toNat_inj.symm
theorem bl_cons (a b : UInt8) (x y : List UInt8) : Op.bytesLess (a :: x) (b :: y) = true ↔ a.toNat < b.toNat ∨ (a = b ∧ Op.bytesLess x y = true) := by
 rw [Op.bytesLess, Bool.or_eq_true, Bool.and_eq_true, decide_eq_true_iff, u8_lt, beq_iff_eq]
theorem bl_trans : ∀ x y z : List UInt8, Op.bytesLess x y = true → Op.bytesLess y z = true → Op.bytesLess x z = true
 | _, [], _, h, _ => by simp [Op.bytesLess] at h
 | _, _ :: _, [], _, h => by simp [Op.bytesLess] at h
 | [], _ :: _, _ :: _, _, _ => rfl
 | a :: x, b :: y, d :: z, h1, h2 => by
  rw [bl_cons] at h1 h2 ⊢
  rcases h1 with h1 | ⟨rfl, h1⟩
  ·rcases h2 with h2 | ⟨rfl, h2⟩
   ·exact Or.inl (by omega)
   ·exact Or.inl h1
  ·rcases h2 with h2 | ⟨rfl, h2⟩
   ·exact Or.inl h2
   ·exact Or.inr ⟨rfl, bl_trans x y z h1 h2⟩
theorem bl_tri : ∀ x y : List UInt8, ¬ Op.bytesLess x y = true → ¬ Op.bytesLess y x = true → x = y
 | [], [], _, _ => rfl
 | [], _ :: _, h, _ => absurd rfl h
 | _ :: _, [], _, h => absurd rfl h
 | a :: x, b :: y, h1, h2 => by
  rw [bl_cons] at h1 h2
  have hab : a = b := by
   rw [u8_eq]
   have := fun h => h1 (Or.inl h)
   have := fun h => h2 (Or.inl h)
   omega
  subst hab
  rw [bl_tri x y (fun h => h1 (Or.inr ⟨rfl, h⟩)) (fun h => h2 (Or.inr ⟨rfl, h⟩))]
theorem cmp_cons (a b : ByteArray) (s t : List ByteArray) : cmpL (a :: s) (b :: t) < 0 ↔ Op.bytesLess a.toList b.toList = true ∨ (a = b ∧ cmpL s t < 0) := by
 rw [cmpL]
 by_cases h1 : Op.bytesLess a.toList b.toList = true
 ·rw [if_pos h1]
  exact ⟨fun _ => Or.inl h1, fun _ => by decide⟩
 ·rw [if_neg h1]
  by_cases h2 : a = b
  ·rw [if_pos h2]
   exact ⟨fun h => Or.inr ⟨h2, h⟩, fun h => h.elim (fun h => absurd h h1) (fun h => h.2)⟩
  ·rw [if_neg h2]
   exact ⟨fun h => absurd h (by decide), fun h => h.elim (fun h => absurd h h1) (fun h => absurd h.1 h2)⟩
theorem cmp_trans : ∀ x y z, cmpL x y < 0 → cmpL y z < 0 → cmpL x z < 0
 | [], [], _, h, _ => absurd h (by decide)
 | _ :: _, [], _, h, _ => absurd h (by simp [cmpL])
 | _, _ :: _, [], _, h => absurd h (by simp [cmpL])
 | [], _ :: _, _ :: _, _, _ => by simp [cmpL]
 | a :: s, b :: t, d :: u, h1, h2 => by
  rw [cmp_cons] at h1 h2 ⊢
  rcases h1 with h1 | ⟨rfl, h1⟩
  ·rcases h2 with h2 | ⟨rfl, h2⟩
   ·exact Or.inl (bl_trans _ _ _ h1 h2)
   ·exact Or.inl h1
  ·rcases h2 with h2 | ⟨rfl, h2⟩
   ·exact Or.inl h2
   ·exact Or.inr ⟨rfl, cmp_trans s t u h1 h2⟩
theorem cmp_irr : ∀ x, ¬ cmpL x x < 0
 | [] => by decide
 | a :: s => by
  rw [cmp_cons, bl_irr]
  intro h
  rcases h with h | ⟨_, h⟩
  ·exact absurd h (by decide)
  ·exact cmp_irr s h
theorem cmp_tri : ∀ x y, ¬ cmpL x y < 0 → ¬ cmpL y x < 0 → x = y
 | [], [], _, _ => rfl
 | [], _ :: _, h, _ => absurd (by simp [cmpL]) h
 | _ :: _, [], _, h => absurd (by simp [cmpL]) h
 | a :: s, b :: t, h1, h2 => by
  rw [cmp_cons] at h1 h2
  have hab : a = b := (tl_eq a b).1 (bl_tri _ _ (fun h => h1 (Or.inl h)) (fun h => h2 (Or.inl h)))
  subst hab
  rw [cmp_tri s t (fun h => h1 (Or.inr ⟨rfl, h⟩)) (fun h => h2 (Or.inr ⟨rfl, h⟩))]
end Go.Proofs.Ytodbmagneaiocaa.PA
namespace Go.Proofs.Ytodbmagneaiocaa.PA
open Go.RowKit Go.Proofs.YtodbmagneaiocaaW.PrintWords Go.Proofs.YtodbmagneaiocaaW.PrintLast Go.Proofs.YtodbmagneaiocaaW.PrintMore
attribute [local go_sem] max2_int min2_int max_two min_two max_three min_three max_four min_four
set_option linter.unusedVariables false
set_option linter.unusedSimpArgs false
open Go Go.Shelf Go.Lib Go.Sort
theorem swp_list {α : Type} [Inhabited α] (d : Array α) (P R Q : List α) (x y : α) (h : d.toList = P ++ x :: (R ++ y :: Q)) : (swp d P.length (P.length + 1 + R.length)).toList = P ++ y :: (R ++ x :: Q) := by
 obtain ⟨l⟩ := d
 subst h
 have ex : ((P ++ x :: (R ++ y :: Q)).toArray)[P.length]! = x := by simp
 have ey : ((P ++ x :: (R ++ y :: Q)).toArray)[P.length + 1 + R.length]! = y := by
  have h2 : P ++ x :: (R ++ y :: Q) = (P ++ x :: R) ++ y :: Q := by simp
  rw [h2]
  have h3 : P.length + 1 + R.length = (P ++ x :: R).length := by simp; omega
  rw [h3]
  simp
 show ((((P ++ x :: (R ++ y :: Q)).toArray).setIfInBounds P.length _).setIfInBounds (P.length + 1 + R.length) _).toList = _
 rw [ex, ey, List.setIfInBounds_toArray, List.setIfInBounds_toArray]
 show ((P ++ x :: (R ++ y :: Q)).set P.length y).set (P.length + 1 + R.length) x = _
 rw [List.set_append_right _ _ (Nat.le_refl _), Nat.sub_self, List.set_cons_zero, List.set_append_right _ _ (by omega), show P.length + 1 + R.length - P.length = R.length + 1 by omega, List.set_cons_succ, List.set_append_right _ _ (Nat.le_refl _), Nat.sub_self, List.set_cons_zero]
theorem swapsA_list {α : Type} [Inhabited α] (d : Array α) (P U M V Q : List α) (hl : U.length = V.length) (h : d.toList = P ++ U ++ M ++ V ++ Q) : ∀ i, i ≤ U.length → (swapsA d P.length (P.length + U.length + M.length) i).toList = P ++ V.take i ++ U.drop i ++ M ++ U.take i ++ V.drop i ++ Q := by
 intro i
 induction i with
 | zero =>
  intro _
  show d.toList = _
  rw [h]
  simp
 | succ i ih =>
  intro hi
  have hu : i < U.length := by omega
  have hv : i < V.length := by omega
  have h0 := ih (by omega)
  rw [List.drop_eq_getElem_cons hu, List.drop_eq_getElem_cons hv] at h0
  have h1 : (swapsA d P.length (P.length + U.length + M.length) i).toList = (P ++ V.take i) ++ U[i] :: ((U.drop (i + 1) ++ M ++ U.take i) ++ V[i] :: (V.drop (i + 1) ++ Q)) := by
   rw [h0]
   simp only [List.append_assoc, List.cons_append]
  have h2 := swp_list _ _ _ _ _ _ h1
  have e1 : (P ++ V.take i).length = P.length + i := by rw [List.length_append, List.length_take]; omega
  have e2 : P.length + i + 1 + (U.drop (i + 1) ++ M ++ U.take i).length = P.length + U.length + M.length + i := by
   rw [List.length_append, List.length_append, List.length_drop, List.length_take]
   omega
  rw [e1, e2] at h2
  rw [swapsA, h2, List.take_succ_eq_append_getElem hu, List.take_succ_eq_append_getElem hv]
  simp only [List.append_assoc, List.cons_append, List.nil_append]
theorem swapsA_full {α : Type} [Inhabited α] (d : Array α) (P U M V Q : List α) (hl : U.length = V.length) (h : d.toList = P ++ U ++ M ++ V ++ Q) : (swapsA d P.length (P.length + U.length + M.length) U.length).toList = P ++ V ++ M ++ U ++ Q := by
 rw [swapsA_list d P U M V Q hl h U.length (Nat.le_refl _), List.take_length, List.drop_length, hl, List.take_length, List.drop_length]
 simp
set_option maxHeartbeats 4000000 in
set_option maxRecDepth 1000000 in
theorem rotate_call {P : Program} (L : LS P) {α : Type} [Inhabited α] (enc : α → List Value) (k : Nat) (aE : ∀ w, (isAgg 43).run P w = .ok true w) (zE : ∀ w, (Go.sizeOf 43).run P w = .ok k w) (hk : ∀ x, (enc x).length = k) (h1 : ∀ x, ∀ v ∈ enc x, v.oneCell' = true)
  (fv : Value) (blk off cap : Nat) (A X Y B : List α) (d : Array α) (w : World) (hH : HoldsK enc k w blk off d) (hblk : blk < w.heap.size) (hd : d.toList = A ++ X ++ Y ++ B) (hX : X ≠ []) (hY : Y ≠ []) (a m b : Nat) (ha : a = A.length) (hm : m = A.length + X.length) (hb : b = A.length + X.length + Y.length) (hsz : d.size < 1000000000000) :
  Calls P 48 #[.slice (some ⟨blk, off, none⟩) d.size cap, .int .i64 a, .int .i64 m, .int .i64 b, fv] w fun e w' =>
   e = .returned (.tuple #[]) ∧ ∃ q os dk, dk.toList = A ++ Y ++ X ++ B ∧ dk.size = d.size ∧ w' = sWB enc k w blk off q dk os := by
 have mixed := L.mixed
 have t3 := L.t3; have a3 := L.a3; have z3 := L.z3; have v3 := L.v3; have t4 := L.t4; have a4 := L.a4; have z4 := L.z4; have v4 := L.v4; have t68 := L.t68; have a68 := L.a68; have z68 := L.z68; have v68 := L.v68; have t22 := L.t22; have a22 := L.a22; have z22 := L.z22; have v22 := L.v22
 have F := L.f48
 have esw := L.e49
 have hsl : d.size = A.length + X.length + Y.length + B.length := by
  rw [← Array.length_toList, hd]
  simp
  omega
 have HD := Aside0.mk hd
 have HST : Hid (w = sWB enc k w blk off w.drawn d #[]) := (sWB_start enc k w blk off d hH).symm
 have HH : Hid (HoldsK enc k w blk off d) := hH
 have HXl : 0 < X.length := List.length_pos_iff.2 hX
 have HYl : 0 < Y.length := List.length_pos_iff.2 hY
 have hsr : ∀ (W : World) (dk : Array α) (a' b' n' : Nat), HoldsK enc k W blk off dk → blk < W.heap.size → dk.size = d.size → a' + n' ≤ d.size → b' + n' ≤ d.size → Calls P 49 #[.slice (some ⟨blk, off, none⟩) d.size cap, .int .i64 a', .int .i64 b', .int .i64 n', fv] W fun e w' => e = .returned (.tuple #[]) ∧ ∃ q os, w' = sWB enc k W blk off q (swapsA dk a' b' n') os := fun W dk a' b' n' x1 x2 x3 x4 x5 => by
  have := swapRange_call L enc k aE zE hk h1 fv blk off cap a' b' n' dk W x1 x2 (by omega) (by omega) (by omega)
  rwa [x3] at this
 have HSR := Aside0.mk hsr
 have HM := Aside0.mk (And.intro ha (And.intro hm hb))
 have hma : a ≤ m := by omega
 have hmb : m ≤ b := by omega
 have hbd : b ≤ d.size := by omega
 have HXa : a + X.length = m := by omega
 have HYa : m + Y.length = b := by omega
 have HXY := Aside0.mk (And.intro HXa HYa)
 clear hsr hH hd hX hY ha hm hb HXa HYa hsl
 go_enter F, Try.ntmps48
 go_wp2
 go_loopg [10, 11] (X.length + Y.length) (fun g vi vj wr => ∃ (i j q : Nat) (os : Array Obj) (dk : Array α) (Pp U V Q : List α), vi = .int .i64 i ∧ vj = .int .i64 j ∧ 0 < i ∧ 0 < j ∧ i + j ≤ g ∧ Pp.length + i = m ∧ m + j ≤ d.size ∧ dk.size = d.size ∧ wr = sWB enc k w blk off q dk os ∧ Hid (dk.toList = Pp ++ U ++ V ++ Q ∧ U.length = i ∧ V.length = j ∧ Pp ++ V ++ U ++ Q = A ++ Y ++ X ++ B))
 case atStart =>
  have h1 := HXY.out.1
  have h2 := HXY.out.2
  have h3 := HM.out.1
  exact ⟨X.length, Y.length, _, #[], d, A, X, Y, B, by congr 1; omega, by congr 1; omega, HXl, HYl, Nat.le_refl _, by omega, by omega, rfl, HST.out, ⟨HD.out, rfl, rfl, rfl⟩⟩
 case round =>
  obtain ⟨i, j, q, os, dk, Pp, U, V, Q, rfl, rfl, hi0, hj0, hg, hPi, hmj, hsk, rfl, HI⟩ := hrel
  have HHk : Hid (HoldsK enc k (sWB enc k w blk off q dk os) blk off dk) := sWB_holds enc k w blk off q d dk os HH.out hblk hsk
  have HBk : Hid (blk < (sWB enc k w blk off q dk os).heap.size) := Nat.lt_of_lt_of_le hblk (sWB_size enc k w blk off q dk os)
  have HON : Hid (∀ q' dk' os', dk'.size = dk.size → sWB enc k (sWB enc k w blk off q dk os) blk off q' dk' os' = sWB enc k w blk off q' dk' (os ++ os')) := fun q' dk' os' h => sWB_on enc k w blk off q q' dk dk' os os' hblk h
  generalize hwq : sWB enc k w blk off q dk os = wq at HHk HBk HON ⊢
  clear hwq
  have hmi : (m : Int) - (i : Int) = ((Pp.length : Nat) : Int) := by omega
  by_cases hne : i = j
  ·have heq : ((i : Int) != (j : Int)) = false := by rw [hne]; simp
   have hc : Calls P 49 #[.slice (some ⟨blk, off, none⟩) d.size cap, .int .i64 ((Pp.length : Nat) : Int), .int .i64 m, .int .i64 i, fv] wq fun e w' => e = .returned (.tuple #[]) ∧ ∃ q os, w' = sWB enc k wq blk off q (swapsA dk Pp.length m i) os := by
    exact HSR.out wq dk Pp.length m i HHk.out HBk.out hsk (by omega) (by omega)
   have HFIN : Hid ((swapsA dk Pp.length m i).toList = A ++ Y ++ X ++ B) := by
    show _ = _
    obtain ⟨u1, u2, u3, u4⟩ := HI.out
    have := swapsA_full dk Pp U [] V Q (by omega) (by rw [u1]; simp)
    rw [u2, List.length_nil, Nat.add_zero, hPi] at this
    rw [this, ← u4]
    simp
   have HNE := Aside0.mk hne
   clear hne
   go_wp2_with (go_at_call 49; refine hc.mono ?_; rintro e w1 ⟨rfl, q1, os1, rfl⟩)
   go_end0
   exact ⟨rfl, q1, os ++ os1, _, HFIN.out, by rw [size_swapsA]; exact hsk, HON.out _ _ _ (size_swapsA _ _ _ _)⟩
  ·have heq : ((i : Int) != (j : Int)) = true := by rw [bne_iff_ne]; omega
   by_cases hgt : j < i
   ·have hgz : decide ((i : Int) > (j : Int)) = true := decide_eq_true (by omega)
    have hgz2 : (j : Int) < (i : Int) := by omega
    have hc : Calls P 49 #[.slice (some ⟨blk, off, none⟩) d.size cap, .int .i64 ((Pp.length : Nat) : Int), .int .i64 m, .int .i64 j, fv] wq fun e w' => e = .returned (.tuple #[]) ∧ ∃ q os, w' = sWB enc k wq blk off q (swapsA dk Pp.length m j) os := by
     exact HSR.out wq dk Pp.length m j HHk.out HBk.out hsk (by omega) (by omega)
    have HFIN : Hid (∃ Pp' U' V' Q' : List α, Pp'.length + (i - j) = m ∧ (swapsA dk Pp.length m j).toList = Pp' ++ U' ++ V' ++ Q' ∧ U'.length = i - j ∧ V'.length = j ∧ Pp' ++ V' ++ U' ++ Q' = A ++ Y ++ X ++ B) := by
     obtain ⟨u1, u2, u3, u4⟩ := HI.out
     have e1 : (U.take j).length = j := by rw [List.length_take]; omega
     have e2 : (U.drop j).length = i - j := by rw [List.length_drop, u2]
     have hU : U = U.take j ++ U.drop j := (List.take_append_drop j U).symm
     have := swapsA_full dk Pp (U.take j) (U.drop j) V Q (by omega) (by rw [u1]; (conv => lhs; rw [hU]); simp only [List.append_assoc])
     rw [e1, e2, show Pp.length + j + (i - j) = m by omega] at this
     refine ⟨Pp ++ V, U.drop j, U.take j, Q, by rw [List.length_append]; omega, this, e2, e1, ?_⟩
     rw [← u4]
     (conv => rhs; rw [hU])
     simp only [List.append_assoc]
    go_wp2_with (go_at_call 49; refine hc.mono ?_; rintro e w1 ⟨rfl, q1, os1, rfl⟩)
    go_roundg (i - j + j)
    case measure => omega
    case rel =>
     obtain ⟨Pp', U', V', Q', v1, v2, v3, v4, v5⟩ := HFIN.out
     exact ⟨i - j, j, q1, os ++ os1, _, Pp', U', V', Q', by first | go_num | (congr 1; omega), rfl, by omega, hj0, Nat.le_refl _, v1, by omega, by rw [size_swapsA]; exact hsk, HON.out _ _ _ (size_swapsA _ _ _ _), ⟨v2, v3, v4, v5⟩⟩
   ·have hgz : decide ((i : Int) > (j : Int)) = false := decide_eq_false (by omega)
    have hgz2 : ¬ (j : Int) < (i : Int) := by omega
    obtain ⟨z, hz⟩ : ∃ z, z = m + j - i := ⟨_, rfl⟩
    have hmji : (m : Int) + (j : Int) - (i : Int) = (z : Int) := by omega
    have hc : Calls P 49 #[.slice (some ⟨blk, off, none⟩) d.size cap, .int .i64 ((Pp.length : Nat) : Int), .int .i64 z, .int .i64 i, fv] wq fun e w' => e = .returned (.tuple #[]) ∧ ∃ q os, w' = sWB enc k wq blk off q (swapsA dk Pp.length z i) os := by
     exact HSR.out wq dk Pp.length z i HHk.out HBk.out hsk (by omega) (by omega)
    have HZ := Aside0.mk hz
    have HFIN : Hid (∃ U' V' Q' : List α, (swapsA dk Pp.length z i).toList = Pp ++ U' ++ V' ++ Q' ∧ U'.length = i ∧ V'.length = j - i ∧ Pp ++ V' ++ U' ++ Q' = A ++ Y ++ X ++ B) := by
     obtain ⟨u1, u2, u3, u4⟩ := HI.out
     have e1 : (V.take (j - i)).length = j - i := by rw [List.length_take]; omega
     have e2 : (V.drop (j - i)).length = i := by rw [List.length_drop, u3]; omega
     have hV : V = V.take (j - i) ++ V.drop (j - i) := (List.take_append_drop _ V).symm
     have := swapsA_full dk Pp U (V.take (j - i)) (V.drop (j - i)) Q (by omega) (by rw [u1]; (conv => lhs; rw [hV]); simp only [List.append_assoc])
     rw [u2, e1, show Pp.length + i + (j - i) = z by omega] at this
     refine ⟨V.drop (j - i), V.take (j - i), U ++ Q, by rw [this]; simp only [List.append_assoc], e2, e1, ?_⟩
     rw [← u4]
     (conv => rhs; rw [hV])
     simp only [List.append_assoc]
    clear hz
    go_wp2_with (go_at_call 49; refine hc.mono ?_; rintro e w1 ⟨rfl, q1, os1, rfl⟩)
    go_roundg (i + (j - i))
    case measure => omega
    case rel =>
     obtain ⟨U', V', Q', v2, v3, v4, v5⟩ := HFIN.out
     exact ⟨i, j - i, q1, os ++ os1, _, Pp, U', V', Q', rfl, by first | go_num | (congr 1; omega), hi0, by omega, Nat.le_refl _, hPi, by omega, by rw [size_swapsA]; exact hsk, HON.out _ _ _ (size_swapsA _ _ _ _), ⟨v2, v3, v4, v5⟩⟩
end Go.Proofs.Ytodbmagneaiocaa.PA
namespace Go.Proofs.Ytodbmagneaiocaa.PA
open Go.RowKit Go.Proofs.YtodbmagneaiocaaW.PrintWords Go.Proofs.YtodbmagneaiocaaW.PrintLast Go.Proofs.YtodbmagneaiocaaW.PrintMore
attribute [local go_sem] max2_int min2_int max_two min_two max_three min_three max_four min_four
set_option linter.unusedVariables false
set_option linter.unusedSimpArgs false
open Go Go.Shelf Go.Lib Go.Sort
theorem swp_comm {α : Type} [Inhabited α] (d : Array α) (i j : Nat) (h : i ≠ j) : swp d i j = swp d j i := by
 unfold swp
 exact Array.setIfInBounds_comm _ _ h
set_option maxHeartbeats 4000000 in
set_option maxRecDepth 1000000 in
theorem sym2_call {P : Program} (L : LS P) {α : Type} [Inhabited α] (enc : α → List Value) (k : Nat) (aE : ∀ w, (isAgg 43).run P w = .ok true w) (zE : ∀ w, (Go.sizeOf 43).run P w = .ok k w) (hk : ∀ x, (enc x).length = k) (h1 : ∀ x, ∀ v ∈ enc x, v.oneCell' = true)
  (cf : α → α → Int) (hS : SWO (ltOf cf)) (g : Nat) (cb : Array Value) (eg : ∀ args w, (callFunc g args).run P w = .ok (.enter g args) w) (blk off cap : Nat) (A X : List α) (y : α) (B : List α) (d : Array α) (w : World) (hcmp : CmpB P g cb enc k cf blk off d.size w) (hH : HoldsK enc k w blk off d) (hblk : blk < w.heap.size) (hd : d.toList = A ++ (X ++ y :: B)) (hX : SortedL (ltOf cf) X) (hX1 : X.length ≠ 1) (a m b : Nat) (ha : a = A.length) (hm : m = A.length + X.length) (hb : b = A.length + X.length + 1) (hsz : d.size < 1000000000000) :
  Calls P 47 #[.slice (some ⟨blk, off, none⟩) d.size cap, .int .i64 a, .int .i64 m, .int .i64 b, .func (.func g) #[] cb] w fun e w' =>
   e = .returned (.tuple #[]) ∧ ∃ q os dk, (∃ Z, dk.toList = A ++ (Z ++ B) ∧ StP (ltOf cf) (X ++ [y]) Z ∧ SortedL (ltOf cf) Z) ∧ dk.size = d.size ∧ w' = sWB enc k w blk off q dk os := by
 have mixed := L.mixed
 have t3 := L.t3; have a3 := L.a3; have z3 := L.z3; have v3 := L.v3; have t4 := L.t4; have a4 := L.a4; have z4 := L.z4; have v4 := L.v4; have t68 := L.t68; have a68 := L.a68; have z68 := L.z68; have v68 := L.v68; have t22 := L.t22; have a22 := L.a22; have z22 := L.z22; have v22 := L.v22
 have F := L.f47
 have hsl : d.size = A.length + (X.length + (1 + B.length)) := by
  rw [← Array.length_toList, hd]
  simp
  omega
 have hdy : d[m]! = y := by
  rw [hm, ← Array.getElem!_toList, hd, ← List.append_assoc, ← List.length_append]
  simp
 have hdx : ∀ t (h : t < X.length), d[a + t]! = X[t] := fun t h => by
  rw [ha, ← Array.getElem!_toList, hd]
  simp [h, List.getElem?_append]
  try rw [if_neg (by omega)]
  try rfl
 have HD := Aside0.mk hd
 have HDX := Aside0.mk hdx
 have HDY := Aside0.mk hdy
 have HXs := Aside0.mk hX
 have HSW := Aside0.mk hS
 have HST : Hid (w = sWB enc k w blk off w.drawn d #[]) := (sWB_start enc k w blk off d hH).symm
 have HH : Hid (HoldsK enc k w blk off d) := hH
 have HC := Aside0.mk hcmp
 have HK : Hid (∀ x, (enc x).length = k) := hk
 have H1 : Hid (∀ x, ∀ v ∈ enc x, v.oneCell' = true) := h1
 have hmx : m = a + X.length := by omega
 have hma : ((m : Int) - (a : Int) == 1) = false := beq_eq_false_iff_ne.mpr (by omega)
 have hmz : (b : Int) - (m : Int) = 1 := by omega
 have hmd : m < d.size := by omega
 have HM := Aside0.mk (And.intro ha hmx)
 have ham : a ≤ m := by omega
 have hmb : m ≤ b := by omega
 have hbd : b ≤ d.size := by omega
 clear hsl hdx hdy hd hX hX1 hS hH hcmp hk h1 ha hm hb hmx
 go_enter F, Try.ntmps47
 go_wp2
 (try rw [hma])
 go_loopg [14, 15] X.length (fun gg vi vj wr => ∃ (i j q : Nat) (os : Array Obj), vi = .int .i64 i ∧ vj = .int .i64 j ∧ a ≤ i ∧ i ≤ j ∧ j ≤ m ∧ j - i ≤ gg ∧ wr = sWB enc k w blk off q d os ∧ Hid ((∀ x ∈ X.take (i - a), ltOf cf y x = false) ∧ (∀ x ∈ X.drop (j - a), ltOf cf y x = true)))
 case atStart =>
  have h1 := HM.out.2
  exact ⟨a, m, _, #[], rfl, rfl, by omega, by omega, by omega, by omega, HST.out, ⟨by rw [Nat.sub_self, List.take_zero]; simp, by rw [show m - a = X.length by omega, List.drop_length]; simp⟩⟩
 case round =>
  obtain ⟨i, j, q, os, rfl, rfl, hi, hij, hjb, hg, rfl, HI⟩ := hrel
  obtain ⟨wq, hwq⟩ : ∃ wq, sWB enc k w blk off q d os = wq := ⟨_, rfl⟩
  have HWQ := Aside0.mk hwq
  rw [hwq]
  by_cases hlt : i < j
  ·have hltz : (i : Int) < (j : Int) := by omega
   obtain ⟨h, hh⟩ : ∃ h : Nat, ((i : Int) + (j : Int)) / 2 = (h : Int) := ⟨(i + j) / 2, by omega⟩
   have hih : i ≤ h := by omega
   have hhj : h < j := by omega
   have hhz : (h : Int) < (d.size : Int) := by omega
   have haz : (m : Int) < (d.size : Int) := by omega
   obtain ⟨xh, hxh⟩ : ∃ z, d[h]! = z := ⟨_, rfl⟩
   have hxh2 : ∃ hl : h - a < X.length, X[h - a] = xh := by
    have hq := HM.out.2
    refine ⟨by omega, ?_⟩
    rw [← HDX.out (h - a) (by omega), show a + (h - a) = h by omega, hxh]
   have HX2 := Aside0.mk hxh2
   have hHc : ∀ q' os', HoldsK enc k (grow (redrawn wq q') os') blk off d := fun q' os' => by
    rw [← HWQ.out, sWB_regrown]
    exact sWB_holds enc k w blk off q' d d _ HH.out hblk rfl
   have lh : ∀ q' os', Sem.run P (loadCellsFrom ⟨blk, off + h * k, none⟩ 0 k #[]) (grow (redrawn wq q') os') = .ok (enc xh).toArray (grow (redrawn wq q') os') := fun q' os' => by
    rw [← hxh]; exact run_loadCellsFrom_list P _ _ _ k (HK.out _) (HoldsK.cells (hHc q' os') HK.out (by omega))
   have la : ∀ q' os', Sem.run P (loadCellsFrom ⟨blk, off + m * k, none⟩ 0 k #[]) (grow (redrawn wq q') os') = .ok (enc y).toArray (grow (redrawn wq q') os') := fun q' os' => by
    rw [← HDY.out]; exact run_loadCellsFrom_list P _ _ _ k (HK.out _) (HoldsK.cells (hHc q' os') HK.out (by omega))
   have hcg : ∀ q' os', Calls P g (#[.agg (enc y).toArray, .agg (enc xh).toArray] ++ cb) (grow (redrawn wq q') os') fun e w' => e = .returned (.int .i64 (cf y xh)) ∧ Below (grow (redrawn wq q') os').heap.size (grow (redrawn wq q') os') w' := fun q' os' => by
    rw [← HWQ.out, sWB_regrown]
    exact HC.out q' _ d rfl y xh
   clear hHc hxh hxh2 hwq
   by_cases hlv : ¬ cf y xh < 0
   ·have HLV := Aside0.mk (show ltOf cf y xh = false from decide_eq_false hlv)
    have hdl : decide (cf y xh < 0) = false := decide_eq_false hlv
    go_wp2_with fail
    refine wp_region_quiet_below (by assumption) (by kernel_rfl) ?_
    repeat (quiet_step ((go_at_fn g; refine Calls.regrown_of (hcg _ _))))
    refine wpQuiet_nil ?_
    intro _ hw'
    obtain ⟨⟨dq, osq⟩, hw''⟩ := hw'
    subst hw''
    go_wp2_with fail
    go_roundg (j - (h + 1))
    case measure => omega
    case rel =>
     refine ⟨h + 1, j, dq, os ++ osq, by go_num, rfl, by omega, by omega, by omega, Nat.le_refl _, by rw [← HWQ.out, sWB_regrown], ⟨?_, HI.out.2⟩⟩
     obtain ⟨hl, he⟩ := HX2.out
     rw [show h + 1 - a = h - a + 1 by omega]
     exact up2 HSW.out HXs.out y (h - a) hl (by rw [he]; exact HLV.out)
   ·have hlv2 : cf y xh < 0 := Classical.not_not.1 hlv
    have HLV := Aside0.mk (show ltOf cf y xh = true from decide_eq_true (Classical.not_not.1 hlv))
    have hdl : decide (cf y xh < 0) = true := decide_eq_true hlv2
    go_wp2_with fail
    refine wp_region_quiet_below (by assumption) (by kernel_rfl) ?_
    repeat (quiet_step ((go_at_fn g; refine Calls.regrown_of (hcg _ _))))
    refine wpQuiet_nil ?_
    intro _ hw'
    obtain ⟨⟨dq, osq⟩, hw''⟩ := hw'
    subst hw''
    go_wp2_with fail
    go_roundg (h - i)
    case measure => omega
    case rel =>
     refine ⟨i, h, dq, os ++ osq, rfl, rfl, hi, hih, by omega, Nat.le_refl _, by rw [← HWQ.out, sWB_regrown], ⟨HI.out.1, ?_⟩⟩
     obtain ⟨hl, he⟩ := HX2.out
     exact down2 HSW.out HXs.out y (h - a) hl (by rw [he]; exact HLV.out)
  ·have hltz : ¬ (i : Int) < (j : Int) := by omega
   obtain rfl : i = j := by omega
   have HI2 := HI
   have hst0 : wq = sWB enc k w blk off q d os := HWQ.out.symm
   have HST2 := Aside0.mk hst0
   clear hst0 hwq HWQ HI
   go_wp2_with fail
   go_loopg [17] (m - i) (fun gg vk wr => ∃ (t q : Nat) (os : Array Obj) (dk : Array α), vk = .int .i64 ((a + t : Nat) : Int) ∧ i ≤ a + t ∧ a + t ≤ m ∧ a + t - i ≤ gg ∧ dk.size = d.size ∧ wr = sWB enc k w blk off q dk os ∧ Hid (dk.toList = A ++ (X.take t ++ y :: (X.drop t ++ B))))
   case atStart =>
    have h1 := HM.out.2
    exact ⟨X.length, q, os, d, by rw [← h1], by omega, by omega, by omega, rfl, HST2.out, (by show _ = _; rw [List.take_length, List.drop_length]; exact HD.out)⟩
   case round =>
    obtain ⟨t, q2, os2, dk, rfl, ht, htm, hg2, hsk, rfl, HT⟩ := hrel
    obtain ⟨kj, hkj⟩ : ∃ kj, kj = a + t := ⟨_, rfl⟩
    have HKK := Aside0.mk hkj
    rw [← hkj] at ht htm hg2 ⊢
    clear hkj
    by_cases hlt2 : i < kj
    ·obtain ⟨kk, rfl⟩ : ∃ kk, kj = kk + 1 := ⟨kj - 1, by omega⟩
     have hltz2 : (i : Int) < (kk : Int) + 1 := by omega
     obtain ⟨x0, hx0⟩ : ∃ z, dk[kk]! = z := ⟨_, rfl⟩
     obtain ⟨x1, hx1⟩ : ∃ z, dk[kk + 1]! = z := ⟨_, rfl⟩
     have j0 : (kk : Int) < (d.size : Int) := by omega
     have j1 : (kk : Int) + 1 < (d.size : Int) := by omega
     have j2 : (0 : Int) ≤ (kk : Int) + 1 := by omega
     have e1 : ((kk : Int) + 1).toNat = kk + 1 := by omega
     have hwp : IntKind.i64.wrap (kk : Int) = (kk : Int) := by rw [IntKind.wrap_i64]; omega
     have hHd : HoldsK enc k (sWB enc k w blk off q2 dk os2).drew blk off dk := sWB_holds enc k w blk off q2 d dk os2 HH.out hblk hsk
     have bnd : ∀ z, z < dk.size → z * k + k ≤ dk.size * k := fun z hz => by
      have := Nat.mul_le_mul_right k (show z + 1 ≤ dk.size from hz); rwa [Nat.add_mul, Nat.one_mul] at this
     have HNX : Hid ((swp dk (kk + 1) kk).toList = A ++ (X.take (t - 1) ++ y :: (X.drop (t - 1) ++ B))) := by
      show _ = _
      have hk2 := HKK.out
      have q1 := HM.out.1
      have q3 := HM.out.2
      obtain ⟨s, rfl⟩ : ∃ s, t = s + 1 := ⟨t - 1, by omega⟩
      have hty : s < X.length := by omega
      have hT := HT.out
      rw [List.take_succ_eq_append_getElem hty] at hT
      have hT2 : dk.toList = (A ++ X.take s) ++ X[s] :: ([] ++ y :: (X.drop (s + 1) ++ B)) := by rw [hT]; simp only [List.append_assoc, List.cons_append, List.nil_append]
      have := swp_list dk _ _ _ _ _ hT2
      rw [List.length_append, List.length_take, Nat.min_eq_left (by omega), ← q1, show a + s = kk by omega, List.length_nil, Nat.add_zero] at this
      rw [swp_comm _ _ _ (by omega), this, Nat.add_sub_cancel, List.drop_eq_getElem_cons hty]
      simp only [List.append_assoc, List.cons_append, List.nil_append]
     have HSWP : Hid (((sWB enc k w blk off q2 dk os2).drew.setCells blk (off + (kk + 1) * k) (enc x0)).setCells blk (off + kk * k) (enc x1) = sWB enc k w blk off (q2 + 1) (swp dk (kk + 1) kk) os2) := by
      show _ = _
      rw [sWB_drew, ← hx0, ← hx1]
      exact sWB_swp enc k HK.out w blk off (q2 + 1) dk os2 hblk (kk + 1) kk (by omega) (by omega)
     generalize sWB enc k w blk off q2 dk os2 = wq at hHd HSWP ⊢
     have l0 : Sem.run P (loadCellsFrom ⟨blk, off + (kk + 1) * k, none⟩ 0 k #[]) wq.drew = .ok (enc x1).toArray wq.drew := by rw [← hx1]; exact run_loadCellsFrom_list P _ _ _ k (HK.out _) (HoldsK.cells hHd HK.out (by omega))
     have l1 : Sem.run P (loadCellsFrom ⟨blk, off + kk * k, none⟩ 0 k #[]) wq.drew = .ok (enc x0).toArray wq.drew := by rw [← hx0]; exact run_loadCellsFrom_list P _ _ _ k (HK.out _) (HoldsK.cells hHd HK.out (by omega))
     have s1 : Sem.run P (storeCells ⟨blk, off + (kk + 1) * k, none⟩ (enc x0) 0) wq.drew = .ok () (wq.drew.setCells blk (off + (kk + 1) * k) (enc x0)) := stores_of_holds P hHd ((kk + 1) * k) _ (by rw [HK.out, size_flatK]; exact bnd (kk + 1) (by omega)) (H1.out _)
     have s2 : Sem.run P (storeCells ⟨blk, off + kk * k, none⟩ (enc x1) 0) (wq.drew.setCells blk (off + (kk + 1) * k) (enc x0)) = .ok () ((wq.drew.setCells blk (off + (kk + 1) * k) (enc x0)).setCells blk (off + kk * k) (enc x1)) :=
      stores_of_holds P (holds_setCells_c hHd ((kk + 1) * k) _ (by rw [HK.out, size_flatK]; exact bnd (kk + 1) (by omega))) (kk * k) _ (by rw [HK.out, size_setMany, size_flatK]; exact bnd kk (by omega)) (H1.out _)
     have hs0 : (enc x1).length = k := HK.out _
     have hs1 : (enc x0).length = k := HK.out _
     clear hHd bnd hx1 hx0
     obtain ⟨c0, hc0⟩ : ∃ c, enc x1 = c := ⟨_, rfl⟩
     obtain ⟨c1, hc1⟩ : ∃ c, enc x0 = c := ⟨_, rfl⟩
     rw [hc0] at l0 s2 hs0 HSWP
     rw [hc1] at l1 s1 s2 hs1 HSWP
     clear hc0 hc1
     go_wp2_with fail
     go_big_region_o
     all_goals go_wp2
     go_roundg (kk - i)
     case measure => omega
     case rel =>
      have hk2 := HKK.out
      have q3 := HM.out.2
      exact ⟨t - 1, q2 + 1, os2, _, by rw [show a + (t - 1) = kk by omega], by omega, by omega, by omega, by rw [size_swp]; exact hsk, HSWP.out, HNX⟩
    ·have hltz2 : ¬ (i : Int) < (kj : Int) := by omega
     go_wp2
     refine bodyPost_ret (results_none rfl _ _ _) rfl ?_
     have hk2 := HKK.out
     obtain ⟨z1, z2⟩ := HI2.out
     have et : i - a = t := by omega
     rw [et] at z1 z2
     have hf := fin2 HSW.out HXs.out y t z1 z2
     exact ⟨rfl, q2, os2, dk, ⟨_, by rw [HT.out]; simp only [List.append_assoc, List.cons_append], hf.1, hf.2⟩, hsk, rfl⟩
end Go.Proofs.Ytodbmagneaiocaa.PA
namespace Go.Proofs.Ytodbmagneaiocaa.PA
open Go.RowKit Go.Proofs.YtodbmagneaiocaaW.PrintWords Go.Proofs.YtodbmagneaiocaaW.PrintLast Go.Proofs.YtodbmagneaiocaaW.PrintMore
attribute [local go_sem] max2_int min2_int max_two min_two max_three min_three max_four min_four
set_option linter.unusedVariables false
set_option linter.unusedSimpArgs false
open Go Go.Shelf Go.Lib Go.Sort
theorem get_mid {α : Type} [Inhabited α] (l r : List α) (x : α) (n : Nat) (h : n = l.length) : (l ++ x :: r)[n]! = x := by
 subst h
 simp
theorem split_at {α : Type} (Pp : List α) (t u : Nat) (hu : u = t + 1) (h : t < Pp.length) : ∃ z, Pp[t]? = some z ∧ Pp.take u = Pp.take t ++ [z] ∧ Pp.drop t = z :: Pp.drop u := by
 subst hu
 exact ⟨Pp[t], List.getElem?_eq_getElem h, List.take_succ_eq_append_getElem h, List.drop_eq_getElem_cons h⟩
set_option maxHeartbeats 8000000 in
set_option maxRecDepth 1000000 in
theorem ins_call {P : Program} (L : LS P) {α : Type} [Inhabited α] (enc : α → List Value) (k : Nat) (aE : ∀ w, (isAgg 43).run P w = .ok true w) (zE : ∀ w, (Go.sizeOf 43).run P w = .ok k w) (hk : ∀ x, (enc x).length = k) (h1 : ∀ x, ∀ v ∈ enc x, v.oneCell' = true)
  (cf : α → α → Int) (hS : SWO (ltOf cf)) (g : Nat) (cb : Array Value) (eg : ∀ args w, (callFunc g args).run P w = .ok (.enter g args) w) (blk off cap : Nat) (A X B : List α) (d : Array α) (w : World) (hcmp : CmpB P g cb enc k cf blk off d.size w) (hH : HoldsK enc k w blk off d) (hblk : blk < w.heap.size) (hd : d.toList = A ++ (X ++ B)) (a b : Nat) (ha : a = A.length) (hb : b = A.length + X.length) (hsz : d.size < 1000000000000) :
  Calls P 46 #[.slice (some ⟨blk, off, none⟩) d.size cap, .int .i64 a, .int .i64 b, .func (.func g) #[] cb] w fun e w' =>
   e = .returned (.tuple #[]) ∧ ∃ q os dk, (∃ Z, dk.toList = A ++ (Z ++ B) ∧ StP (ltOf cf) X Z ∧ SortedL (ltOf cf) Z) ∧ dk.size = d.size ∧ w' = sWB enc k w blk off q dk os := by
 have mixed := L.mixed
 have t3 := L.t3; have a3 := L.a3; have z3 := L.z3; have v3 := L.v3; have t4 := L.t4; have a4 := L.a4; have z4 := L.z4; have v4 := L.v4; have t68 := L.t68; have a68 := L.a68; have z68 := L.z68; have v68 := L.v68; have t22 := L.t22; have a22 := L.a22; have z22 := L.z22; have v22 := L.v22
 have F := L.f46
 have hsl : d.size = A.length + (X.length + B.length) := by
  rw [← Array.length_toList, hd]
  simp
 have HD := Aside0.mk hd
 have HSW := Aside0.mk hS
 have HST : Hid (w = sWB enc k w blk off w.drawn d #[]) := (sWB_start enc k w blk off d hH).symm
 have HH : Hid (HoldsK enc k w blk off d) := hH
 have HC := Aside0.mk hcmp
 have HK : Hid (∀ x, (enc x).length = k) := hk
 have H1 : Hid (∀ x, ∀ v ∈ enc x, v.oneCell' = true) := h1
 have hbx : b = a + X.length := by omega
 have HM := Aside0.mk (And.intro ha hbx)
 have hab : a ≤ b := by omega
 have hbd : b ≤ d.size := by omega
 clear hsl hd hS hH hcmp hk h1 ha hb hbx
 go_enter F, Try.ntmps46
 go_wp2
 go_loopg [8] (b - a) (fun g1 vi wr => ∃ (i q : Nat) (os : Array Obj) (dk : Array α), vi = .int .i64 i ∧ a < i ∧ i ≤ b + 1 ∧ b + 1 - i ≤ g1 + 1 ∧ dk.size = d.size ∧ wr = sWB enc k w blk off q dk os ∧ Hid (∃ Pp, dk.toList = A ++ (Pp ++ (X.drop (i - a) ++ B)) ∧ StP (ltOf cf) (X.take (i - a)) Pp ∧ SortedL (ltOf cf) Pp))
 case atStart => exact ⟨a + 1, _, #[], d, by go_num, by omega, by omega, by omega, rfl, HST.out, ⟨X.take (a + 1 - a), by rw [HD.out, ← List.append_assoc (X.take _), List.take_append_drop], StP.refl _, by
  rw [show a + 1 - a = 1 by omega]
  cases X with
  | nil => exact List.Pairwise.nil
  | cons x l => exact List.pairwise_singleton _ _⟩⟩
 case round =>
  obtain ⟨i, q, os, dk, rfl, hai, hib, hg1, hsk, rfl, HP⟩ := hrel
  by_cases hlt : i < b
  ·have hltz : (i : Int) < (b : Int) := by omega
   obtain ⟨Pp, hP1, hP2, hP3⟩ := HP.out
   have hxl : i - a < X.length := by have := HM.out.2; omega
   obtain ⟨x, hx⟩ : ∃ x, X[i - a] = x := ⟨_, rfl⟩
   have hPl : Pp.length = i - a := by rw [hP2.len, List.length_take]; omega
   have hP4 : dk.toList = A ++ (Pp ++ x :: (X.drop (i + 1 - a) ++ B)) := by
    rw [hP1, List.drop_eq_getElem_cons hxl, hx, show i - a + 1 = i + 1 - a by omega]
    rfl
   have hP5 : StP (ltOf cf) (X.take (i + 1 - a)) (Pp ++ [x]) := by
    rw [show i + 1 - a = i - a + 1 by omega, List.take_succ_eq_append_getElem hxl, hx]
    exact hP2.app (StP.refl _)
   have HPP := Aside0.mk (And.intro hPl (And.intro hP3 hP5))
   have HP4 := Aside0.mk hP4
   clear hxl hx hPl hP1 hP2 hP3 hP4 hP5 HP
   go_wp2
   go_loopg [9] i (fun g2 vj wr2 => ∃ (j q : Nat) (os : Array Obj) (dj : Array α), vj = .int .i64 j ∧ a ≤ j ∧ j ≤ i ∧ j ≤ g2 ∧ dj.size = d.size ∧ wr2 = sWB enc k w blk off q dj os ∧ Hid (dj.toList = A ++ (Pp.take (j - a) ++ x :: (Pp.drop (j - a) ++ (X.drop (i + 1 - a) ++ B))) ∧ ∀ p ∈ Pp.drop (j - a), ltOf cf x p = true))
   case atStart => exact ⟨i, q, os, dk, rfl, by omega, Nat.le_refl _, Nat.le_refl _, hsk, rfl, ⟨by rw [← HPP.out.1, List.take_length, List.drop_length]; exact HP4.out, by rw [← HPP.out.1, List.drop_length]; simp⟩⟩
   case round =>
    obtain ⟨j, m, oj, dj, rfl, haj, hji, hg2, hsj, rfl, HI⟩ := hrel
    have out : ((j ≤ a) ∨ ∃ z, Pp[j - a - 1]? = some z ∧ ltOf cf x z = false) → Hid (∃ Pq, dj.toList = A ++ (Pq ++ (X.drop (i + 1 - a) ++ B)) ∧ StP (ltOf cf) (X.take (i + 1 - a)) Pq ∧ SortedL (ltOf cf) Pq) := fun hs => by
     obtain ⟨q1, q2⟩ := HI.out
     have h1 : ∀ p ∈ Pp.take (j - a), ltOf cf x p = false := by
      rcases hs with h | ⟨z, hz, h2⟩
      ·rw [show j - a = 0 by omega, List.take_zero]
       simp
      ·by_cases e0 : j - a = 0
       ·rw [e0, List.take_zero]
        simp
       ·obtain ⟨h, he⟩ := List.getElem?_eq_some_iff.1 hz
        have := up2 HSW.out HPP.out.2.1 x (j - a - 1) h (by rw [he]; exact h2)
        rwa [show j - a - 1 + 1 = j - a by omega] at this
     have hf := fin2 HSW.out HPP.out.2.1 x (j - a) h1 q2
     exact ⟨Pp.take (j - a) ++ x :: Pp.drop (j - a), by rw [q1]; simp only [List.append_assoc, List.cons_append], HPP.out.2.2.trans hf.1, hf.2⟩
    have OUT : Aside _ := out
    clear out
    by_cases hja : a < j
    ·have hjaz : (a : Int) < (j : Int) := by omega
     obtain ⟨kk, rfl⟩ : ∃ kk, j = kk + 1 := ⟨j - 1, by omega⟩
     obtain ⟨z, hz1, hz2, hz3⟩ := split_at Pp (kk - a) (kk + 1 - a) (by omega) (by have h0 := HPP.out.1; omega)
     have HZ := Aside0.mk (And.intro hz1 (And.intro hz2 hz3))
     have hJ : dj.toList = (A ++ Pp.take (kk - a)) ++ z :: ([] ++ x :: (Pp.drop (kk + 1 - a) ++ (X.drop (i + 1 - a) ++ B))) := by
      rw [HI.out.1, hz2]
      simp only [List.append_assoc, List.cons_append, List.nil_append]
     have HJ := Aside0.mk hJ
     clear hz1 hz2 hz3 hJ
     have HAL : Aside0 ((A ++ Pp.take (kk - a)).length = kk) := ⟨by
      have h0 := HPP.out.1
      have h1 := HM.out.1
      rw [List.length_append, List.length_take]
      omega⟩
     obtain ⟨x0, hz0⟩ : ∃ z, dj[kk]! = z := ⟨_, rfl⟩
     obtain ⟨x1, hz1⟩ : ∃ z, dj[kk + 1]! = z := ⟨_, rfl⟩
     have HX01 : Aside0 (x1 = x ∧ x0 = z) := by
      have hL := HJ.out
      have hA := HAL.out
      refine ⟨⟨?_, ?_⟩⟩
      ·rw [← hz1, ← Array.getElem!_toList, hL]
       have e : kk + 1 = ((A ++ Pp.take (kk - a)) ++ [z]).length := by rw [List.length_append, hA]; rfl
       rw [show (A ++ Pp.take (kk - a)) ++ z :: ([] ++ x :: (Pp.drop (kk + 1 - a) ++ (X.drop (i + 1 - a) ++ B))) = ((A ++ Pp.take (kk - a)) ++ [z]) ++ x :: (Pp.drop (kk + 1 - a) ++ (X.drop (i + 1 - a) ++ B)) by simp only [List.append_assoc, List.cons_append, List.nil_append]]
       exact get_mid _ _ _ _ e
      ·rw [← hz0, ← Array.getElem!_toList, hL]
       exact get_mid _ _ _ _ hA.symm
     have j0 : (kk : Int) < (d.size : Int) := by omega
     have j1 : (kk : Int) + 1 < (d.size : Int) := by omega
     have j2 : (0 : Int) ≤ (kk : Int) + 1 := by omega
     have e1 : ((kk : Int) + 1).toNat = kk + 1 := by omega
     have hwp : IntKind.i64.wrap (kk : Int) = (kk : Int) := by rw [IntKind.wrap_i64]; omega
     have hjaz' : (a : Int) < (kk : Int) + 1 := by omega
     have hkd : kk < dj.size := by omega
     have hkd1 : kk + 1 < dj.size := by omega
     have hcls : ∀ q' os', grow (redrawn (sWB enc k w blk off m dj oj) q') os' = sWB enc k w blk off q' dj (oj ++ os') := fun q' os' => sWB_regrown enc k w blk off m q' dj oj os'
     have hHc : ∀ q' os', HoldsK enc k (grow (redrawn (sWB enc k w blk off m dj oj) q') os') blk off dj := fun q' os' => by rw [hcls]; exact sWB_holds enc k w blk off q' d dj _ HH.out hblk hsj
     have l0q : ∀ q' os', Sem.run P (loadCellsFrom ⟨blk, off + kk * k, none⟩ 0 k #[]) (grow (redrawn (sWB enc k w blk off m dj oj) q') os') = .ok (enc x0).toArray (grow (redrawn (sWB enc k w blk off m dj oj) q') os') := fun q' os' => by
      rw [← hz0]; exact run_loadCellsFrom_list P _ _ _ k (HK.out _) (HoldsK.cells (hHc q' os') HK.out hkd)
     have l1q : ∀ q' os', Sem.run P (loadCellsFrom ⟨blk, off + (kk + 1) * k, none⟩ 0 k #[]) (grow (redrawn (sWB enc k w blk off m dj oj) q') os') = .ok (enc x1).toArray (grow (redrawn (sWB enc k w blk off m dj oj) q') os') := fun q' os' => by
      rw [← hz1]; exact run_loadCellsFrom_list P _ _ _ k (HK.out _) (HoldsK.cells (hHc q' os') HK.out hkd1)
     have hcg : ∀ q' os', Calls P g (#[.agg (enc x1).toArray, .agg (enc x0).toArray] ++ cb) (grow (redrawn (sWB enc k w blk off m dj oj) q') os') fun e w' => e = .returned (.int .i64 (cf x1 x0)) ∧ Below (grow (redrawn (sWB enc k w blk off m dj oj) q') os').heap.size (grow (redrawn (sWB enc k w blk off m dj oj) q') os') w' := fun q' os' => by
      rw [hcls]; exact HC.out q' _ dj hsj x1 x0
     have CLS : Hid _ := hcls
     clear hcls hHc
     generalize sWB enc k w blk off m dj oj = wq at l0q l1q hcg CLS ⊢
     by_cases hlv : cf x1 x0 < 0
     ·have HLV := Aside0.mk (show ltOf cf x1 x0 = true from decide_eq_true hlv)
      go_wp2_with fail
      refine wp_region_quiet_below (by assumption) (by kernel_rfl) ?_
      repeat (quiet_step ((go_at_fn g; refine Calls.regrown_of (hcg _ _))))
      refine wpQuiet_nil ?_
      intro _ hw'
      obtain ⟨⟨dq, osq⟩, hw''⟩ := hw'
      subst hw''
      go_wp2_with fail
      have hw2 : grow (redrawn wq dq) osq = sWB enc k w blk off dq dj (oj ++ osq) := CLS.out dq osq
      rw [hw2]
      have hHd : HoldsK enc k (sWB enc k w blk off dq dj (oj ++ osq)).drew blk off dj := sWB_holds enc k w blk off dq d dj _ HH.out hblk hsj
      have bnd : ∀ z, z < dj.size → z * k + k ≤ dj.size * k := fun z hz => by
       have := Nat.mul_le_mul_right k (show z + 1 ≤ dj.size from hz); rwa [Nat.add_mul, Nat.one_mul] at this
      have HNX : Hid ((swp dj (kk + 1) kk).toList = A ++ (Pp.take (kk - a) ++ x :: (Pp.drop (kk - a) ++ (X.drop (i + 1 - a) ++ B))) ∧ ∀ p ∈ Pp.drop (kk - a), ltOf cf x p = true) := by
       have hL := HJ.out
       obtain ⟨hx1, hx0⟩ := HX01.out
       have hd2 := HZ.out.2.2
       constructor
       ·have := swp_list dj _ _ _ _ _ hL
        rw [HAL.out, List.length_nil, Nat.add_zero] at this
        rw [swp_comm _ _ _ (by omega), this, hd2]
        simp only [List.append_assoc, List.cons_append, List.nil_append]
       ·intro p hp
        rw [hd2] at hp
        rcases List.mem_cons.1 hp with h | h
        ·rw [h, ← hx0, ← hx1]
         exact HLV.out
        ·exact HI.out.2 p h
      have HSWP : Hid (((sWB enc k w blk off dq dj (oj ++ osq)).drew.setCells blk (off + (kk + 1) * k) (enc x0)).setCells blk (off + kk * k) (enc x1) = sWB enc k w blk off (dq + 1) (swp dj (kk + 1) kk) (oj ++ osq)) := by
       show _ = _
       rw [sWB_drew, ← hz0, ← hz1]
       exact sWB_swp enc k HK.out w blk off (dq + 1) dj (oj ++ osq) hblk (kk + 1) kk hkd1 hkd
      clear l0q l1q hcg hw2
      generalize sWB enc k w blk off dq dj (oj ++ osq) = wq at hHd HSWP ⊢
      have l0 : Sem.run P (loadCellsFrom ⟨blk, off + (kk + 1) * k, none⟩ 0 k #[]) wq.drew = .ok (enc x1).toArray wq.drew := by rw [← hz1]; exact run_loadCellsFrom_list P _ _ _ k (HK.out _) (HoldsK.cells hHd HK.out (by omega))
      have l1 : Sem.run P (loadCellsFrom ⟨blk, off + kk * k, none⟩ 0 k #[]) wq.drew = .ok (enc x0).toArray wq.drew := by rw [← hz0]; exact run_loadCellsFrom_list P _ _ _ k (HK.out _) (HoldsK.cells hHd HK.out (by omega))
      have s1 : Sem.run P (storeCells ⟨blk, off + (kk + 1) * k, none⟩ (enc x0) 0) wq.drew = .ok () (wq.drew.setCells blk (off + (kk + 1) * k) (enc x0)) := stores_of_holds P hHd ((kk + 1) * k) _ (by rw [HK.out, size_flatK]; exact bnd (kk + 1) (by omega)) (H1.out _)
      have s2 : Sem.run P (storeCells ⟨blk, off + kk * k, none⟩ (enc x1) 0) (wq.drew.setCells blk (off + (kk + 1) * k) (enc x0)) = .ok () ((wq.drew.setCells blk (off + (kk + 1) * k) (enc x0)).setCells blk (off + kk * k) (enc x1)) :=
       stores_of_holds P (holds_setCells_c hHd ((kk + 1) * k) _ (by rw [HK.out, size_flatK]; exact bnd (kk + 1) (by omega))) (kk * k) _ (by rw [HK.out, size_setMany, size_flatK]; exact bnd kk (by omega)) (H1.out _)
      have hs0 : (enc x1).length = k := HK.out _
      have hs1 : (enc x0).length = k := HK.out _
      clear hHd bnd hz1 hz0
      obtain ⟨c0, hc0⟩ : ∃ c, enc x1 = c := ⟨_, rfl⟩
      obtain ⟨c1, hc1⟩ : ∃ c, enc x0 = c := ⟨_, rfl⟩
      rw [hc0] at l0 s2 hs0 HSWP
      rw [hc1] at l1 s1 s2 hs1 HSWP
      clear hc0 hc1
      go_wp2_with fail
      go_big_region_o
      all_goals go_wp2
      go_roundg kk
      case measure => omega
      case rel => exact ⟨kk, dq + 1, oj ++ osq, _, rfl, by omega, by omega, Nat.le_refl _, by rw [size_swp]; exact hsj, HSWP.out, HNX⟩
     ·have HLV := Aside0.mk (show ltOf cf x1 x0 = false from decide_eq_false hlv)
      have HOUT := OUT.out (Or.inr (by
       obtain ⟨hx1, hx0⟩ := HX01.out
       exact ⟨z, by rw [show kk + 1 - a - 1 = kk - a by omega]; exact HZ.out.1, by rw [← hx0, ← hx1]; exact HLV.out⟩))
      go_wp2_with fail
      refine wp_region_quiet_below (by assumption) (by kernel_rfl) ?_
      repeat (quiet_step ((go_at_fn g; refine Calls.regrown_of (hcg _ _))))
      refine wpQuiet_nil ?_
      intro _ hw'
      obtain ⟨⟨dq, osq⟩, hw''⟩ := hw'
      subst hw''
      go_wp2
      go_roundg (b - (i + 1))
      case measure => omega
      case rel => exact ⟨i + 1, dq, oj ++ osq, dj, by go_num, by omega, by omega, by omega, hsj, CLS.out dq osq, HOUT⟩
    ·have hjaz : decide ((j : Int) > (a : Int)) = false := decide_eq_false (by omega)
     have hjaz' : ¬ (a : Int) < (j : Int) := by omega
     have HOUT := OUT.out (Or.inl (by omega))
     have HDR : Hid ((sWB enc k w blk off m dj oj).drew = sWB enc k w blk off (m + 1) dj oj) := sWB_drew enc k w blk off m dj oj
     generalize sWB enc k w blk off m dj oj = wq at HDR ⊢
     go_wp2_with fail
     go_big_region_o
     all_goals go_wp2
     go_roundg (b - (i + 1))
     case measure => omega
     case rel => exact ⟨i + 1, m + 1, oj, dj, by go_num, by omega, by omega, by omega, hsj, HDR.out, HOUT⟩
  ·have hltz : ¬ (i : Int) < (b : Int) := by omega
   go_wp2
   go_end0
   obtain ⟨Pp, hP1, hP2, hP3⟩ := HP.out
   have hx := HM.out.2
   rw [List.take_of_length_le (by omega)] at hP2
   rw [List.drop_eq_nil_of_le (by omega), List.nil_append] at hP1
   exact ⟨rfl, q, os, dk, ⟨Pp, hP1, hP2, hP3⟩, hsk, rfl⟩
end Go.Proofs.Ytodbmagneaiocaa.PA
namespace Go.Proofs.Ytodbmagneaiocaa.PA
open Go.RowKit Go.Proofs.YtodbmagneaiocaaW.PrintWords Go.Proofs.YtodbmagneaiocaaW.PrintLast Go.Proofs.YtodbmagneaiocaaW.PrintMore
attribute [local go_sem] max2_int min2_int max_two min_two max_three min_three max_four min_four
set_option linter.unusedVariables false
set_option linter.unusedSimpArgs false
open Go Go.Shelf Go.Lib Go.Sort
set_option maxHeartbeats 4000000 in
set_option maxRecDepth 1000000 in
theorem sym1_call {P : Program} (L : LS P) {α : Type} [Inhabited α] (enc : α → List Value) (k : Nat) (aE : ∀ w, (isAgg 43).run P w = .ok true w) (zE : ∀ w, (Go.sizeOf 43).run P w = .ok k w) (hk : ∀ x, (enc x).length = k) (h1 : ∀ x, ∀ v ∈ enc x, v.oneCell' = true)
  (cf : α → α → Int) (hS : SWO (ltOf cf)) (g : Nat) (cb : Array Value) (eg : ∀ args w, (callFunc g args).run P w = .ok (.enter g args) w) (blk off cap : Nat) (A : List α) (x : α) (Y B : List α) (d : Array α) (w : World) (hcmp : CmpB P g cb enc k cf blk off d.size w) (hH : HoldsK enc k w blk off d) (hblk : blk < w.heap.size) (hd : d.toList = A ++ x :: (Y ++ B)) (hY : SortedL (ltOf cf) Y) (a m b : Nat) (ha : a = A.length) (hm : m = A.length + 1) (hb : b = A.length + 1 + Y.length) (hsz : d.size < 1000000000000) :
  Calls P 47 #[.slice (some ⟨blk, off, none⟩) d.size cap, .int .i64 a, .int .i64 m, .int .i64 b, .func (.func g) #[] cb] w fun e w' =>
   e = .returned (.tuple #[]) ∧ ∃ q os dk, (∃ Z, dk.toList = A ++ (Z ++ B) ∧ StP (ltOf cf) ([x] ++ Y) Z ∧ SortedL (ltOf cf) Z) ∧ dk.size = d.size ∧ w' = sWB enc k w blk off q dk os := by
 have mixed := L.mixed
 have t3 := L.t3; have a3 := L.a3; have z3 := L.z3; have v3 := L.v3; have t4 := L.t4; have a4 := L.a4; have z4 := L.z4; have v4 := L.v4; have t68 := L.t68; have a68 := L.a68; have z68 := L.z68; have v68 := L.v68; have t22 := L.t22; have a22 := L.a22; have z22 := L.z22; have v22 := L.v22
 have F := L.f47
 have hsl : d.size = A.length + (1 + Y.length + B.length) := by
  rw [← Array.length_toList, hd]
  simp
  omega
 have hdx : d[a]! = x := by
  rw [ha, ← Array.getElem!_toList, hd]
  simp
 have hdy : ∀ t (h : t < Y.length), d[m + t]! = Y[t] := fun t h => by
  rw [hm, ← Array.getElem!_toList, hd, show A.length + 1 + t = A.length + (1 + t) by omega]
  simp [h, List.getElem?_append, show 1 + t = t + 1 by omega]
  rw [if_neg (by omega)]
  rfl
 have HD := Aside0.mk hd
 have HDX := Aside0.mk hdx
 have HDY := Aside0.mk hdy
 have HYs := Aside0.mk hY
 have HSW := Aside0.mk hS
 have HST : Hid (w = sWB enc k w blk off w.drawn d #[]) := (sWB_start enc k w blk off d hH).symm
 have HH : Hid (HoldsK enc k w blk off d) := hH
 have HC := Aside0.mk hcmp
 have HK : Hid (∀ x, (enc x).length = k) := hk
 have H1 : Hid (∀ x, ∀ v ∈ enc x, v.oneCell' = true) := h1
 have hma : m = a + 1 := by omega
 have hmz : (m : Int) - (a : Int) = 1 := by omega
 have hbm : b = m + Y.length := by omega
 have hbd : b ≤ d.size := by omega
 have HM := Aside0.mk (And.intro ha (And.intro hma hbm))
 have hm0 : a + 1 ≤ m := by omega
 have hmb : m ≤ b := by omega
 clear hsl hdx hdy hd hY hS hH hcmp hk h1 ha hm hb hma hbm
 go_enter F, Try.ntmps47
 go_wp2
 go_loopg [10, 11] Y.length (fun gg vi vj wr => ∃ (i j q : Nat) (os : Array Obj), vi = .int .i64 i ∧ vj = .int .i64 j ∧ m ≤ i ∧ i ≤ j ∧ j ≤ b ∧ j - i ≤ gg ∧ wr = sWB enc k w blk off q d os ∧ Hid ((∀ y ∈ Y.take (i - m), ltOf cf y x = true) ∧ (∀ y ∈ Y.drop (j - m), ltOf cf y x = false)))
 case atStart =>
  have h1 := HM.out.2.2
  exact ⟨m, b, _, #[], rfl, rfl, by omega, by omega, by omega, by omega, HST.out, ⟨by rw [Nat.sub_self, List.take_zero]; simp, by rw [show b - m = Y.length by omega, List.drop_length]; simp⟩⟩
 case round =>
  obtain ⟨i, j, q, os, rfl, rfl, hi, hij, hjb, hg, rfl, HI⟩ := hrel
  obtain ⟨wq, hwq⟩ : ∃ wq, sWB enc k w blk off q d os = wq := ⟨_, rfl⟩
  have HWQ := Aside0.mk hwq
  rw [hwq]
  by_cases hlt : i < j
  ·have hltz : (i : Int) < (j : Int) := by omega
   obtain ⟨h, hh⟩ : ∃ h : Nat, ((i : Int) + (j : Int)) / 2 = (h : Int) := ⟨(i + j) / 2, by omega⟩
   have hih : i ≤ h := by omega
   have hhj : h < j := by omega
   have hhz : (h : Int) < (d.size : Int) := by omega
   have haz : (a : Int) < (d.size : Int) := by omega
   obtain ⟨xh, hxh⟩ : ∃ z, d[h]! = z := ⟨_, rfl⟩
   have hxh2 : ∃ hl : h - m < Y.length, Y[h - m] = xh := by
    have hq := HM.out.2.2
    refine ⟨by omega, ?_⟩
    rw [← HDY.out (h - m) (by omega), show m + (h - m) = h by omega, hxh]
   have HX2 := Aside0.mk hxh2
   have hHc : ∀ q' os', HoldsK enc k (grow (redrawn wq q') os') blk off d := fun q' os' => by
    rw [← HWQ.out, sWB_regrown]
    exact sWB_holds enc k w blk off q' d d _ HH.out hblk rfl
   have lh : ∀ q' os', Sem.run P (loadCellsFrom ⟨blk, off + h * k, none⟩ 0 k #[]) (grow (redrawn wq q') os') = .ok (enc xh).toArray (grow (redrawn wq q') os') := fun q' os' => by
    rw [← hxh]; exact run_loadCellsFrom_list P _ _ _ k (HK.out _) (HoldsK.cells (hHc q' os') HK.out (by omega))
   have la : ∀ q' os', Sem.run P (loadCellsFrom ⟨blk, off + a * k, none⟩ 0 k #[]) (grow (redrawn wq q') os') = .ok (enc x).toArray (grow (redrawn wq q') os') := fun q' os' => by
    rw [← HDX.out]; exact run_loadCellsFrom_list P _ _ _ k (HK.out _) (HoldsK.cells (hHc q' os') HK.out (by omega))
   have hcg : ∀ q' os', Calls P g (#[.agg (enc xh).toArray, .agg (enc x).toArray] ++ cb) (grow (redrawn wq q') os') fun e w' => e = .returned (.int .i64 (cf xh x)) ∧ Below (grow (redrawn wq q') os').heap.size (grow (redrawn wq q') os') w' := fun q' os' => by
    rw [← HWQ.out, sWB_regrown]
    exact HC.out q' _ d rfl xh x
   clear hHc hxh hxh2 hwq
   by_cases hlv : cf xh x < 0
   ·have HLV := Aside0.mk (show ltOf cf xh x = true from decide_eq_true hlv)
    go_wp2_with fail
    refine wp_region_quiet_below (by assumption) (by kernel_rfl) ?_
    repeat (quiet_step ((go_at_fn g; refine Calls.regrown_of (hcg _ _))))
    refine wpQuiet_nil ?_
    intro _ hw'
    obtain ⟨⟨dq, osq⟩, hw''⟩ := hw'
    subst hw''
    go_wp2_with fail
    go_roundg (j - (h + 1))
    case measure => omega
    case rel =>
     refine ⟨h + 1, j, dq, os ++ osq, by go_num, rfl, by omega, by omega, by omega, Nat.le_refl _, by rw [← HWQ.out, sWB_regrown], ⟨?_, HI.out.2⟩⟩
     obtain ⟨hl, he⟩ := HX2.out
     rw [show h + 1 - m = h - m + 1 by omega]
     exact up1 HSW.out HYs.out x (h - m) hl (by rw [he]; exact HLV.out)
   ·have HLV := Aside0.mk (show ltOf cf xh x = false from decide_eq_false hlv)
    go_wp2_with fail
    refine wp_region_quiet_below (by assumption) (by kernel_rfl) ?_
    repeat (quiet_step ((go_at_fn g; refine Calls.regrown_of (hcg _ _))))
    refine wpQuiet_nil ?_
    intro _ hw'
    obtain ⟨⟨dq, osq⟩, hw''⟩ := hw'
    subst hw''
    go_wp2_with fail
    go_roundg (h - i)
    case measure => omega
    case rel =>
     refine ⟨i, h, dq, os ++ osq, rfl, rfl, hi, hih, by omega, Nat.le_refl _, by rw [← HWQ.out, sWB_regrown], ⟨HI.out.1, ?_⟩⟩
     obtain ⟨hl, he⟩ := HX2.out
     exact down1 HSW.out HYs.out x (h - m) hl (by rw [he]; exact HLV.out)
  ·have hltz : ¬ (i : Int) < (j : Int) := by omega
   obtain rfl : i = j := by omega
   have HI2 := HI
   have hst0 : wq = sWB enc k w blk off q d os := HWQ.out.symm
   have HST2 := Aside0.mk hst0
   clear hst0 hwq HWQ HI
   go_wp2_with fail
   go_loopg [13] (i - 1 - a) (fun gg vk wr => ∃ (t q : Nat) (os : Array Obj) (dk : Array α), vk = .int .i64 ((a + t : Nat) : Int) ∧ a + t ≤ i - 1 ∧ i - 1 - (a + t) ≤ gg ∧ dk.size = d.size ∧ wr = sWB enc k w blk off q dk os ∧ Hid (dk.toList = A ++ (Y.take t ++ x :: (Y.drop t ++ B))))
   case atStart => exact ⟨0, q, os, d, by go_num, by omega, by omega, rfl, HST2.out, (by show _ = _; rw [List.take_zero, List.drop_zero]; exact HD.out)⟩
   case round =>
    obtain ⟨t, q2, os2, dk, rfl, ht, hg2, hsk, rfl, HT⟩ := hrel
    obtain ⟨kk, hkk⟩ : ∃ kk, kk = a + t := ⟨_, rfl⟩
    have HKK := Aside0.mk hkk
    rw [← hkk] at ht hg2 ⊢
    clear hkk
    by_cases hlt2 : kk < i - 1
    ·have hltz2 : (kk : Int) < (i : Int) - 1 := by omega
     obtain ⟨x0, hx0⟩ : ∃ z, dk[kk]! = z := ⟨_, rfl⟩
     obtain ⟨x1, hx1⟩ : ∃ z, dk[kk + 1]! = z := ⟨_, rfl⟩
     have j0 : (kk : Int) < (d.size : Int) := by omega
     have j1 : (kk : Int) + 1 < (d.size : Int) := by omega
     have j2 : (0 : Int) ≤ (kk : Int) + 1 := by omega
     have e1 : ((kk : Int) + 1).toNat = kk + 1 := by omega
     have hHd : HoldsK enc k (sWB enc k w blk off q2 dk os2).drew blk off dk := sWB_holds enc k w blk off q2 d dk os2 HH.out hblk hsk
     have bnd : ∀ z, z < dk.size → z * k + k ≤ dk.size * k := fun z hz => by
      have := Nat.mul_le_mul_right k (show z + 1 ≤ dk.size from hz); rwa [Nat.add_mul, Nat.one_mul] at this
     have HNX : Hid ((swp dk kk (kk + 1)).toList = A ++ (Y.take (t + 1) ++ x :: (Y.drop (t + 1) ++ B))) := by
      show _ = _
      have hk2 := HKK.out
      have q1 := HM.out.1
      have q3 := HM.out.2.2
      have hty : t < Y.length := by omega
      have hT := HT.out
      rw [List.drop_eq_getElem_cons hty] at hT
      have hT2 : dk.toList = (A ++ Y.take t) ++ x :: ([] ++ Y[t] :: (Y.drop (t + 1) ++ B)) := by rw [hT]; simp only [List.append_assoc, List.cons_append, List.nil_append]
      have := swp_list dk _ _ _ _ _ hT2
      rw [List.length_append, List.length_take, Nat.min_eq_left (by omega), ← q1, ← hk2, List.length_nil, Nat.add_zero] at this
      rw [this, List.take_succ_eq_append_getElem hty]
      simp only [List.append_assoc, List.cons_append, List.nil_append]
     have HSWP : Hid (((sWB enc k w blk off q2 dk os2).drew.setCells blk (off + kk * k) (enc x1)).setCells blk (off + (kk + 1) * k) (enc x0) = sWB enc k w blk off (q2 + 1) (swp dk kk (kk + 1)) os2) := by
      show _ = _
      rw [sWB_drew, ← hx0, ← hx1]
      exact sWB_swp enc k HK.out w blk off (q2 + 1) dk os2 hblk kk (kk + 1) (by omega) (by omega)
     generalize sWB enc k w blk off q2 dk os2 = wq at hHd HSWP ⊢
     have l0 : Sem.run P (loadCellsFrom ⟨blk, off + kk * k, none⟩ 0 k #[]) wq.drew = .ok (enc x0).toArray wq.drew := by rw [← hx0]; exact run_loadCellsFrom_list P _ _ _ k (HK.out _) (HoldsK.cells hHd HK.out (by omega))
     have l1 : Sem.run P (loadCellsFrom ⟨blk, off + (kk + 1) * k, none⟩ 0 k #[]) wq.drew = .ok (enc x1).toArray wq.drew := by rw [← hx1]; exact run_loadCellsFrom_list P _ _ _ k (HK.out _) (HoldsK.cells hHd HK.out (by omega))
     have s1 : Sem.run P (storeCells ⟨blk, off + kk * k, none⟩ (enc x1) 0) wq.drew = .ok () (wq.drew.setCells blk (off + kk * k) (enc x1)) := stores_of_holds P hHd (kk * k) _ (by rw [HK.out, size_flatK]; exact bnd kk (by omega)) (H1.out _)
     have s2 : Sem.run P (storeCells ⟨blk, off + (kk + 1) * k, none⟩ (enc x0) 0) (wq.drew.setCells blk (off + kk * k) (enc x1)) = .ok () ((wq.drew.setCells blk (off + kk * k) (enc x1)).setCells blk (off + (kk + 1) * k) (enc x0)) :=
      stores_of_holds P (holds_setCells_c hHd (kk * k) _ (by rw [HK.out, size_flatK]; exact bnd kk (by omega))) ((kk + 1) * k) _ (by rw [HK.out, size_setMany, size_flatK]; exact bnd (kk + 1) (by omega)) (H1.out _)
     have hs0 : (enc x0).length = k := HK.out _
     have hs1 : (enc x1).length = k := HK.out _
     clear hHd bnd hx0 hx1
     obtain ⟨c0, hc0⟩ : ∃ c, enc x0 = c := ⟨_, rfl⟩
     obtain ⟨c1, hc1⟩ : ∃ c, enc x1 = c := ⟨_, rfl⟩
     rw [hc0] at l0 s2 hs0 HSWP
     rw [hc1] at l1 s1 s2 hs1 HSWP
     clear hc0 hc1
     go_wp2_with fail
     go_big_region_o
     all_goals go_wp2
     go_roundg (i - 1 - (kk + 1))
     case measure => omega
     case rel =>
      have hk2 := HKK.out
      exact ⟨t + 1, q2 + 1, os2, _, by rw [hk2]; go_num, by omega, by omega, by rw [size_swp]; exact hsk, HSWP.out, HNX⟩
    ·have hltz2 : ¬ (kk : Int) < (i : Int) - 1 := by omega
     go_wp2
     refine bodyPost_ret (results_none rfl _ _ _) rfl ?_
     have hk2 := HKK.out
     have q1 := HM.out.2.1
     obtain ⟨z1, z2⟩ := HI2.out
     have et : i - m = t := by omega
     rw [et] at z1 z2
     have hf := fin1 HSW.out HYs.out x t z1 z2
     exact ⟨rfl, q2, os2, dk, ⟨_, by rw [HT.out]; simp, hf.1, hf.2⟩, hsk, rfl⟩
end Go.Proofs.Ytodbmagneaiocaa.PA
