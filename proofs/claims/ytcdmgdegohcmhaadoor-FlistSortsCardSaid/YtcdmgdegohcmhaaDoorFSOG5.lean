/- Plain: a list that may be is what any order of it is sorted to, and its beginnings may be. -/
import Derived.Shelf.RegionOpenPlain
import Derived.Shelf.SlSortCmp.InsertionK
import Derived.Test.YtcdmgdegohcmhaaDoorFSOG1
import Derived.Sort.Statements
import Derived.Lib.QuietBelow
import Derived.Deep.CutRange
import Derived.Deep.DeepCutAuto
import Derived.BigQuiet
import Derived.Deep.QuietTactic
import Derived.Great.BuildSlice
import Derived.Laws.MakeOwn
import Derived.Outline
import Derived.WalkSpells
import Derived.Laws.NewBlocks
import Derived.Test.YtcdmgdegohcmhaaDoorFSOG2
import Derived.Test.YtcdmgdegohcmhaaDoorFSOG4
import Derived.Test.YtcdmgdegohcmhaaDoorFSOG3
import Derived.Laws.AppendOwn
import Derived.Lib.ConvBytes
import Derived.Laws.BitsAllLaws
import Derived.Laws.BitsLemmas
namespace Go.Proofs.YtcdmgdegohcmhaaDoor.PA
open Go.RowKit Go.Proofs.YtcdmgdegohcmhaaDoorW.PrintWords Go.Proofs.YtcdmgdegohcmhaaDoorW.PrintLast Go.Proofs.YtcdmgdegohcmhaaDoorW.PrintMore
attribute [local go_sem] max2_int min2_int max_two min_two max_three min_three max_four min_four
set_option linter.unusedVariables false
set_option linter.unusedSimpArgs false
open Go Go.Shelf Go.Lib Go.Sort
theorem one35 (x : S35) : ∀ v ∈ ([.string x.f0, .int .i64 x.f1, .int .i64 x.f2, .int .i64 x.f3.f0, .int .i64 x.f3.f1, .int .i64 x.f3.f2, .int .i64 x.f3.f3, .int .i64 x.f3.f4, .string x.f4, .string x.f5, .int .i64 x.f6] : List Value), v.oneCell' = true := by
 intro v hv
 simp only [List.mem_cons, List.not_mem_nil, or_false] at hv
 rcases hv with rfl | rfl | rfl | rfl | rfl | rfl | rfl | rfl | rfl | rfl | rfl <;> rfl
theorem loadAt35 {g o : Nat} {x : S35} {W : World} (h : ∀ j u, ([.string x.f0, .int .i64 x.f1, .int .i64 x.f2, .int .i64 x.f3.f0, .int .i64 x.f3.f1, .int .i64 x.f3.f2, .int .i64 x.f3.f3, .int .i64 x.f3.f4, .string x.f4, .string x.f5, .int .i64 x.f6] : List Value)[j]? = some u → W.cell? ⟨g, o + j, none⟩ = some u) : (Instr.loadAt 35 (.pointer (some ⟨g, o, none⟩))).run Tryd.prog W = .ok (.agg #[.string x.f0, .int .i64 x.f1, .int .i64 x.f2, .int .i64 x.f3.f0, .int .i64 x.f3.f1, .int .i64 x.f3.f2, .int .i64 x.f3.f3, .int .i64 x.f3.f4, .string x.f4, .string x.f5, .int .i64 x.f6]) W := by
 have h0 : W.cell? ⟨g, o, none⟩ = some (.string x.f0) := h 0 _ rfl
 have h1 := h 1 _ rfl
 have h2 := h 2 _ rfl
 have h3 := h 3 _ rfl
 have h4 := h 4 _ rfl
 have h5 := h 5 _ rfl
 have h6 := h 6 _ rfl
 have h7 := h 7 _ rfl
 have h8 := h 8 _ rfl
 have h9 := h 9 _ rfl
 have h10 := h 10 _ rfl
 go_simp
theorem storeAt35 {g o : Nat} {cs : List Value} {W W1 : World} (hl : cs.length = 11) (h : Sem.run Tryd.prog (Go.storeCells ⟨g, o, none⟩ cs 0) W = .ok () W1) : (Instr.storeAt 35 (.pointer (some ⟨g, o, none⟩)) (.agg cs.toArray)).run Tryd.prog W = .ok () W1 := by
 go_simp
theorem load_next {P : Program} {ρ : Operand → Value} {o : Oper} {ty : TypeId} {x : Operand} {p v : Value} {w : World} (ho : o.op = .load ty x) (hx : ρ x = p) (h : (Instr.loadAt ty p).run P w = .ok v w) : (execOp ρ o).run P w = .ok (.value v) w := by
 unfold execOp
 rw [ho]
 simp only [hx, Sem.run_bind, h, Result.andThen]
 rfl
theorem store_next {P : Program} {ρ : Operand → Value} {o : Oper} {ty : TypeId} {x y : Operand} {p v : Value} {w w1 : World} (ho : o.op = .store ty x y) (hx : ρ x = p) (hy : ρ y = v) (h : (Instr.storeAt ty p v).run P w = .ok () w1) : (execOp ρ o).run P w = .ok .skip w1 := by
 unfold execOp
 rw [ho]
 simp only [hx, hy, Sem.run_bind, h, Result.andThen]
 rfl
theorem stores35 {P : Program} {W : World} {g o : Nat} {cs vs : List Value} (hv : vs.length = 11) (hl : cs.length = 11) (h : ∀ j u, cs[j]? = some u → W.cell? ⟨g, o + j, none⟩ = some u) (hf : ∀ j, W.frozen? ⟨g, o + j, none⟩ = false) (h1 : ∀ v ∈ vs, v.oneCell' = true) :
  Sem.run P (Go.storeCells ⟨g, o, none⟩ vs 0) W = .ok () (W.setCells g o vs) := by
 have := run_storeCells_cells (P := P) g o vs 0 W (fun j hj => by
  have e := h j (cs[j]'(by omega)) (List.getElem?_eq_getElem (by omega))
  rw [Nat.add_zero, e]
  rfl) (fun j hj => by rw [Nat.add_zero]; exact hf j) h1
 rwa [Nat.add_zero] at this
theorem below_sets {w : World} {g : Nat} (hg : w.heap.size ≤ g) : ∀ (vs : List Value) (o : Nat) (W : World), Below w.heap.size w W → Below w.heap.size w (W.setCells g o vs)
 | [], _, _, h => h
 | v :: vs, o, W, h => below_sets hg vs (o + 1) _ (below_set h hg)
theorem swap35 {W : World} {base cap : Nat} {A : Option Addr} {l : List S35} (h : Kd.R k35 35 W base (fun _ => True) (.slice A l.length cap) l) (i j : Int) (hi0 : 0 ≤ i) (hi1 : i < (l.length : Int)) (hj0 : 0 ≤ j) (hj1 : j < (l.length : Int)) :
  ∃ (g : Nat) (cA cB : List Value), A = some ⟨g, 0, none⟩ ∧ base ≤ g ∧ cA.length = 11 ∧ cB.length = 11 ∧
   (Instr.loadAt 35 (.pointer (some ⟨g, i.toNat * 11, none⟩))).run Tryd.prog W = .ok (.agg cA.toArray) W ∧
   (Instr.loadAt 35 (.pointer (some ⟨g, j.toNat * 11, none⟩))).run Tryd.prog W = .ok (.agg cB.toArray) W ∧
   (Instr.storeAt 35 (.pointer (some ⟨g, i.toNat * 11, none⟩)) (.agg cB.toArray)).run Tryd.prog W = .ok () (W.setCells g (i.toNat * 11) cB) ∧
   (Instr.storeAt 35 (.pointer (some ⟨g, j.toNat * 11, none⟩)) (.agg cA.toArray)).run Tryd.prog (W.setCells g (i.toNat * 11) cB) = .ok () ((W.setCells g (i.toNat * 11) cB).setCells g (j.toNat * 11) cA) ∧
   Kd.R k35 35 ((W.setCells g (i.toNat * 11) cB).setCells g (j.toNat * 11) cA) base (fun _ => True) (.slice (some ⟨g, 0, none⟩) l.length cap) ((l.set i.toNat (rd_T35 l j)).set j.toNat (rd_T35 l i)) := by
 obtain ⟨g, co, eo, gb, _, _, _⟩ := Kd.R_form h (by omega)
 injection eo with e1 e2 e3
 subst e1
 subst e3
 obtain ⟨ca, hla, hMa, hca, hfa⟩ := Kd.R_elem h z35 i hi0 hi1
 obtain ⟨cb, hlb, hMb, hcb, hfb⟩ := Kd.R_elem h z35 j hj0 hj1
 have ea := k35_openM hMa
 have eb := k35_openM hMb
 have oa : ∀ v ∈ ca, v.oneCell' = true := by rw [ea]; exact one35 _
 have ob : ∀ v ∈ cb, v.oneCell' = true := by rw [eb]; exact one35 _
 have hla' : ca.length = 11 := hla
 have hlb' : cb.length = 11 := hlb
 have t1 := (Kd.R_seg h i hi0 hi1 (seg := cb) (j := 0) hla hca (show 0 + cb.length ≤ 11 by omega) (x' := rd_T35 l j) (by
  rw [List.take_zero, List.nil_append, List.drop_eq_nil_of_le (by omega), List.append_nil, eb]
  exact k35_mkM _ _ _ _) (okp := fun _ => False) (fun _ hk => hk.elim)).1
 obtain ⟨cc, hlc, hMc, hcc, hfc⟩ := Kd.R_elem t1 z35 j hj0 hj1
 have t2 := (Kd.R_seg t1 j hj0 hj1 (seg := ca) (j := 0) hlc hcc (show 0 + ca.length ≤ 11 by omega) (x' := rd_T35 l i) (by
  rw [List.take_zero, List.nil_append, List.drop_eq_nil_of_le (by omega), List.append_nil, ea]
  exact k35_mkM _ _ _ _) (okp := fun _ => False) (fun _ hk => hk.elim)).1
 exact ⟨g, ca, cb, rfl, gb, hla', hlb', by rw [ea]; exact loadAt35 (by rw [← ea]; exact hca), by rw [eb]; exact loadAt35 (by rw [← eb]; exact hcb), storeAt35 hlb' (stores35 hlb' hla' hca hfa ob), storeAt35 hla' (stores35 hla' hlc hcc hfc oa), t2⟩
end Go.Proofs.YtcdmgdegohcmhaaDoor.PA
namespace Go.Proofs.YtcdmgdegohcmhaaDoor.PA
open Go.RowKit Go.Proofs.YtcdmgdegohcmhaaDoorW.PrintWords Go.Proofs.YtcdmgdegohcmhaaDoorW.PrintLast Go.Proofs.YtcdmgdegohcmhaaDoorW.PrintMore
attribute [local go_sem] max2_int min2_int max_two min_two max_three min_three max_four min_four
set_option linter.unusedVariables false
set_option linter.unusedSimpArgs false
open Go.Sort
section
variable {α : Type} (lt : α → α → Bool)
def eqvB (c y : α) : Bool := !lt c y && !lt y c
def SortedL (l : List α) : Prop := l.Pairwise (fun x y => lt y x = false)
def StP (l r : List α) : Prop := r.Perm l ∧ ∀ c, r.filter (eqvB lt c) = l.filter (eqvB lt c)
variable {lt}
theorem StP.refl (l : List α) : StP lt l l := ⟨List.Perm.refl _, fun _ => rfl⟩
theorem StP.trans {a b d : List α} (h : StP lt a b) (h2 : StP lt b d) : StP lt a d := ⟨h2.1.trans h.1, fun c => (h2.2 c).trans (h.2 c)⟩
theorem StP.app {a b a' b' : List α} (h : StP lt a a') (h2 : StP lt b b') : StP lt (a ++ b) (a' ++ b') := ⟨h.1.append h2.1, fun c => by rw [List.filter_append, List.filter_append, h.2 c, h2.2 c]⟩
theorem StP.len {a b : List α} (h : StP lt a b) : b.length = a.length := h.1.length_eq
theorem StP.swap (X Y : List α) (hS : SWO lt) (h : ∀ x ∈ X, ∀ y ∈ Y, lt y x = true) : StP lt (X ++ Y) (Y ++ X) := by
 refine ⟨List.perm_append_comm, fun c => ?_⟩
 rw [List.filter_append, List.filter_append]
 by_cases hX : X.filter (eqvB lt c) = []
 ·rw [hX, List.append_nil, List.nil_append]
 ·by_cases hY : Y.filter (eqvB lt c) = []
  ·rw [hY, List.append_nil, List.nil_append]
  ·exfalso
   obtain ⟨x, hx⟩ := List.exists_mem_of_ne_nil _ hX
   obtain ⟨y, hy⟩ := List.exists_mem_of_ne_nil _ hY
   rw [List.mem_filter] at hx hy
   have hxy := h x hx.1 y hy.1
   unfold eqvB at hx hy
   simp only [Bool.and_eq_true, Bool.not_eq_true'] at hx hy
   have := hS.ntrans y c x hy.2.2 hx.2.1
   rw [this] at hxy
   exact absurd hxy (by decide)
theorem up1 (hS : SWO lt) {Y : List α} (hY : SortedL lt Y) (x : α) (h : Nat) (hh : h < Y.length) (hl : lt Y[h] x = true) : ∀ y ∈ Y.take (h + 1), lt y x = true := by
 intro y hy
 obtain ⟨t, ht, rfl⟩ := List.getElem_of_mem hy
 rw [List.length_take] at ht
 rw [List.getElem_take]
 by_cases e : t = h
 ·subst e
  exact hl
 ·have hp := List.pairwise_iff_getElem.1 hY t h (by omega) hh (by omega)
  apply Classical.byContradiction
  intro hn
  have := hS.ntrans Y[h] (Y[t]'(by omega)) x hp (by simpa using hn)
  rw [this] at hl
  exact absurd hl (by decide)
theorem down1 (hS : SWO lt) {Y : List α} (hY : SortedL lt Y) (x : α) (h : Nat) (hh : h < Y.length) (hl : lt Y[h] x = false) : ∀ y ∈ Y.drop h, lt y x = false := by
 intro y hy
 obtain ⟨t, ht, rfl⟩ := List.getElem_of_mem hy
 rw [List.length_drop] at ht
 rw [List.getElem_drop]
 by_cases e : t = 0
 ·subst e
  exact hl
 ·have hp := List.pairwise_iff_getElem.1 hY h (h + t) hh (by omega) (by omega)
  exact hS.ntrans _ _ _ hp hl
theorem up2 (hS : SWO lt) {X : List α} (hX : SortedL lt X) (y : α) (h : Nat) (hh : h < X.length) (hl : lt y X[h] = false) : ∀ x ∈ X.take (h + 1), lt y x = false := by
 intro x hx
 obtain ⟨t, ht, rfl⟩ := List.getElem_of_mem hx
 rw [List.length_take] at ht
 rw [List.getElem_take]
 by_cases e : t = h
 ·subst e
  exact hl
 ·have hp := List.pairwise_iff_getElem.1 hX t h (by omega) hh (by omega)
  exact hS.ntrans _ _ _ hl hp
theorem down2 (hS : SWO lt) {X : List α} (hX : SortedL lt X) (y : α) (h : Nat) (hh : h < X.length) (hl : lt y X[h] = true) : ∀ x ∈ X.drop h, lt y x = true := by
 intro x hx
 obtain ⟨t, ht, rfl⟩ := List.getElem_of_mem hx
 rw [List.length_drop] at ht
 rw [List.getElem_drop]
 by_cases e : t = 0
 ·subst e
  exact hl
 ·have hp := List.pairwise_iff_getElem.1 hX h (h + t) hh (by omega) (by omega)
  apply Classical.byContradiction
  intro hn
  have := hS.ntrans y (X[h + t]'(by omega)) X[h] (by simpa using hn) hp
  rw [this] at hl
  exact absurd hl (by decide)
theorem sorted_app {l r : List α} : SortedL lt (l ++ r) ↔ SortedL lt l ∧ SortedL lt r ∧ ∀ x ∈ l, ∀ y ∈ r, lt y x = false := List.pairwise_append
theorem anti (hS : SWO lt) {x y : α} (h : lt y x = true) : lt x y = false := by
 apply Classical.byContradiction
 intro hn
 have := hS.trans x y x (by simpa using hn) h
 rw [hS.irrefl] at this
 exact absurd this (by decide)
theorem fin1 (hS : SWO lt) {Y : List α} (hY : SortedL lt Y) (x : α) (i : Nat) (h1 : ∀ y ∈ Y.take i, lt y x = true) (h2 : ∀ y ∈ Y.drop i, lt y x = false) : StP lt ([x] ++ Y) (Y.take i ++ x :: Y.drop i) ∧ SortedL lt (Y.take i ++ x :: Y.drop i) := by
 have hd : Y = Y.take i ++ Y.drop i := (List.take_append_drop i Y).symm
 have hs : SortedL lt (Y.take i ++ Y.drop i) := by rw [← hd]; exact hY
 rw [sorted_app] at hs
 constructor
 ·have := StP.app (StP.swap [x] (Y.take i) hS (fun a ha y hy => by rw [List.mem_singleton.1 ha]; exact h1 y hy)) (StP.refl (lt := lt) (Y.drop i))
  rw [List.append_assoc, List.append_assoc, ← hd] at this
  exact this
 ·rw [show Y.take i ++ x :: Y.drop i = Y.take i ++ ([x] ++ Y.drop i) by simp, sorted_app, sorted_app]
  refine ⟨hs.1, ⟨List.pairwise_singleton _ _, hs.2.1, fun a ha y hy => by rw [List.mem_singleton.1 ha]; exact h2 y hy⟩, fun a ha y hy => ?_⟩
  rcases List.mem_append.1 hy with h | h
  ·rw [List.mem_singleton.1 h]
   exact anti hS (h1 a ha)
  ·exact hs.2.2 a ha y h
theorem fin2 (hS : SWO lt) {X : List α} (hX : SortedL lt X) (y : α) (i : Nat) (h1 : ∀ x ∈ X.take i, lt y x = false) (h2 : ∀ x ∈ X.drop i, lt y x = true) : StP lt (X ++ [y]) (X.take i ++ y :: X.drop i) ∧ SortedL lt (X.take i ++ y :: X.drop i) := by
 have hd : X = X.take i ++ X.drop i := (List.take_append_drop i X).symm
 have hs : SortedL lt (X.take i ++ X.drop i) := by rw [← hd]; exact hX
 rw [sorted_app] at hs
 constructor
 ·have := StP.app (StP.refl (lt := lt) (X.take i)) (StP.swap (X.drop i) [y] hS (fun x hx a ha => by rw [List.mem_singleton.1 ha]; exact h2 x hx))
  rw [← List.append_assoc, ← hd] at this
  exact this
 ·rw [show X.take i ++ y :: X.drop i = X.take i ++ ([y] ++ X.drop i) by simp, sorted_app, sorted_app]
  refine ⟨hs.1, ⟨List.pairwise_singleton _ _, hs.2.1, fun a ha x hx => by rw [List.mem_singleton.1 ha]; exact anti hS (h2 x hx)⟩, fun a ha b hb => ?_⟩
  rcases List.mem_append.1 hb with h | h
  ·rw [List.mem_singleton.1 h]
   exact h1 a ha
  ·exact hs.2.2 a ha b h
theorem cut3 (hS : SWO lt) {X Y : List α} (hX : SortedL lt X) (hY : SortedL lt Y) (s t : Nat) (hs : s ≤ X.length) (ht : t ≤ Y.length)
  (f1 : s = 0 ∨ t = Y.length ∨ ∃ (h1 : s - 1 < X.length) (h2 : t < Y.length), lt Y[t] X[s - 1] = false) (f2 : s = X.length ∨ t = 0 ∨ ∃ (h1 : s < X.length) (h2 : t - 1 < Y.length), lt Y[t - 1] X[s] = true) :
  (∀ x ∈ X.drop s, ∀ y ∈ Y.take t, lt y x = true) ∧ (∀ x ∈ X.take s, ∀ y ∈ Y.drop t, lt y x = false) := by
 constructor
 ·intro x hx y hy
  rcases f2 with h | h | ⟨h1, h2, h3⟩
  ·rw [h, List.drop_length] at hx
   exact absurd hx (by simp)
  ·rw [h, List.take_zero] at hy
   exact absurd hy (by simp)
  ·by_cases t0 : t = 0
   ·rw [t0, List.take_zero] at hy
    exact absurd hy (by simp)
   ·have hy2 := up1 hS hY X[s] (t - 1) h2 h3 y (by rwa [show t - 1 + 1 = t by omega])
    exact down2 hS hX y s h1 hy2 x hx
 ·intro x hx y hy
  rcases f1 with h | h | ⟨h1, h2, h3⟩
  ·rw [h, List.take_zero] at hx
   exact absurd hx (by simp)
  ·rw [h, List.drop_length] at hy
   exact absurd hy (by simp)
  ·by_cases s0 : s = 0
   ·rw [s0, List.take_zero] at hx
    exact absurd hx (by simp)
   ·have hy2 := down1 hS hY X[s - 1] t h2 h3 y hy
    exact up2 hS hX y (s - 1) h1 hy2 x (by rwa [show s - 1 + 1 = s by omega])
theorem part3 (hS : SWO lt) {X Y Z1 Z2 : List α} (hX : SortedL lt X) (hY : SortedL lt Y) (s t : Nat) (hc : (∀ x ∈ X.drop s, ∀ y ∈ Y.take t, lt y x = true) ∧ (∀ x ∈ X.take s, ∀ y ∈ Y.drop t, lt y x = false))
  (z1 : StP lt (X.take s ++ Y.take t) Z1 ∧ SortedL lt Z1) (z2 : StP lt (X.drop s ++ Y.drop t) Z2 ∧ SortedL lt Z2) : StP lt (X ++ Y) (Z1 ++ Z2) ∧ SortedL lt (Z1 ++ Z2) := by
 have hXd : X = X.take s ++ X.drop s := (List.take_append_drop s X).symm
 have hYd : Y = Y.take t ++ Y.drop t := (List.take_append_drop t Y).symm
 have sX : SortedL lt (X.take s ++ X.drop s) := by rw [← hXd]; exact hX
 have sY : SortedL lt (Y.take t ++ Y.drop t) := by rw [← hYd]; exact hY
 rw [sorted_app] at sX sY
 constructor
 ·have h1 := StP.app (StP.app (StP.refl (lt := lt) (X.take s)) (StP.swap (X.drop s) (Y.take t) hS hc.1)) (StP.refl (lt := lt) (Y.drop t))
  have e1 : X.take s ++ (X.drop s ++ Y.take t) ++ Y.drop t = X ++ Y := by
   conv => rhs; rw [hXd, hYd]
   simp only [List.append_assoc]
  have e2 : X.take s ++ (Y.take t ++ X.drop s) ++ Y.drop t = (X.take s ++ Y.take t) ++ (X.drop s ++ Y.drop t) := by simp only [List.append_assoc]
  rw [e1, e2] at h1
  exact h1.trans (StP.app z1.1 z2.1)
 ·rw [sorted_app]
  refine ⟨z1.2, z2.2, fun x hx y hy => ?_⟩
  have hx' := (z1.1.1.mem_iff).1 hx
  have hy' := (z2.1.1.mem_iff).1 hy
  rcases List.mem_append.1 hx' with h | h
  ·rcases List.mem_append.1 hy' with g | g
   ·exact sX.2.2 x h y g
   ·exact hc.2 x h y g
  ·rcases List.mem_append.1 hy' with g | g
   ·exact anti hS (hc.1 y g x h)
   ·exact sY.2.2 x h y g
theorem stp_unique (hS : SWO lt) : ∀ (r1 r2 : List α), SortedL lt r1 → SortedL lt r2 → StP lt r1 r2 → r1 = r2
 | [], r2, _, _, h => by
  have := h.len
  exact (List.length_eq_zero_iff.1 this).symm
 | a :: r1, [], _, _, h => by
  have := h.len
  exact absurd this (by simp)
 | a :: r1, b :: r2, h1, h2, h => by
  have s1 := List.pairwise_cons.1 h1
  have s2 := List.pairwise_cons.1 h2
  have le1 : ∀ z ∈ a :: r1, lt z a = false := fun z hz => by
   rcases List.mem_cons.1 hz with e | e
   ·rw [e]; exact hS.irrefl a
   ·exact s1.1 z e
  have le2 : ∀ z ∈ b :: r2, lt z b = false := fun z hz => by
   rcases List.mem_cons.1 hz with e | e
   ·rw [e]; exact hS.irrefl b
   ·exact s2.1 z e
  have hab : lt b a = false := le1 b ((h.1.mem_iff).1 (by simp))
  have hba : lt a b = false := le2 a ((h.1.mem_iff).2 (by simp))
  have ea : eqvB lt a a = true := by unfold eqvB; rw [hS.irrefl]; rfl
  have eb : eqvB lt a b = true := by unfold eqvB; rw [hab, hba]; rfl
  have hf := h.2 a
  rw [List.filter_cons, List.filter_cons, if_pos ea, if_pos eb, List.cons.injEq] at hf
  obtain ⟨rfl, hf⟩ := hf
  have hrest : StP lt r1 r2 := by
   refine ⟨List.perm_cons b |>.1 h.1, fun c => ?_⟩
   have hc := h.2 c
   rw [List.filter_cons, List.filter_cons] at hc
   by_cases e : eqvB lt c b = true
   ·rw [if_pos e, if_pos e] at hc
    exact (List.cons.inj hc).2
   ·rw [if_neg e, if_neg e] at hc
    exact hc
  rw [stp_unique hS r1 r2 s1.2 s2.2 hrest]
end
end Go.Proofs.YtcdmgdegohcmhaaDoor.PA
namespace Go.Proofs.YtcdmgdegohcmhaaDoor.PA
open Go.RowKit Go.Proofs.YtcdmgdegohcmhaaDoorW.PrintWords Go.Proofs.YtcdmgdegohcmhaaDoorW.PrintLast Go.Proofs.YtcdmgdegohcmhaaDoorW.PrintMore
attribute [local go_sem] max2_int min2_int max_two min_two max_three min_three max_four min_four
set_option linter.unusedVariables false
set_option linter.unusedSimpArgs false
open Go Go.Shelf Go.Lib Go.Sort
theorem swp_list {α : Type} [Inhabited α] (d : Array α) (P R Q : List α) (x y : α) (h : d.toList = P ++ x :: (R ++ y :: Q)) : (swp d P.length (P.length + 1 + R.length)).toList = P ++ y :: (R ++ x :: Q) := by
 obtain ⟨l⟩ := d
 subst h
 have ex : ((P ++ x :: (R ++ y :: Q)).toArray)[P.length]! = x := by simp
 have ey : ((P ++ x :: (R ++ y :: Q)).toArray)[P.length + 1 + R.length]! = y := by
  have h2 : P ++ x :: (R ++ y :: Q) = (P ++ x :: R) ++ y :: Q := by simp
  rw [h2]
  have h3 : P.length + 1 + R.length = (P ++ x :: R).length := by simp; omega
  rw [h3]
  simp
 show ((((P ++ x :: (R ++ y :: Q)).toArray).setIfInBounds P.length _).setIfInBounds (P.length + 1 + R.length) _).toList = _
 rw [ex, ey, List.setIfInBounds_toArray, List.setIfInBounds_toArray]
 show ((P ++ x :: (R ++ y :: Q)).set P.length y).set (P.length + 1 + R.length) x = _
 rw [List.set_append_right _ _ (Nat.le_refl _), Nat.sub_self, List.set_cons_zero, List.set_append_right _ _ (by omega), show P.length + 1 + R.length - P.length = R.length + 1 by omega, List.set_cons_succ, List.set_append_right _ _ (Nat.le_refl _), Nat.sub_self, List.set_cons_zero]
theorem swapsA_list {α : Type} [Inhabited α] (d : Array α) (P U M V Q : List α) (hl : U.length = V.length) (h : d.toList = P ++ U ++ M ++ V ++ Q) : ∀ i, i ≤ U.length → (swapsA d P.length (P.length + U.length + M.length) i).toList = P ++ V.take i ++ U.drop i ++ M ++ U.take i ++ V.drop i ++ Q := by
 intro i
 induction i with
 | zero =>
  intro _
  show d.toList = _
  rw [h]
  simp
 | succ i ih =>
  intro hi
  have hu : i < U.length := by omega
  have hv : i < V.length := by omega
  have h0 := ih (by omega)
  rw [List.drop_eq_getElem_cons hu, List.drop_eq_getElem_cons hv] at h0
  have h1 : (swapsA d P.length (P.length + U.length + M.length) i).toList = (P ++ V.take i) ++ U[i] :: ((U.drop (i + 1) ++ M ++ U.take i) ++ V[i] :: (V.drop (i + 1) ++ Q)) := by
   rw [h0]
   simp only [List.append_assoc, List.cons_append]
  have h2 := swp_list _ _ _ _ _ _ h1
  have e1 : (P ++ V.take i).length = P.length + i := by rw [List.length_append, List.length_take]; omega
  have e2 : P.length + i + 1 + (U.drop (i + 1) ++ M ++ U.take i).length = P.length + U.length + M.length + i := by
   rw [List.length_append, List.length_append, List.length_drop, List.length_take]
   omega
  rw [e1, e2] at h2
  rw [swapsA, h2, List.take_succ_eq_append_getElem hu, List.take_succ_eq_append_getElem hv]
  simp only [List.append_assoc, List.cons_append, List.nil_append]
theorem swapsA_full {α : Type} [Inhabited α] (d : Array α) (P U M V Q : List α) (hl : U.length = V.length) (h : d.toList = P ++ U ++ M ++ V ++ Q) : (swapsA d P.length (P.length + U.length + M.length) U.length).toList = P ++ V ++ M ++ U ++ Q := by
 rw [swapsA_list d P U M V Q hl h U.length (Nat.le_refl _), List.take_length, List.drop_length, hl, List.take_length, List.drop_length]
 simp
set_option maxHeartbeats 4000000 in
set_option maxRecDepth 1000000 in
theorem rotate_call {P : Program} (L : LS P) {α : Type} [Inhabited α] (enc : α → List Value) (k : Nat) (aE : ∀ w, (isAgg 35).run P w = .ok true w) (zE : ∀ w, (Go.sizeOf 35).run P w = .ok k w) (hk : ∀ x, (enc x).length = k) (h1 : ∀ x, ∀ v ∈ enc x, v.oneCell' = true)
  (fv : Value) (blk off cap : Nat) (A X Y B : List α) (d : Array α) (w : World) (hH : HoldsK enc k w blk off d) (hblk : blk < w.heap.size) (hd : d.toList = A ++ X ++ Y ++ B) (hX : X ≠ []) (hY : Y ≠ []) (a m b : Nat) (ha : a = A.length) (hm : m = A.length + X.length) (hb : b = A.length + X.length + Y.length) (hsz : d.size < 1000000000000) :
  Calls P 107 #[.slice (some ⟨blk, off, none⟩) d.size cap, .int .i64 a, .int .i64 m, .int .i64 b, fv] w fun e w' =>
   e = .returned (.tuple #[]) ∧ ∃ q os dk, dk.toList = A ++ Y ++ X ++ B ∧ dk.size = d.size ∧ w' = sWB enc k w blk off q dk os := by
 have mixed := L.mixed
 have t3 := L.t3; have a3 := L.a3; have z3 := L.z3; have v3 := L.v3; have t4 := L.t4; have a4 := L.a4; have z4 := L.z4; have v4 := L.v4; have t79 := L.t79; have a79 := L.a79; have z79 := L.z79; have v79 := L.v79; have t22 := L.t22; have a22 := L.a22; have z22 := L.z22; have v22 := L.v22
 have F := L.f107
 have esw := L.e109
 have hsl : d.size = A.length + X.length + Y.length + B.length := by
  rw [← Array.length_toList, hd]
  simp
  omega
 have HD := Aside0.mk hd
 have HST : Hid (w = sWB enc k w blk off w.drawn d #[]) := (sWB_start enc k w blk off d hH).symm
 have HH : Hid (HoldsK enc k w blk off d) := hH
 have HXl : 0 < X.length := List.length_pos_iff.2 hX
 have HYl : 0 < Y.length := List.length_pos_iff.2 hY
 have hsr : ∀ (W : World) (dk : Array α) (a' b' n' : Nat), HoldsK enc k W blk off dk → blk < W.heap.size → dk.size = d.size → a' + n' ≤ d.size → b' + n' ≤ d.size → Calls P 109 #[.slice (some ⟨blk, off, none⟩) d.size cap, .int .i64 a', .int .i64 b', .int .i64 n', fv] W fun e w' => e = .returned (.tuple #[]) ∧ ∃ q os, w' = sWB enc k W blk off q (swapsA dk a' b' n') os := fun W dk a' b' n' x1 x2 x3 x4 x5 => by
  have := swapRange_call L enc k aE zE hk h1 fv blk off cap a' b' n' dk W x1 x2 (by omega) (by omega) (by omega)
  rwa [x3] at this
 have HSR := Aside0.mk hsr
 have HM := Aside0.mk (And.intro ha (And.intro hm hb))
 have hma : a ≤ m := by omega
 have hmb : m ≤ b := by omega
 have hbd : b ≤ d.size := by omega
 have HXa : a + X.length = m := by omega
 have HYa : m + Y.length = b := by omega
 have HXY := Aside0.mk (And.intro HXa HYa)
 clear hsr hH hd hX hY ha hm hb HXa HYa hsl
 go_enter F, Tryd.ntmps107
 go_wp2
 go_loopg [10, 11] (X.length + Y.length) (fun g vi vj wr => ∃ (i j q : Nat) (os : Array Obj) (dk : Array α) (Pp U V Q : List α), vi = .int .i64 i ∧ vj = .int .i64 j ∧ 0 < i ∧ 0 < j ∧ i + j ≤ g ∧ Pp.length + i = m ∧ m + j ≤ d.size ∧ dk.size = d.size ∧ wr = sWB enc k w blk off q dk os ∧ Hid (dk.toList = Pp ++ U ++ V ++ Q ∧ U.length = i ∧ V.length = j ∧ Pp ++ V ++ U ++ Q = A ++ Y ++ X ++ B))
 case atStart =>
  have h1 := HXY.out.1
  have h2 := HXY.out.2
  have h3 := HM.out.1
  exact ⟨X.length, Y.length, _, #[], d, A, X, Y, B, by congr 1; omega, by congr 1; omega, HXl, HYl, Nat.le_refl _, by omega, by omega, rfl, HST.out, ⟨HD.out, rfl, rfl, rfl⟩⟩
 case round =>
  obtain ⟨i, j, q, os, dk, Pp, U, V, Q, rfl, rfl, hi0, hj0, hg, hPi, hmj, hsk, rfl, HI⟩ := hrel
  have HHk : Hid (HoldsK enc k (sWB enc k w blk off q dk os) blk off dk) := sWB_holds enc k w blk off q d dk os HH.out hblk hsk
  have HBk : Hid (blk < (sWB enc k w blk off q dk os).heap.size) := Nat.lt_of_lt_of_le hblk (sWB_size enc k w blk off q dk os)
  have HON : Hid (∀ q' dk' os', dk'.size = dk.size → sWB enc k (sWB enc k w blk off q dk os) blk off q' dk' os' = sWB enc k w blk off q' dk' (os ++ os')) := fun q' dk' os' h => sWB_on enc k w blk off q q' dk dk' os os' hblk h
  generalize hwq : sWB enc k w blk off q dk os = wq at HHk HBk HON ⊢
  clear hwq
  have hmi : (m : Int) - (i : Int) = ((Pp.length : Nat) : Int) := by omega
  by_cases hne : i = j
  ·have heq : ((i : Int) != (j : Int)) = false := by rw [hne]; simp
   have hc : Calls P 109 #[.slice (some ⟨blk, off, none⟩) d.size cap, .int .i64 ((Pp.length : Nat) : Int), .int .i64 m, .int .i64 i, fv] wq fun e w' => e = .returned (.tuple #[]) ∧ ∃ q os, w' = sWB enc k wq blk off q (swapsA dk Pp.length m i) os := by
    exact HSR.out wq dk Pp.length m i HHk.out HBk.out hsk (by omega) (by omega)
   have HFIN : Hid ((swapsA dk Pp.length m i).toList = A ++ Y ++ X ++ B) := by
    show _ = _
    obtain ⟨u1, u2, u3, u4⟩ := HI.out
    have := swapsA_full dk Pp U [] V Q (by omega) (by rw [u1]; simp)
    rw [u2, List.length_nil, Nat.add_zero, hPi] at this
    rw [this, ← u4]
    simp
   have HNE := Aside0.mk hne
   clear hne
   go_wp2_with (go_at_call 109; refine hc.mono ?_; rintro e w1 ⟨rfl, q1, os1, rfl⟩)
   go_end0
   exact ⟨rfl, q1, os ++ os1, _, HFIN.out, by rw [size_swapsA]; exact hsk, HON.out _ _ _ (size_swapsA _ _ _ _)⟩
  ·have heq : ((i : Int) != (j : Int)) = true := by rw [bne_iff_ne]; omega
   by_cases hgt : j < i
   ·have hgz : decide ((i : Int) > (j : Int)) = true := decide_eq_true (by omega)
    have hgz2 : (j : Int) < (i : Int) := by omega
    have hc : Calls P 109 #[.slice (some ⟨blk, off, none⟩) d.size cap, .int .i64 ((Pp.length : Nat) : Int), .int .i64 m, .int .i64 j, fv] wq fun e w' => e = .returned (.tuple #[]) ∧ ∃ q os, w' = sWB enc k wq blk off q (swapsA dk Pp.length m j) os := by
     exact HSR.out wq dk Pp.length m j HHk.out HBk.out hsk (by omega) (by omega)
    have HFIN : Hid (∃ Pp' U' V' Q' : List α, Pp'.length + (i - j) = m ∧ (swapsA dk Pp.length m j).toList = Pp' ++ U' ++ V' ++ Q' ∧ U'.length = i - j ∧ V'.length = j ∧ Pp' ++ V' ++ U' ++ Q' = A ++ Y ++ X ++ B) := by
     obtain ⟨u1, u2, u3, u4⟩ := HI.out
     have e1 : (U.take j).length = j := by rw [List.length_take]; omega
     have e2 : (U.drop j).length = i - j := by rw [List.length_drop, u2]
     have hU : U = U.take j ++ U.drop j := (List.take_append_drop j U).symm
     have := swapsA_full dk Pp (U.take j) (U.drop j) V Q (by omega) (by rw [u1]; (conv => lhs; rw [hU]); simp only [List.append_assoc])
     rw [e1, e2, show Pp.length + j + (i - j) = m by omega] at this
     refine ⟨Pp ++ V, U.drop j, U.take j, Q, by rw [List.length_append]; omega, this, e2, e1, ?_⟩
     rw [← u4]
     (conv => rhs; rw [hU])
     simp only [List.append_assoc]
    go_wp2_with (go_at_call 109; refine hc.mono ?_; rintro e w1 ⟨rfl, q1, os1, rfl⟩)
    go_roundg (i - j + j)
    case measure => omega
    case rel =>
     obtain ⟨Pp', U', V', Q', v1, v2, v3, v4, v5⟩ := HFIN.out
     exact ⟨i - j, j, q1, os ++ os1, _, Pp', U', V', Q', by first | go_num | (congr 1; omega), rfl, by omega, hj0, Nat.le_refl _, v1, by omega, by rw [size_swapsA]; exact hsk, HON.out _ _ _ (size_swapsA _ _ _ _), ⟨v2, v3, v4, v5⟩⟩
   ·have hgz : decide ((i : Int) > (j : Int)) = false := decide_eq_false (by omega)
    have hgz2 : ¬ (j : Int) < (i : Int) := by omega
    obtain ⟨z, hz⟩ : ∃ z, z = m + j - i := ⟨_, rfl⟩
    have hmji : (m : Int) + (j : Int) - (i : Int) = (z : Int) := by omega
    have hc : Calls P 109 #[.slice (some ⟨blk, off, none⟩) d.size cap, .int .i64 ((Pp.length : Nat) : Int), .int .i64 z, .int .i64 i, fv] wq fun e w' => e = .returned (.tuple #[]) ∧ ∃ q os, w' = sWB enc k wq blk off q (swapsA dk Pp.length z i) os := by
     exact HSR.out wq dk Pp.length z i HHk.out HBk.out hsk (by omega) (by omega)
    have HZ := Aside0.mk hz
    have HFIN : Hid (∃ U' V' Q' : List α, (swapsA dk Pp.length z i).toList = Pp ++ U' ++ V' ++ Q' ∧ U'.length = i ∧ V'.length = j - i ∧ Pp ++ V' ++ U' ++ Q' = A ++ Y ++ X ++ B) := by
     obtain ⟨u1, u2, u3, u4⟩ := HI.out
     have e1 : (V.take (j - i)).length = j - i := by rw [List.length_take]; omega
     have e2 : (V.drop (j - i)).length = i := by rw [List.length_drop, u3]; omega
     have hV : V = V.take (j - i) ++ V.drop (j - i) := (List.take_append_drop _ V).symm
     have := swapsA_full dk Pp U (V.take (j - i)) (V.drop (j - i)) Q (by omega) (by rw [u1]; (conv => lhs; rw [hV]); simp only [List.append_assoc])
     rw [u2, e1, show Pp.length + i + (j - i) = z by omega] at this
     refine ⟨V.drop (j - i), V.take (j - i), U ++ Q, by rw [this]; simp only [List.append_assoc], e2, e1, ?_⟩
     rw [← u4]
     (conv => rhs; rw [hV])
     simp only [List.append_assoc]
    clear hz
    go_wp2_with (go_at_call 109; refine hc.mono ?_; rintro e w1 ⟨rfl, q1, os1, rfl⟩)
    go_roundg (i + (j - i))
    case measure => omega
    case rel =>
     obtain ⟨U', V', Q', v2, v3, v4, v5⟩ := HFIN.out
     exact ⟨i, j - i, q1, os ++ os1, _, Pp, U', V', Q', rfl, by first | go_num | (congr 1; omega), hi0, by omega, Nat.le_refl _, hPi, by omega, by rw [size_swapsA]; exact hsk, HON.out _ _ _ (size_swapsA _ _ _ _), ⟨v2, v3, v4, v5⟩⟩
end Go.Proofs.YtcdmgdegohcmhaaDoor.PA
namespace Go.Proofs.YtcdmgdegohcmhaaDoor.PA
open Go.RowKit Go.Proofs.YtcdmgdegohcmhaaDoorW.PrintWords Go.Proofs.YtcdmgdegohcmhaaDoorW.PrintLast Go.Proofs.YtcdmgdegohcmhaaDoorW.PrintMore
attribute [local go_sem] max2_int min2_int max_two min_two max_three min_three max_four min_four
set_option linter.unusedVariables false
set_option linter.unusedSimpArgs false
open Go Go.Shelf Go.Lib Go.Sort
theorem swp_comm {α : Type} [Inhabited α] (d : Array α) (i j : Nat) (h : i ≠ j) : swp d i j = swp d j i := by
 unfold swp
 exact Array.setIfInBounds_comm _ _ h
set_option maxHeartbeats 4000000 in
set_option maxRecDepth 1000000 in
theorem sym2_call {P : Program} (L : LS P) {α : Type} [Inhabited α] (enc : α → List Value) (k : Nat) (aE : ∀ w, (isAgg 35).run P w = .ok true w) (zE : ∀ w, (Go.sizeOf 35).run P w = .ok k w) (hk : ∀ x, (enc x).length = k) (h1 : ∀ x, ∀ v ∈ enc x, v.oneCell' = true)
  (cf : α → α → Int) (hS : SWO (ltOf cf)) (g : Nat) (cb : Array Value) (eg : ∀ args w, (callFunc g args).run P w = .ok (.enter g args) w) (blk off cap : Nat) (A X : List α) (y : α) (B : List α) (d : Array α) (w : World) (hcmp : CmpB P g cb enc k cf blk off d.size w) (hH : HoldsK enc k w blk off d) (hblk : blk < w.heap.size) (hd : d.toList = A ++ (X ++ y :: B)) (hX : SortedL (ltOf cf) X) (hX1 : X.length ≠ 1) (a m b : Nat) (ha : a = A.length) (hm : m = A.length + X.length) (hb : b = A.length + X.length + 1) (hsz : d.size < 1000000000000) :
  Calls P 105 #[.slice (some ⟨blk, off, none⟩) d.size cap, .int .i64 a, .int .i64 m, .int .i64 b, .func (.func g) #[] cb] w fun e w' =>
   e = .returned (.tuple #[]) ∧ ∃ q os dk, (∃ Z, dk.toList = A ++ (Z ++ B) ∧ StP (ltOf cf) (X ++ [y]) Z ∧ SortedL (ltOf cf) Z) ∧ dk.size = d.size ∧ w' = sWB enc k w blk off q dk os := by
 have mixed := L.mixed
 have t3 := L.t3; have a3 := L.a3; have z3 := L.z3; have v3 := L.v3; have t4 := L.t4; have a4 := L.a4; have z4 := L.z4; have v4 := L.v4; have t79 := L.t79; have a79 := L.a79; have z79 := L.z79; have v79 := L.v79; have t22 := L.t22; have a22 := L.a22; have z22 := L.z22; have v22 := L.v22
 have F := L.f105
 have hsl : d.size = A.length + (X.length + (1 + B.length)) := by
  rw [← Array.length_toList, hd]
  simp
  omega
 have hdy : d[m]! = y := by
  rw [hm, ← Array.getElem!_toList, hd, ← List.append_assoc, ← List.length_append]
  simp
 have hdx : ∀ t (h : t < X.length), d[a + t]! = X[t] := fun t h => by
  rw [ha, ← Array.getElem!_toList, hd]
  simp [h, List.getElem?_append]
  try rw [if_neg (by omega)]
  try rfl
 have HD := Aside0.mk hd
 have HDX := Aside0.mk hdx
 have HDY := Aside0.mk hdy
 have HXs := Aside0.mk hX
 have HSW := Aside0.mk hS
 have HST : Hid (w = sWB enc k w blk off w.drawn d #[]) := (sWB_start enc k w blk off d hH).symm
 have HH : Hid (HoldsK enc k w blk off d) := hH
 have HC := Aside0.mk hcmp
 have HK : Hid (∀ x, (enc x).length = k) := hk
 have H1 : Hid (∀ x, ∀ v ∈ enc x, v.oneCell' = true) := h1
 have hmx : m = a + X.length := by omega
 have hma : ((m : Int) - (a : Int) == 1) = false := beq_eq_false_iff_ne.mpr (by omega)
 have hmz : (b : Int) - (m : Int) = 1 := by omega
 have hmd : m < d.size := by omega
 have HM := Aside0.mk (And.intro ha hmx)
 have ham : a ≤ m := by omega
 have hmb : m ≤ b := by omega
 have hbd : b ≤ d.size := by omega
 clear hsl hdx hdy hd hX hX1 hS hH hcmp hk h1 ha hm hb hmx
 go_enter F, Tryd.ntmps105
 go_wp2
 (try rw [hma])
 go_loopg [14, 15] X.length (fun gg vi vj wr => ∃ (i j q : Nat) (os : Array Obj), vi = .int .i64 i ∧ vj = .int .i64 j ∧ a ≤ i ∧ i ≤ j ∧ j ≤ m ∧ j - i ≤ gg ∧ wr = sWB enc k w blk off q d os ∧ Hid ((∀ x ∈ X.take (i - a), ltOf cf y x = false) ∧ (∀ x ∈ X.drop (j - a), ltOf cf y x = true)))
 case atStart =>
  have h1 := HM.out.2
  exact ⟨a, m, _, #[], rfl, rfl, by omega, by omega, by omega, by omega, HST.out, ⟨by rw [Nat.sub_self, List.take_zero]; simp, by rw [show m - a = X.length by omega, List.drop_length]; simp⟩⟩
 case round =>
  obtain ⟨i, j, q, os, rfl, rfl, hi, hij, hjb, hg, rfl, HI⟩ := hrel
  obtain ⟨wq, hwq⟩ : ∃ wq, sWB enc k w blk off q d os = wq := ⟨_, rfl⟩
  have HWQ := Aside0.mk hwq
  rw [hwq]
  by_cases hlt : i < j
  ·have hltz : (i : Int) < (j : Int) := by omega
   obtain ⟨h, hh⟩ : ∃ h : Nat, ((i : Int) + (j : Int)) / 2 = (h : Int) := ⟨(i + j) / 2, by omega⟩
   have hih : i ≤ h := by omega
   have hhj : h < j := by omega
   have hhz : (h : Int) < (d.size : Int) := by omega
   have haz : (m : Int) < (d.size : Int) := by omega
   obtain ⟨xh, hxh⟩ : ∃ z, d[h]! = z := ⟨_, rfl⟩
   have hxh2 : ∃ hl : h - a < X.length, X[h - a] = xh := by
    have hq := HM.out.2
    refine ⟨by omega, ?_⟩
    rw [← HDX.out (h - a) (by omega), show a + (h - a) = h by omega, hxh]
   have HX2 := Aside0.mk hxh2
   have hHc : ∀ q' os', HoldsK enc k (grow (redrawn wq q') os') blk off d := fun q' os' => by
    rw [← HWQ.out, sWB_regrown]
    exact sWB_holds enc k w blk off q' d d _ HH.out hblk rfl
   have lh : ∀ q' os', Sem.run P (loadCellsFrom ⟨blk, off + h * k, none⟩ 0 k #[]) (grow (redrawn wq q') os') = .ok (enc xh).toArray (grow (redrawn wq q') os') := fun q' os' => by
    rw [← hxh]; exact run_loadCellsFrom_list P _ _ _ k (HK.out _) (HoldsK.cells (hHc q' os') HK.out (by omega))
   have la : ∀ q' os', Sem.run P (loadCellsFrom ⟨blk, off + m * k, none⟩ 0 k #[]) (grow (redrawn wq q') os') = .ok (enc y).toArray (grow (redrawn wq q') os') := fun q' os' => by
    rw [← HDY.out]; exact run_loadCellsFrom_list P _ _ _ k (HK.out _) (HoldsK.cells (hHc q' os') HK.out (by omega))
   have hcg : ∀ q' os', Calls P g (#[.agg (enc y).toArray, .agg (enc xh).toArray] ++ cb) (grow (redrawn wq q') os') fun e w' => e = .returned (.int .i64 (cf y xh)) ∧ Below (grow (redrawn wq q') os').heap.size (grow (redrawn wq q') os') w' := fun q' os' => by
    rw [← HWQ.out, sWB_regrown]
    exact HC.out q' _ d rfl y xh
   clear hHc hxh hxh2 hwq
   by_cases hlv : ¬ cf y xh < 0
   ·have HLV := Aside0.mk (show ltOf cf y xh = false from decide_eq_false hlv)
    have hdl : decide (cf y xh < 0) = false := decide_eq_false hlv
    go_wp2_with fail
    refine wp_region_quiet_below (by assumption) (by kernel_rfl) ?_
    repeat (quiet_step ((go_at_fn g; refine Calls.regrown_of (hcg _ _))))
    refine wpQuiet_nil ?_
    intro _ hw'
    obtain ⟨⟨dq, osq⟩, hw''⟩ := hw'
    subst hw''
    go_wp2_with fail
    go_roundg (j - (h + 1))
    case measure => omega
    case rel =>
     refine ⟨h + 1, j, dq, os ++ osq, by go_num, rfl, by omega, by omega, by omega, Nat.le_refl _, by rw [← HWQ.out, sWB_regrown], ⟨?_, HI.out.2⟩⟩
     obtain ⟨hl, he⟩ := HX2.out
     rw [show h + 1 - a = h - a + 1 by omega]
     exact up2 HSW.out HXs.out y (h - a) hl (by rw [he]; exact HLV.out)
   ·have hlv2 : cf y xh < 0 := Classical.not_not.1 hlv
    have HLV := Aside0.mk (show ltOf cf y xh = true from decide_eq_true (Classical.not_not.1 hlv))
    have hdl : decide (cf y xh < 0) = true := decide_eq_true hlv2
    go_wp2_with fail
    refine wp_region_quiet_below (by assumption) (by kernel_rfl) ?_
    repeat (quiet_step ((go_at_fn g; refine Calls.regrown_of (hcg _ _))))
    refine wpQuiet_nil ?_
    intro _ hw'
    obtain ⟨⟨dq, osq⟩, hw''⟩ := hw'
    subst hw''
    go_wp2_with fail
    go_roundg (h - i)
    case measure => omega
    case rel =>
     refine ⟨i, h, dq, os ++ osq, rfl, rfl, hi, hih, by omega, Nat.le_refl _, by rw [← HWQ.out, sWB_regrown], ⟨HI.out.1, ?_⟩⟩
     obtain ⟨hl, he⟩ := HX2.out
     exact down2 HSW.out HXs.out y (h - a) hl (by rw [he]; exact HLV.out)
  ·have hltz : ¬ (i : Int) < (j : Int) := by omega
   obtain rfl : i = j := by omega
   have HI2 := HI
   have hst0 : wq = sWB enc k w blk off q d os := HWQ.out.symm
   have HST2 := Aside0.mk hst0
   clear hst0 hwq HWQ HI
   go_wp2_with fail
   go_loopg [17] (m - i) (fun gg vk wr => ∃ (t q : Nat) (os : Array Obj) (dk : Array α), vk = .int .i64 ((a + t : Nat) : Int) ∧ i ≤ a + t ∧ a + t ≤ m ∧ a + t - i ≤ gg ∧ dk.size = d.size ∧ wr = sWB enc k w blk off q dk os ∧ Hid (dk.toList = A ++ (X.take t ++ y :: (X.drop t ++ B))))
   case atStart =>
    have h1 := HM.out.2
    exact ⟨X.length, q, os, d, by rw [← h1], by omega, by omega, by omega, rfl, HST2.out, (by show _ = _; rw [List.take_length, List.drop_length]; exact HD.out)⟩
   case round =>
    obtain ⟨t, q2, os2, dk, rfl, ht, htm, hg2, hsk, rfl, HT⟩ := hrel
    obtain ⟨kj, hkj⟩ : ∃ kj, kj = a + t := ⟨_, rfl⟩
    have HKK := Aside0.mk hkj
    rw [← hkj] at ht htm hg2 ⊢
    clear hkj
    by_cases hlt2 : i < kj
    ·obtain ⟨kk, rfl⟩ : ∃ kk, kj = kk + 1 := ⟨kj - 1, by omega⟩
     have hltz2 : (i : Int) < (kk : Int) + 1 := by omega
     obtain ⟨x0, hx0⟩ : ∃ z, dk[kk]! = z := ⟨_, rfl⟩
     obtain ⟨x1, hx1⟩ : ∃ z, dk[kk + 1]! = z := ⟨_, rfl⟩
     have j0 : (kk : Int) < (d.size : Int) := by omega
     have j1 : (kk : Int) + 1 < (d.size : Int) := by omega
     have j2 : (0 : Int) ≤ (kk : Int) + 1 := by omega
     have e1 : ((kk : Int) + 1).toNat = kk + 1 := by omega
     have hwp : IntKind.i64.wrap (kk : Int) = (kk : Int) := by rw [IntKind.wrap_i64]; omega
     have hHd : HoldsK enc k (sWB enc k w blk off q2 dk os2).drew blk off dk := sWB_holds enc k w blk off q2 d dk os2 HH.out hblk hsk
     have bnd : ∀ z, z < dk.size → z * k + k ≤ dk.size * k := fun z hz => by
      have := Nat.mul_le_mul_right k (show z + 1 ≤ dk.size from hz); rwa [Nat.add_mul, Nat.one_mul] at this
     have HNX : Hid ((swp dk (kk + 1) kk).toList = A ++ (X.take (t - 1) ++ y :: (X.drop (t - 1) ++ B))) := by
      show _ = _
      have hk2 := HKK.out
      have q1 := HM.out.1
      have q3 := HM.out.2
      obtain ⟨s, rfl⟩ : ∃ s, t = s + 1 := ⟨t - 1, by omega⟩
      have hty : s < X.length := by omega
      have hT := HT.out
      rw [List.take_succ_eq_append_getElem hty] at hT
      have hT2 : dk.toList = (A ++ X.take s) ++ X[s] :: ([] ++ y :: (X.drop (s + 1) ++ B)) := by rw [hT]; simp only [List.append_assoc, List.cons_append, List.nil_append]
      have := swp_list dk _ _ _ _ _ hT2
      rw [List.length_append, List.length_take, Nat.min_eq_left (by omega), ← q1, show a + s = kk by omega, List.length_nil, Nat.add_zero] at this
      rw [swp_comm _ _ _ (by omega), this, Nat.add_sub_cancel, List.drop_eq_getElem_cons hty]
      simp only [List.append_assoc, List.cons_append, List.nil_append]
     have HSWP : Hid (((sWB enc k w blk off q2 dk os2).drew.setCells blk (off + (kk + 1) * k) (enc x0)).setCells blk (off + kk * k) (enc x1) = sWB enc k w blk off (q2 + 1) (swp dk (kk + 1) kk) os2) := by
      show _ = _
      rw [sWB_drew, ← hx0, ← hx1]
      exact sWB_swp enc k HK.out w blk off (q2 + 1) dk os2 hblk (kk + 1) kk (by omega) (by omega)
     generalize sWB enc k w blk off q2 dk os2 = wq at hHd HSWP ⊢
     have l0 : Sem.run P (loadCellsFrom ⟨blk, off + (kk + 1) * k, none⟩ 0 k #[]) wq.drew = .ok (enc x1).toArray wq.drew := by rw [← hx1]; exact run_loadCellsFrom_list P _ _ _ k (HK.out _) (HoldsK.cells hHd HK.out (by omega))
     have l1 : Sem.run P (loadCellsFrom ⟨blk, off + kk * k, none⟩ 0 k #[]) wq.drew = .ok (enc x0).toArray wq.drew := by rw [← hx0]; exact run_loadCellsFrom_list P _ _ _ k (HK.out _) (HoldsK.cells hHd HK.out (by omega))
     have s1 : Sem.run P (storeCells ⟨blk, off + (kk + 1) * k, none⟩ (enc x0) 0) wq.drew = .ok () (wq.drew.setCells blk (off + (kk + 1) * k) (enc x0)) := stores_of_holds P hHd ((kk + 1) * k) _ (by rw [HK.out, size_flatK]; exact bnd (kk + 1) (by omega)) (H1.out _)
     have s2 : Sem.run P (storeCells ⟨blk, off + kk * k, none⟩ (enc x1) 0) (wq.drew.setCells blk (off + (kk + 1) * k) (enc x0)) = .ok () ((wq.drew.setCells blk (off + (kk + 1) * k) (enc x0)).setCells blk (off + kk * k) (enc x1)) :=
      stores_of_holds P (holds_setCells_c hHd ((kk + 1) * k) _ (by rw [HK.out, size_flatK]; exact bnd (kk + 1) (by omega))) (kk * k) _ (by rw [HK.out, size_setMany, size_flatK]; exact bnd kk (by omega)) (H1.out _)
     have hs0 : (enc x1).length = k := HK.out _
     have hs1 : (enc x0).length = k := HK.out _
     clear hHd bnd hx1 hx0
     obtain ⟨c0, hc0⟩ : ∃ c, enc x1 = c := ⟨_, rfl⟩
     obtain ⟨c1, hc1⟩ : ∃ c, enc x0 = c := ⟨_, rfl⟩
     rw [hc0] at l0 s2 hs0 HSWP
     rw [hc1] at l1 s1 s2 hs1 HSWP
     clear hc0 hc1
     go_wp2_with fail
     go_big_region_o
     all_goals go_wp2
     go_roundg (kk - i)
     case measure => omega
     case rel =>
      have hk2 := HKK.out
      have q3 := HM.out.2
      exact ⟨t - 1, q2 + 1, os2, _, by rw [show a + (t - 1) = kk by omega], by omega, by omega, by omega, by rw [size_swp]; exact hsk, HSWP.out, HNX⟩
    ·have hltz2 : ¬ (i : Int) < (kj : Int) := by omega
     go_wp2
     refine bodyPost_ret (results_none rfl _ _ _) rfl ?_
     have hk2 := HKK.out
     obtain ⟨z1, z2⟩ := HI2.out
     have et : i - a = t := by omega
     rw [et] at z1 z2
     have hf := fin2 HSW.out HXs.out y t z1 z2
     exact ⟨rfl, q2, os2, dk, ⟨_, by rw [HT.out]; simp only [List.append_assoc, List.cons_append], hf.1, hf.2⟩, hsk, rfl⟩
end Go.Proofs.YtcdmgdegohcmhaaDoor.PA
namespace Go.Proofs.YtcdmgdegohcmhaaDoor.PA
open Go.RowKit Go.Proofs.YtcdmgdegohcmhaaDoorW.PrintWords Go.Proofs.YtcdmgdegohcmhaaDoorW.PrintLast Go.Proofs.YtcdmgdegohcmhaaDoorW.PrintMore
attribute [local go_sem] max2_int min2_int max_two min_two max_three min_three max_four min_four
set_option linter.unusedVariables false
set_option linter.unusedSimpArgs false
open Go Go.Shelf Go.Lib Go.Sort
theorem get_mid {α : Type} [Inhabited α] (l r : List α) (x : α) (n : Nat) (h : n = l.length) : (l ++ x :: r)[n]! = x := by
 subst h
 simp
theorem split_at {α : Type} (Pp : List α) (t u : Nat) (hu : u = t + 1) (h : t < Pp.length) : ∃ z, Pp[t]? = some z ∧ Pp.take u = Pp.take t ++ [z] ∧ Pp.drop t = z :: Pp.drop u := by
 subst hu
 exact ⟨Pp[t], List.getElem?_eq_getElem h, List.take_succ_eq_append_getElem h, List.drop_eq_getElem_cons h⟩
set_option maxHeartbeats 8000000 in
set_option maxRecDepth 1000000 in
theorem ins_call {P : Program} (L : LS P) {α : Type} [Inhabited α] (enc : α → List Value) (k : Nat) (aE : ∀ w, (isAgg 35).run P w = .ok true w) (zE : ∀ w, (Go.sizeOf 35).run P w = .ok k w) (hk : ∀ x, (enc x).length = k) (h1 : ∀ x, ∀ v ∈ enc x, v.oneCell' = true)
  (cf : α → α → Int) (hS : SWO (ltOf cf)) (g : Nat) (cb : Array Value) (eg : ∀ args w, (callFunc g args).run P w = .ok (.enter g args) w) (blk off cap : Nat) (A X B : List α) (d : Array α) (w : World) (hcmp : CmpB P g cb enc k cf blk off d.size w) (hH : HoldsK enc k w blk off d) (hblk : blk < w.heap.size) (hd : d.toList = A ++ (X ++ B)) (a b : Nat) (ha : a = A.length) (hb : b = A.length + X.length) (hsz : d.size < 1000000000000) :
  Calls P 104 #[.slice (some ⟨blk, off, none⟩) d.size cap, .int .i64 a, .int .i64 b, .func (.func g) #[] cb] w fun e w' =>
   e = .returned (.tuple #[]) ∧ ∃ q os dk, (∃ Z, dk.toList = A ++ (Z ++ B) ∧ StP (ltOf cf) X Z ∧ SortedL (ltOf cf) Z) ∧ dk.size = d.size ∧ w' = sWB enc k w blk off q dk os := by
 have mixed := L.mixed
 have t3 := L.t3; have a3 := L.a3; have z3 := L.z3; have v3 := L.v3; have t4 := L.t4; have a4 := L.a4; have z4 := L.z4; have v4 := L.v4; have t79 := L.t79; have a79 := L.a79; have z79 := L.z79; have v79 := L.v79; have t22 := L.t22; have a22 := L.a22; have z22 := L.z22; have v22 := L.v22
 have F := L.f104
 have hsl : d.size = A.length + (X.length + B.length) := by
  rw [← Array.length_toList, hd]
  simp
 have HD := Aside0.mk hd
 have HSW := Aside0.mk hS
 have HST : Hid (w = sWB enc k w blk off w.drawn d #[]) := (sWB_start enc k w blk off d hH).symm
 have HH : Hid (HoldsK enc k w blk off d) := hH
 have HC := Aside0.mk hcmp
 have HK : Hid (∀ x, (enc x).length = k) := hk
 have H1 : Hid (∀ x, ∀ v ∈ enc x, v.oneCell' = true) := h1
 have hbx : b = a + X.length := by omega
 have HM := Aside0.mk (And.intro ha hbx)
 have hab : a ≤ b := by omega
 have hbd : b ≤ d.size := by omega
 clear hsl hd hS hH hcmp hk h1 ha hb hbx
 go_enter F, Tryd.ntmps104
 go_wp2
 go_loopg [8] (b - a) (fun g1 vi wr => ∃ (i q : Nat) (os : Array Obj) (dk : Array α), vi = .int .i64 i ∧ a < i ∧ i ≤ b + 1 ∧ b + 1 - i ≤ g1 + 1 ∧ dk.size = d.size ∧ wr = sWB enc k w blk off q dk os ∧ Hid (∃ Pp, dk.toList = A ++ (Pp ++ (X.drop (i - a) ++ B)) ∧ StP (ltOf cf) (X.take (i - a)) Pp ∧ SortedL (ltOf cf) Pp))
 case atStart => exact ⟨a + 1, _, #[], d, by go_num, by omega, by omega, by omega, rfl, HST.out, ⟨X.take (a + 1 - a), by rw [HD.out, ← List.append_assoc (X.take _), List.take_append_drop], StP.refl _, by
  rw [show a + 1 - a = 1 by omega]
  cases X with
  | nil => exact List.Pairwise.nil
  | cons x l => exact List.pairwise_singleton _ _⟩⟩
 case round =>
  obtain ⟨i, q, os, dk, rfl, hai, hib, hg1, hsk, rfl, HP⟩ := hrel
  by_cases hlt : i < b
  ·have hltz : (i : Int) < (b : Int) := by omega
   obtain ⟨Pp, hP1, hP2, hP3⟩ := HP.out
   have hxl : i - a < X.length := by have := HM.out.2; omega
   obtain ⟨x, hx⟩ : ∃ x, X[i - a] = x := ⟨_, rfl⟩
   have hPl : Pp.length = i - a := by rw [hP2.len, List.length_take]; omega
   have hP4 : dk.toList = A ++ (Pp ++ x :: (X.drop (i + 1 - a) ++ B)) := by
    rw [hP1, List.drop_eq_getElem_cons hxl, hx, show i - a + 1 = i + 1 - a by omega]
    rfl
   have hP5 : StP (ltOf cf) (X.take (i + 1 - a)) (Pp ++ [x]) := by
    rw [show i + 1 - a = i - a + 1 by omega, List.take_succ_eq_append_getElem hxl, hx]
    exact hP2.app (StP.refl _)
   have HPP := Aside0.mk (And.intro hPl (And.intro hP3 hP5))
   have HP4 := Aside0.mk hP4
   clear hxl hx hPl hP1 hP2 hP3 hP4 hP5 HP
   go_wp2
   go_loopg [9] i (fun g2 vj wr2 => ∃ (j q : Nat) (os : Array Obj) (dj : Array α), vj = .int .i64 j ∧ a ≤ j ∧ j ≤ i ∧ j ≤ g2 ∧ dj.size = d.size ∧ wr2 = sWB enc k w blk off q dj os ∧ Hid (dj.toList = A ++ (Pp.take (j - a) ++ x :: (Pp.drop (j - a) ++ (X.drop (i + 1 - a) ++ B))) ∧ ∀ p ∈ Pp.drop (j - a), ltOf cf x p = true))
   case atStart => exact ⟨i, q, os, dk, rfl, by omega, Nat.le_refl _, Nat.le_refl _, hsk, rfl, ⟨by rw [← HPP.out.1, List.take_length, List.drop_length]; exact HP4.out, by rw [← HPP.out.1, List.drop_length]; simp⟩⟩
   case round =>
    obtain ⟨j, m, oj, dj, rfl, haj, hji, hg2, hsj, rfl, HI⟩ := hrel
    have out : ((j ≤ a) ∨ ∃ z, Pp[j - a - 1]? = some z ∧ ltOf cf x z = false) → Hid (∃ Pq, dj.toList = A ++ (Pq ++ (X.drop (i + 1 - a) ++ B)) ∧ StP (ltOf cf) (X.take (i + 1 - a)) Pq ∧ SortedL (ltOf cf) Pq) := fun hs => by
     obtain ⟨q1, q2⟩ := HI.out
     have h1 : ∀ p ∈ Pp.take (j - a), ltOf cf x p = false := by
      rcases hs with h | ⟨z, hz, h2⟩
      ·rw [show j - a = 0 by omega, List.take_zero]
       simp
      ·by_cases e0 : j - a = 0
       ·rw [e0, List.take_zero]
        simp
       ·obtain ⟨h, he⟩ := List.getElem?_eq_some_iff.1 hz
        have := up2 HSW.out HPP.out.2.1 x (j - a - 1) h (by rw [he]; exact h2)
        rwa [show j - a - 1 + 1 = j - a by omega] at this
     have hf := fin2 HSW.out HPP.out.2.1 x (j - a) h1 q2
     exact ⟨Pp.take (j - a) ++ x :: Pp.drop (j - a), by rw [q1]; simp only [List.append_assoc, List.cons_append], HPP.out.2.2.trans hf.1, hf.2⟩
    have OUT : Aside _ := out
    clear out
    by_cases hja : a < j
    ·have hjaz : (a : Int) < (j : Int) := by omega
     obtain ⟨kk, rfl⟩ : ∃ kk, j = kk + 1 := ⟨j - 1, by omega⟩
     obtain ⟨z, hz1, hz2, hz3⟩ := split_at Pp (kk - a) (kk + 1 - a) (by omega) (by have h0 := HPP.out.1; omega)
     have HZ := Aside0.mk (And.intro hz1 (And.intro hz2 hz3))
     have hJ : dj.toList = (A ++ Pp.take (kk - a)) ++ z :: ([] ++ x :: (Pp.drop (kk + 1 - a) ++ (X.drop (i + 1 - a) ++ B))) := by
      rw [HI.out.1, hz2]
      simp only [List.append_assoc, List.cons_append, List.nil_append]
     have HJ := Aside0.mk hJ
     clear hz1 hz2 hz3 hJ
     have HAL : Aside0 ((A ++ Pp.take (kk - a)).length = kk) := ⟨by
      have h0 := HPP.out.1
      have h1 := HM.out.1
      rw [List.length_append, List.length_take]
      omega⟩
     obtain ⟨x0, hz0⟩ : ∃ z, dj[kk]! = z := ⟨_, rfl⟩
     obtain ⟨x1, hz1⟩ : ∃ z, dj[kk + 1]! = z := ⟨_, rfl⟩
     have HX01 : Aside0 (x1 = x ∧ x0 = z) := by
      have hL := HJ.out
      have hA := HAL.out
      refine ⟨⟨?_, ?_⟩⟩
      ·rw [← hz1, ← Array.getElem!_toList, hL]
       have e : kk + 1 = ((A ++ Pp.take (kk - a)) ++ [z]).length := by rw [List.length_append, hA]; rfl
       rw [show (A ++ Pp.take (kk - a)) ++ z :: ([] ++ x :: (Pp.drop (kk + 1 - a) ++ (X.drop (i + 1 - a) ++ B))) = ((A ++ Pp.take (kk - a)) ++ [z]) ++ x :: (Pp.drop (kk + 1 - a) ++ (X.drop (i + 1 - a) ++ B)) by simp only [List.append_assoc, List.cons_append, List.nil_append]]
       exact get_mid _ _ _ _ e
      ·rw [← hz0, ← Array.getElem!_toList, hL]
       exact get_mid _ _ _ _ hA.symm
     have j0 : (kk : Int) < (d.size : Int) := by omega
     have j1 : (kk : Int) + 1 < (d.size : Int) := by omega
     have j2 : (0 : Int) ≤ (kk : Int) + 1 := by omega
     have e1 : ((kk : Int) + 1).toNat = kk + 1 := by omega
     have hwp : IntKind.i64.wrap (kk : Int) = (kk : Int) := by rw [IntKind.wrap_i64]; omega
     have hjaz' : (a : Int) < (kk : Int) + 1 := by omega
     have hkd : kk < dj.size := by omega
     have hkd1 : kk + 1 < dj.size := by omega
     have hcls : ∀ q' os', grow (redrawn (sWB enc k w blk off m dj oj) q') os' = sWB enc k w blk off q' dj (oj ++ os') := fun q' os' => sWB_regrown enc k w blk off m q' dj oj os'
     have hHc : ∀ q' os', HoldsK enc k (grow (redrawn (sWB enc k w blk off m dj oj) q') os') blk off dj := fun q' os' => by rw [hcls]; exact sWB_holds enc k w blk off q' d dj _ HH.out hblk hsj
     have l0q : ∀ q' os', Sem.run P (loadCellsFrom ⟨blk, off + kk * k, none⟩ 0 k #[]) (grow (redrawn (sWB enc k w blk off m dj oj) q') os') = .ok (enc x0).toArray (grow (redrawn (sWB enc k w blk off m dj oj) q') os') := fun q' os' => by
      rw [← hz0]; exact run_loadCellsFrom_list P _ _ _ k (HK.out _) (HoldsK.cells (hHc q' os') HK.out hkd)
     have l1q : ∀ q' os', Sem.run P (loadCellsFrom ⟨blk, off + (kk + 1) * k, none⟩ 0 k #[]) (grow (redrawn (sWB enc k w blk off m dj oj) q') os') = .ok (enc x1).toArray (grow (redrawn (sWB enc k w blk off m dj oj) q') os') := fun q' os' => by
      rw [← hz1]; exact run_loadCellsFrom_list P _ _ _ k (HK.out _) (HoldsK.cells (hHc q' os') HK.out hkd1)
     have hcg : ∀ q' os', Calls P g (#[.agg (enc x1).toArray, .agg (enc x0).toArray] ++ cb) (grow (redrawn (sWB enc k w blk off m dj oj) q') os') fun e w' => e = .returned (.int .i64 (cf x1 x0)) ∧ Below (grow (redrawn (sWB enc k w blk off m dj oj) q') os').heap.size (grow (redrawn (sWB enc k w blk off m dj oj) q') os') w' := fun q' os' => by
      rw [hcls]; exact HC.out q' _ dj hsj x1 x0
     have CLS : Hid _ := hcls
     clear hcls hHc
     generalize sWB enc k w blk off m dj oj = wq at l0q l1q hcg CLS ⊢
     by_cases hlv : cf x1 x0 < 0
     ·have HLV := Aside0.mk (show ltOf cf x1 x0 = true from decide_eq_true hlv)
      go_wp2_with fail
      refine wp_region_quiet_below (by assumption) (by kernel_rfl) ?_
      repeat (quiet_step ((go_at_fn g; refine Calls.regrown_of (hcg _ _))))
      refine wpQuiet_nil ?_
      intro _ hw'
      obtain ⟨⟨dq, osq⟩, hw''⟩ := hw'
      subst hw''
      go_wp2_with fail
      have hw2 : grow (redrawn wq dq) osq = sWB enc k w blk off dq dj (oj ++ osq) := CLS.out dq osq
      rw [hw2]
      have hHd : HoldsK enc k (sWB enc k w blk off dq dj (oj ++ osq)).drew blk off dj := sWB_holds enc k w blk off dq d dj _ HH.out hblk hsj
      have bnd : ∀ z, z < dj.size → z * k + k ≤ dj.size * k := fun z hz => by
       have := Nat.mul_le_mul_right k (show z + 1 ≤ dj.size from hz); rwa [Nat.add_mul, Nat.one_mul] at this
      have HNX : Hid ((swp dj (kk + 1) kk).toList = A ++ (Pp.take (kk - a) ++ x :: (Pp.drop (kk - a) ++ (X.drop (i + 1 - a) ++ B))) ∧ ∀ p ∈ Pp.drop (kk - a), ltOf cf x p = true) := by
       have hL := HJ.out
       obtain ⟨hx1, hx0⟩ := HX01.out
       have hd2 := HZ.out.2.2
       constructor
       ·have := swp_list dj _ _ _ _ _ hL
        rw [HAL.out, List.length_nil, Nat.add_zero] at this
        rw [swp_comm _ _ _ (by omega), this, hd2]
        simp only [List.append_assoc, List.cons_append, List.nil_append]
       ·intro p hp
        rw [hd2] at hp
        rcases List.mem_cons.1 hp with h | h
        ·rw [h, ← hx0, ← hx1]
         exact HLV.out
        ·exact HI.out.2 p h
      have HSWP : Hid (((sWB enc k w blk off dq dj (oj ++ osq)).drew.setCells blk (off + (kk + 1) * k) (enc x0)).setCells blk (off + kk * k) (enc x1) = sWB enc k w blk off (dq + 1) (swp dj (kk + 1) kk) (oj ++ osq)) := by
       show _ = _
       rw [sWB_drew, ← hz0, ← hz1]
       exact sWB_swp enc k HK.out w blk off (dq + 1) dj (oj ++ osq) hblk (kk + 1) kk hkd1 hkd
      clear l0q l1q hcg hw2
      generalize sWB enc k w blk off dq dj (oj ++ osq) = wq at hHd HSWP ⊢
      have l0 : Sem.run P (loadCellsFrom ⟨blk, off + (kk + 1) * k, none⟩ 0 k #[]) wq.drew = .ok (enc x1).toArray wq.drew := by rw [← hz1]; exact run_loadCellsFrom_list P _ _ _ k (HK.out _) (HoldsK.cells hHd HK.out (by omega))
      have l1 : Sem.run P (loadCellsFrom ⟨blk, off + kk * k, none⟩ 0 k #[]) wq.drew = .ok (enc x0).toArray wq.drew := by rw [← hz0]; exact run_loadCellsFrom_list P _ _ _ k (HK.out _) (HoldsK.cells hHd HK.out (by omega))
      have s1 : Sem.run P (storeCells ⟨blk, off + (kk + 1) * k, none⟩ (enc x0) 0) wq.drew = .ok () (wq.drew.setCells blk (off + (kk + 1) * k) (enc x0)) := stores_of_holds P hHd ((kk + 1) * k) _ (by rw [HK.out, size_flatK]; exact bnd (kk + 1) (by omega)) (H1.out _)
      have s2 : Sem.run P (storeCells ⟨blk, off + kk * k, none⟩ (enc x1) 0) (wq.drew.setCells blk (off + (kk + 1) * k) (enc x0)) = .ok () ((wq.drew.setCells blk (off + (kk + 1) * k) (enc x0)).setCells blk (off + kk * k) (enc x1)) :=
       stores_of_holds P (holds_setCells_c hHd ((kk + 1) * k) _ (by rw [HK.out, size_flatK]; exact bnd (kk + 1) (by omega))) (kk * k) _ (by rw [HK.out, size_setMany, size_flatK]; exact bnd kk (by omega)) (H1.out _)
      have hs0 : (enc x1).length = k := HK.out _
      have hs1 : (enc x0).length = k := HK.out _
      clear hHd bnd hz1 hz0
      obtain ⟨c0, hc0⟩ : ∃ c, enc x1 = c := ⟨_, rfl⟩
      obtain ⟨c1, hc1⟩ : ∃ c, enc x0 = c := ⟨_, rfl⟩
      rw [hc0] at l0 s2 hs0 HSWP
      rw [hc1] at l1 s1 s2 hs1 HSWP
      clear hc0 hc1
      go_wp2_with fail
      go_big_region_o
      all_goals go_wp2
      go_roundg kk
      case measure => omega
      case rel => exact ⟨kk, dq + 1, oj ++ osq, _, rfl, by omega, by omega, Nat.le_refl _, by rw [size_swp]; exact hsj, HSWP.out, HNX⟩
     ·have HLV := Aside0.mk (show ltOf cf x1 x0 = false from decide_eq_false hlv)
      have HOUT := OUT.out (Or.inr (by
       obtain ⟨hx1, hx0⟩ := HX01.out
       exact ⟨z, by rw [show kk + 1 - a - 1 = kk - a by omega]; exact HZ.out.1, by rw [← hx0, ← hx1]; exact HLV.out⟩))
      go_wp2_with fail
      refine wp_region_quiet_below (by assumption) (by kernel_rfl) ?_
      repeat (quiet_step ((go_at_fn g; refine Calls.regrown_of (hcg _ _))))
      refine wpQuiet_nil ?_
      intro _ hw'
      obtain ⟨⟨dq, osq⟩, hw''⟩ := hw'
      subst hw''
      go_wp2
      go_roundg (b - (i + 1))
      case measure => omega
      case rel => exact ⟨i + 1, dq, oj ++ osq, dj, by go_num, by omega, by omega, by omega, hsj, CLS.out dq osq, HOUT⟩
    ·have hjaz : decide ((j : Int) > (a : Int)) = false := decide_eq_false (by omega)
     have hjaz' : ¬ (a : Int) < (j : Int) := by omega
     have HOUT := OUT.out (Or.inl (by omega))
     have HDR : Hid ((sWB enc k w blk off m dj oj).drew = sWB enc k w blk off (m + 1) dj oj) := sWB_drew enc k w blk off m dj oj
     generalize sWB enc k w blk off m dj oj = wq at HDR ⊢
     go_wp2_with fail
     go_big_region_o
     all_goals go_wp2
     go_roundg (b - (i + 1))
     case measure => omega
     case rel => exact ⟨i + 1, m + 1, oj, dj, by go_num, by omega, by omega, by omega, hsj, HDR.out, HOUT⟩
  ·have hltz : ¬ (i : Int) < (b : Int) := by omega
   go_wp2
   go_end0
   obtain ⟨Pp, hP1, hP2, hP3⟩ := HP.out
   have hx := HM.out.2
   rw [List.take_of_length_le (by omega)] at hP2
   rw [List.drop_eq_nil_of_le (by omega), List.nil_append] at hP1
   exact ⟨rfl, q, os, dk, ⟨Pp, hP1, hP2, hP3⟩, hsk, rfl⟩
end Go.Proofs.YtcdmgdegohcmhaaDoor.PA
namespace Go.Proofs.YtcdmgdegohcmhaaDoor.PA
open Go.RowKit Go.Proofs.YtcdmgdegohcmhaaDoorW.PrintWords Go.Proofs.YtcdmgdegohcmhaaDoorW.PrintLast Go.Proofs.YtcdmgdegohcmhaaDoorW.PrintMore
attribute [local go_sem] max2_int min2_int max_two min_two max_three min_three max_four min_four
set_option linter.unusedVariables false
set_option linter.unusedSimpArgs false
open Go Go.Shelf Go.Lib Go.Sort
set_option maxHeartbeats 4000000 in
set_option maxRecDepth 1000000 in
theorem sym1_call {P : Program} (L : LS P) {α : Type} [Inhabited α] (enc : α → List Value) (k : Nat) (aE : ∀ w, (isAgg 35).run P w = .ok true w) (zE : ∀ w, (Go.sizeOf 35).run P w = .ok k w) (hk : ∀ x, (enc x).length = k) (h1 : ∀ x, ∀ v ∈ enc x, v.oneCell' = true)
  (cf : α → α → Int) (hS : SWO (ltOf cf)) (g : Nat) (cb : Array Value) (eg : ∀ args w, (callFunc g args).run P w = .ok (.enter g args) w) (blk off cap : Nat) (A : List α) (x : α) (Y B : List α) (d : Array α) (w : World) (hcmp : CmpB P g cb enc k cf blk off d.size w) (hH : HoldsK enc k w blk off d) (hblk : blk < w.heap.size) (hd : d.toList = A ++ x :: (Y ++ B)) (hY : SortedL (ltOf cf) Y) (a m b : Nat) (ha : a = A.length) (hm : m = A.length + 1) (hb : b = A.length + 1 + Y.length) (hsz : d.size < 1000000000000) :
  Calls P 105 #[.slice (some ⟨blk, off, none⟩) d.size cap, .int .i64 a, .int .i64 m, .int .i64 b, .func (.func g) #[] cb] w fun e w' =>
   e = .returned (.tuple #[]) ∧ ∃ q os dk, (∃ Z, dk.toList = A ++ (Z ++ B) ∧ StP (ltOf cf) ([x] ++ Y) Z ∧ SortedL (ltOf cf) Z) ∧ dk.size = d.size ∧ w' = sWB enc k w blk off q dk os := by
 have mixed := L.mixed
 have t3 := L.t3; have a3 := L.a3; have z3 := L.z3; have v3 := L.v3; have t4 := L.t4; have a4 := L.a4; have z4 := L.z4; have v4 := L.v4; have t79 := L.t79; have a79 := L.a79; have z79 := L.z79; have v79 := L.v79; have t22 := L.t22; have a22 := L.a22; have z22 := L.z22; have v22 := L.v22
 have F := L.f105
 have hsl : d.size = A.length + (1 + Y.length + B.length) := by
  rw [← Array.length_toList, hd]
  simp
  omega
 have hdx : d[a]! = x := by
  rw [ha, ← Array.getElem!_toList, hd]
  simp
 have hdy : ∀ t (h : t < Y.length), d[m + t]! = Y[t] := fun t h => by
  rw [hm, ← Array.getElem!_toList, hd, show A.length + 1 + t = A.length + (1 + t) by omega]
  simp [h, List.getElem?_append, show 1 + t = t + 1 by omega]
  rw [if_neg (by omega)]
  rfl
 have HD := Aside0.mk hd
 have HDX := Aside0.mk hdx
 have HDY := Aside0.mk hdy
 have HYs := Aside0.mk hY
 have HSW := Aside0.mk hS
 have HST : Hid (w = sWB enc k w blk off w.drawn d #[]) := (sWB_start enc k w blk off d hH).symm
 have HH : Hid (HoldsK enc k w blk off d) := hH
 have HC := Aside0.mk hcmp
 have HK : Hid (∀ x, (enc x).length = k) := hk
 have H1 : Hid (∀ x, ∀ v ∈ enc x, v.oneCell' = true) := h1
 have hma : m = a + 1 := by omega
 have hmz : (m : Int) - (a : Int) = 1 := by omega
 have hbm : b = m + Y.length := by omega
 have hbd : b ≤ d.size := by omega
 have HM := Aside0.mk (And.intro ha (And.intro hma hbm))
 have hm0 : a + 1 ≤ m := by omega
 have hmb : m ≤ b := by omega
 clear hsl hdx hdy hd hY hS hH hcmp hk h1 ha hm hb hma hbm
 go_enter F, Tryd.ntmps105
 go_wp2
 go_loopg [10, 11] Y.length (fun gg vi vj wr => ∃ (i j q : Nat) (os : Array Obj), vi = .int .i64 i ∧ vj = .int .i64 j ∧ m ≤ i ∧ i ≤ j ∧ j ≤ b ∧ j - i ≤ gg ∧ wr = sWB enc k w blk off q d os ∧ Hid ((∀ y ∈ Y.take (i - m), ltOf cf y x = true) ∧ (∀ y ∈ Y.drop (j - m), ltOf cf y x = false)))
 case atStart =>
  have h1 := HM.out.2.2
  exact ⟨m, b, _, #[], rfl, rfl, by omega, by omega, by omega, by omega, HST.out, ⟨by rw [Nat.sub_self, List.take_zero]; simp, by rw [show b - m = Y.length by omega, List.drop_length]; simp⟩⟩
 case round =>
  obtain ⟨i, j, q, os, rfl, rfl, hi, hij, hjb, hg, rfl, HI⟩ := hrel
  obtain ⟨wq, hwq⟩ : ∃ wq, sWB enc k w blk off q d os = wq := ⟨_, rfl⟩
  have HWQ := Aside0.mk hwq
  rw [hwq]
  by_cases hlt : i < j
  ·have hltz : (i : Int) < (j : Int) := by omega
   obtain ⟨h, hh⟩ : ∃ h : Nat, ((i : Int) + (j : Int)) / 2 = (h : Int) := ⟨(i + j) / 2, by omega⟩
   have hih : i ≤ h := by omega
   have hhj : h < j := by omega
   have hhz : (h : Int) < (d.size : Int) := by omega
   have haz : (a : Int) < (d.size : Int) := by omega
   obtain ⟨xh, hxh⟩ : ∃ z, d[h]! = z := ⟨_, rfl⟩
   have hxh2 : ∃ hl : h - m < Y.length, Y[h - m] = xh := by
    have hq := HM.out.2.2
    refine ⟨by omega, ?_⟩
    rw [← HDY.out (h - m) (by omega), show m + (h - m) = h by omega, hxh]
   have HX2 := Aside0.mk hxh2
   have hHc : ∀ q' os', HoldsK enc k (grow (redrawn wq q') os') blk off d := fun q' os' => by
    rw [← HWQ.out, sWB_regrown]
    exact sWB_holds enc k w blk off q' d d _ HH.out hblk rfl
   have lh : ∀ q' os', Sem.run P (loadCellsFrom ⟨blk, off + h * k, none⟩ 0 k #[]) (grow (redrawn wq q') os') = .ok (enc xh).toArray (grow (redrawn wq q') os') := fun q' os' => by
    rw [← hxh]; exact run_loadCellsFrom_list P _ _ _ k (HK.out _) (HoldsK.cells (hHc q' os') HK.out (by omega))
   have la : ∀ q' os', Sem.run P (loadCellsFrom ⟨blk, off + a * k, none⟩ 0 k #[]) (grow (redrawn wq q') os') = .ok (enc x).toArray (grow (redrawn wq q') os') := fun q' os' => by
    rw [← HDX.out]; exact run_loadCellsFrom_list P _ _ _ k (HK.out _) (HoldsK.cells (hHc q' os') HK.out (by omega))
   have hcg : ∀ q' os', Calls P g (#[.agg (enc xh).toArray, .agg (enc x).toArray] ++ cb) (grow (redrawn wq q') os') fun e w' => e = .returned (.int .i64 (cf xh x)) ∧ Below (grow (redrawn wq q') os').heap.size (grow (redrawn wq q') os') w' := fun q' os' => by
    rw [← HWQ.out, sWB_regrown]
    exact HC.out q' _ d rfl xh x
   clear hHc hxh hxh2 hwq
   by_cases hlv : cf xh x < 0
   ·have HLV := Aside0.mk (show ltOf cf xh x = true from decide_eq_true hlv)
    go_wp2_with fail
    refine wp_region_quiet_below (by assumption) (by kernel_rfl) ?_
    repeat (quiet_step ((go_at_fn g; refine Calls.regrown_of (hcg _ _))))
    refine wpQuiet_nil ?_
    intro _ hw'
    obtain ⟨⟨dq, osq⟩, hw''⟩ := hw'
    subst hw''
    go_wp2_with fail
    go_roundg (j - (h + 1))
    case measure => omega
    case rel =>
     refine ⟨h + 1, j, dq, os ++ osq, by go_num, rfl, by omega, by omega, by omega, Nat.le_refl _, by rw [← HWQ.out, sWB_regrown], ⟨?_, HI.out.2⟩⟩
     obtain ⟨hl, he⟩ := HX2.out
     rw [show h + 1 - m = h - m + 1 by omega]
     exact up1 HSW.out HYs.out x (h - m) hl (by rw [he]; exact HLV.out)
   ·have HLV := Aside0.mk (show ltOf cf xh x = false from decide_eq_false hlv)
    go_wp2_with fail
    refine wp_region_quiet_below (by assumption) (by kernel_rfl) ?_
    repeat (quiet_step ((go_at_fn g; refine Calls.regrown_of (hcg _ _))))
    refine wpQuiet_nil ?_
    intro _ hw'
    obtain ⟨⟨dq, osq⟩, hw''⟩ := hw'
    subst hw''
    go_wp2_with fail
    go_roundg (h - i)
    case measure => omega
    case rel =>
     refine ⟨i, h, dq, os ++ osq, rfl, rfl, hi, hih, by omega, Nat.le_refl _, by rw [← HWQ.out, sWB_regrown], ⟨HI.out.1, ?_⟩⟩
     obtain ⟨hl, he⟩ := HX2.out
     exact down1 HSW.out HYs.out x (h - m) hl (by rw [he]; exact HLV.out)
  ·have hltz : ¬ (i : Int) < (j : Int) := by omega
   obtain rfl : i = j := by omega
   have HI2 := HI
   have hst0 : wq = sWB enc k w blk off q d os := HWQ.out.symm
   have HST2 := Aside0.mk hst0
   clear hst0 hwq HWQ HI
   go_wp2_with fail
   go_loopg [13] (i - 1 - a) (fun gg vk wr => ∃ (t q : Nat) (os : Array Obj) (dk : Array α), vk = .int .i64 ((a + t : Nat) : Int) ∧ a + t ≤ i - 1 ∧ i - 1 - (a + t) ≤ gg ∧ dk.size = d.size ∧ wr = sWB enc k w blk off q dk os ∧ Hid (dk.toList = A ++ (Y.take t ++ x :: (Y.drop t ++ B))))
   case atStart => exact ⟨0, q, os, d, by go_num, by omega, by omega, rfl, HST2.out, (by show _ = _; rw [List.take_zero, List.drop_zero]; exact HD.out)⟩
   case round =>
    obtain ⟨t, q2, os2, dk, rfl, ht, hg2, hsk, rfl, HT⟩ := hrel
    obtain ⟨kk, hkk⟩ : ∃ kk, kk = a + t := ⟨_, rfl⟩
    have HKK := Aside0.mk hkk
    rw [← hkk] at ht hg2 ⊢
    clear hkk
    by_cases hlt2 : kk < i - 1
    ·have hltz2 : (kk : Int) < (i : Int) - 1 := by omega
     obtain ⟨x0, hx0⟩ : ∃ z, dk[kk]! = z := ⟨_, rfl⟩
     obtain ⟨x1, hx1⟩ : ∃ z, dk[kk + 1]! = z := ⟨_, rfl⟩
     have j0 : (kk : Int) < (d.size : Int) := by omega
     have j1 : (kk : Int) + 1 < (d.size : Int) := by omega
     have j2 : (0 : Int) ≤ (kk : Int) + 1 := by omega
     have e1 : ((kk : Int) + 1).toNat = kk + 1 := by omega
     have hHd : HoldsK enc k (sWB enc k w blk off q2 dk os2).drew blk off dk := sWB_holds enc k w blk off q2 d dk os2 HH.out hblk hsk
     have bnd : ∀ z, z < dk.size → z * k + k ≤ dk.size * k := fun z hz => by
      have := Nat.mul_le_mul_right k (show z + 1 ≤ dk.size from hz); rwa [Nat.add_mul, Nat.one_mul] at this
     have HNX : Hid ((swp dk kk (kk + 1)).toList = A ++ (Y.take (t + 1) ++ x :: (Y.drop (t + 1) ++ B))) := by
      show _ = _
      have hk2 := HKK.out
      have q1 := HM.out.1
      have q3 := HM.out.2.2
      have hty : t < Y.length := by omega
      have hT := HT.out
      rw [List.drop_eq_getElem_cons hty] at hT
      have hT2 : dk.toList = (A ++ Y.take t) ++ x :: ([] ++ Y[t] :: (Y.drop (t + 1) ++ B)) := by rw [hT]; simp only [List.append_assoc, List.cons_append, List.nil_append]
      have := swp_list dk _ _ _ _ _ hT2
      rw [List.length_append, List.length_take, Nat.min_eq_left (by omega), ← q1, ← hk2, List.length_nil, Nat.add_zero] at this
      rw [this, List.take_succ_eq_append_getElem hty]
      simp only [List.append_assoc, List.cons_append, List.nil_append]
     have HSWP : Hid (((sWB enc k w blk off q2 dk os2).drew.setCells blk (off + kk * k) (enc x1)).setCells blk (off + (kk + 1) * k) (enc x0) = sWB enc k w blk off (q2 + 1) (swp dk kk (kk + 1)) os2) := by
      show _ = _
      rw [sWB_drew, ← hx0, ← hx1]
      exact sWB_swp enc k HK.out w blk off (q2 + 1) dk os2 hblk kk (kk + 1) (by omega) (by omega)
     generalize sWB enc k w blk off q2 dk os2 = wq at hHd HSWP ⊢
     have l0 : Sem.run P (loadCellsFrom ⟨blk, off + kk * k, none⟩ 0 k #[]) wq.drew = .ok (enc x0).toArray wq.drew := by rw [← hx0]; exact run_loadCellsFrom_list P _ _ _ k (HK.out _) (HoldsK.cells hHd HK.out (by omega))
     have l1 : Sem.run P (loadCellsFrom ⟨blk, off + (kk + 1) * k, none⟩ 0 k #[]) wq.drew = .ok (enc x1).toArray wq.drew := by rw [← hx1]; exact run_loadCellsFrom_list P _ _ _ k (HK.out _) (HoldsK.cells hHd HK.out (by omega))
     have s1 : Sem.run P (storeCells ⟨blk, off + kk * k, none⟩ (enc x1) 0) wq.drew = .ok () (wq.drew.setCells blk (off + kk * k) (enc x1)) := stores_of_holds P hHd (kk * k) _ (by rw [HK.out, size_flatK]; exact bnd kk (by omega)) (H1.out _)
     have s2 : Sem.run P (storeCells ⟨blk, off + (kk + 1) * k, none⟩ (enc x0) 0) (wq.drew.setCells blk (off + kk * k) (enc x1)) = .ok () ((wq.drew.setCells blk (off + kk * k) (enc x1)).setCells blk (off + (kk + 1) * k) (enc x0)) :=
      stores_of_holds P (holds_setCells_c hHd (kk * k) _ (by rw [HK.out, size_flatK]; exact bnd kk (by omega))) ((kk + 1) * k) _ (by rw [HK.out, size_setMany, size_flatK]; exact bnd (kk + 1) (by omega)) (H1.out _)
     have hs0 : (enc x0).length = k := HK.out _
     have hs1 : (enc x1).length = k := HK.out _
     clear hHd bnd hx0 hx1
     obtain ⟨c0, hc0⟩ : ∃ c, enc x0 = c := ⟨_, rfl⟩
     obtain ⟨c1, hc1⟩ : ∃ c, enc x1 = c := ⟨_, rfl⟩
     rw [hc0] at l0 s2 hs0 HSWP
     rw [hc1] at l1 s1 s2 hs1 HSWP
     clear hc0 hc1
     go_wp2_with fail
     go_big_region_o
     all_goals go_wp2
     go_roundg (i - 1 - (kk + 1))
     case measure => omega
     case rel =>
      have hk2 := HKK.out
      exact ⟨t + 1, q2 + 1, os2, _, by rw [hk2]; go_num, by omega, by omega, by rw [size_swp]; exact hsk, HSWP.out, HNX⟩
    ·have hltz2 : ¬ (kk : Int) < (i : Int) - 1 := by omega
     go_wp2
     refine bodyPost_ret (results_none rfl _ _ _) rfl ?_
     have hk2 := HKK.out
     have q1 := HM.out.2.1
     obtain ⟨z1, z2⟩ := HI2.out
     have et : i - m = t := by omega
     rw [et] at z1 z2
     have hf := fin1 HSW.out HYs.out x t z1 z2
     exact ⟨rfl, q2, os2, dk, ⟨_, by rw [HT.out]; simp, hf.1, hf.2⟩, hsk, rfl⟩
end Go.Proofs.YtcdmgdegohcmhaaDoor.PA
namespace Go.Proofs.YtcdmgdegohcmhaaDoor.PA
open Go.RowKit Go.Proofs.YtcdmgdegohcmhaaDoorW.PrintWords Go.Proofs.YtcdmgdegohcmhaaDoorW.PrintLast Go.Proofs.YtcdmgdegohcmhaaDoorW.PrintMore
attribute [local go_sem] max2_int min2_int max_two min_two max_three min_three max_four min_four
set_option linter.unusedVariables false
set_option linter.unusedSimpArgs false
open Go Go.Shelf Go.Lib Go.Sort
def SymT (P : Program) {α : Type} [Inhabited α] (enc : α → List Value) (k : Nat) (cf : α → α → Int) (g : Nat) (cb : Array Value) (blk off cap N : Nat) : Prop :=
 ∀ (A X Y B : List α) (d : Array α) (w : World) (a m b : Nat), X.length + Y.length ≤ N → X ≠ [] → Y ≠ [] → CmpB P g cb enc k cf blk off d.size w → HoldsK enc k w blk off d → blk < w.heap.size → d.toList = A ++ (X ++ (Y ++ B)) → SortedL (ltOf cf) X → SortedL (ltOf cf) Y → a = A.length → m = A.length + X.length → b = A.length + X.length + Y.length → d.size < 1000000000000 →
  Calls P 105 #[.slice (some ⟨blk, off, none⟩) d.size cap, .int .i64 a, .int .i64 m, .int .i64 b, .func (.func g) #[] cb] w fun e w' =>
   e = .returned (.tuple #[]) ∧ ∃ q os dk, (∃ Z, dk.toList = A ++ (Z ++ B) ∧ StP (ltOf cf) (X ++ Y) Z ∧ SortedL (ltOf cf) Z) ∧ dk.size = d.size ∧ w' = sWB enc k w blk off q dk os
theorem sorted_one {α : Type} {lt : α → α → Bool} {X Y : List α} (h : X = [] ∨ Y = []) (hX : SortedL lt X) (hY : SortedL lt Y) : SortedL lt (X ++ Y) := by
 rcases h with rfl | rfl
 ·exact hY
 ·rw [List.append_nil]
  exact hX
theorem part_sorted {α : Type} {lt : α → α → Bool} {X : List α} (h : SortedL lt X) (s : Nat) : SortedL lt (X.take s) ∧ SortedL lt (X.drop s) := by
 have : SortedL lt (X.take s ++ X.drop s) := by rw [List.take_append_drop]; exact h
 rw [sorted_app] at this
 exact ⟨this.1, this.2.1⟩
def subC : Code → List Bool → Code
 | .seq a b, false :: l => subC a l
 | .seq a b, true :: l => subC b l
 | c, _ => c
set_option maxHeartbeats 8000000 in
set_option maxRecDepth 1000000 in
theorem sym_t41 {P : Program} (L : LS P) {α : Type} [Inhabited α] (enc : α → List Value) (k : Nat) (aE : ∀ w, (isAgg 35).run P w = .ok true w) (zE : ∀ w, (Go.sizeOf 35).run P w = .ok k w) (hk : ∀ x, (enc x).length = k) (h1 : ∀ x, ∀ v ∈ enc x, v.oneCell' = true)
  (cf : α → α → Int) (hS : SWO (ltOf cf)) (g : Nat) (cb : Array Value) (blk off cap N : Nat) (HIH : Aside0 (SymT P enc k cf g cb blk off cap N)) (A X Y B : List α) (d : Array α) (w : World) (a m b s e mid nn : Nat) (HM : Aside0 (a = A.length ∧ m = a + X.length ∧ b = m + Y.length ∧ X.length + Y.length ≤ N + 1)) (HXs : Aside0 (SortedL (ltOf cf) X)) (HYs : Aside0 (SortedL (ltOf cf) Y)) (HH : Hid (HoldsK enc k w blk off d)) (HC : Aside0 (CmpB P g cb enc k cf blk off d.size w)) (hblk : blk < w.heap.size) (hsz : d.size < 1000000000000) (hbd : b ≤ d.size) (hmb : m + 2 ≤ b) (hmid2 : mid < b) (hmid1 : a < mid) (hnn : (mid : Int) + (m : Int) = (nn : Int)) (has : a ≤ s) (hsm : s ≤ m) (hme : m ≤ e) (heb : e ≤ b) (HEE : Aside0 (e = nn - s))
  (HCUT : Aside0 (s - a ≤ X.length ∧ nn - s - m ≤ Y.length ∧ m + s ≤ nn ∧ a ≤ s ∧ s ≤ m ∧ nn - s ≤ b ∧ (∀ x ∈ X.drop (s - a), ∀ y ∈ Y.take (nn - s - m), ltOf cf y x = true) ∧ (∀ x ∈ X.take (s - a), ∀ y ∈ Y.drop (nn - s - m), ltOf cf y x = false)))
  (q2 : Nat) (os2 : Array Obj) (d2 : Array α) (HD2 : Hid (d2.size = d.size ∧ d2.toList = A ++ (X.take (s - a) ++ (Y.take (nn - s - m) ++ (X.drop (s - a) ++ (Y.drop (nn - s - m) ++ B)))))) (t5 t6 t7 t8 t9 t10 t11 t12 t13 t14 t15 t16 t17 t19 t21 t22 t23 t25 t26 t27 t28 t29 t30 t31 t32 t33 t34 t35 t36 t37 t38 t39 t40 t41 t42 t43 t44 t45 t46 t47 t48 t49 t50 t51 t52 t53 t54 t55 t56 t57 t58 t59 t60 t61 t62 t63 t64 t65 t66 t67 t68 t69 t70 t71 t72 t73 t74 t75 t76 t77 t78 t79 t80 t81 t82 t83 t84 t85 t86 t87 t88 t89 t90 t91 t92 t93 t94 t95 t96 t97 t98 t99 t100 t101 t102 t103 t104 t105 t106 t107 t108 t109 t110 t111 t112 t113 t114 t115 t116 t117 t118 t119 t120 t121 t122 t123 t124 t125 t126 t127 t128 t129 t130 t131 t132 t133 t134 t135 t136 t137 t138 t139 t140 t141 t142 t143 t144 t145 t146 t147 t148 t149 t150 t151 t152 t153 t154 t155 t156 t157 t158 t159 t160 t161 t162 t163 t164 t165 t166 t167 t168 t169 t170 t171 t172 t173 t174 t175 t176 t177 t178 t179 t180 t181 t182 t183 t184 t185 t186 t187 t188 t189 t190 t191 t192 t193 t194 t195 t196 t197 t198 t199 t200 t201 t202 t203 t204 t205 t206 t207 t208 t209 t210 t211 t212 t213 t214 t215 t216 t217 t218 t219 : Value)
  (cR cC cN : Code) (hcR : cR = subC (Tryd.f105.body.getD .skip) [true, true, true, true, true, true, true, true, true, true, false, false]) (hcC : cC = subC (Tryd.f105.body.getD .skip) [true, true, true, true, true, true, true, true, true, true, false, true]) (hcN : cN = subC (Tryd.f105.body.getD .skip) [true, true, true, true, true, true, true, true, true, true, true]) (K K1 : Act → World → Prop) (Q : Exit → Act → World → Prop) (hQ : Q = (bodyPost P Tryd.f105 fun e w' => e = .returned (.tuple #[]) ∧ ∃ q os dk, (∃ Z, dk.toList = A ++ (Z ++ B) ∧ StP (ltOf cf) (X ++ Y) Z ∧ SortedL (ltOf cf) Z) ∧ dk.size = d.size ∧ w' = sWB enc k w blk off q dk os)) (hK : ∀ a w, Code.wp P cC (Exit.then K1 Q) a w → K a w) (hK1 : ∀ a w, Code.wp P cN Q a w → K1 a w) :
  Code.wp P cR (Exit.then K (Exit.then K1 Q)) { tmps := #[.slice (some ⟨blk, off, none⟩) d.size cap, .int .i64 a, .int .i64 m, .int .i64 b, .func (.func g) #[] cb, t5, t6, t7, t8, t9, t10, t11, t12, t13, t14, t15, t16, t17, .int .i64 mid, t19, .int .i64 s, t21, t22, t23, .int .i64 e, t25, t26, t27, t28, t29, t30, t31, t32, t33, t34, t35, t36, t37, t38, t39, t40, t41, t42, t43, t44, t45, t46, t47, t48, t49, t50, t51, t52, t53, t54, t55, t56, t57, t58, t59, t60, t61, t62, t63, t64, t65, t66, t67, t68, t69, t70, t71, t72, t73, t74, t75, t76, t77, t78, t79, t80, t81, t82, t83, t84, t85, t86, t87, t88, t89, t90, t91, t92, t93, t94, t95, t96, t97, t98, t99, t100, t101, t102, t103, t104, t105, t106, t107, t108, t109, t110, t111, t112, t113, t114, t115, t116, t117, t118, t119, t120, t121, t122, t123, t124, t125, t126, t127, t128, t129, t130, t131, t132, t133, t134, t135, t136, t137, t138, t139, t140, t141, t142, t143, t144, t145, t146, t147, t148, t149, t150, t151, t152, t153, t154, t155, t156, t157, t158, t159, t160, t161, t162, t163, t164, t165, t166, t167, t168, t169, t170, t171, t172, t173, t174, t175, t176, t177, t178, t179, t180, t181, t182, t183, t184, t185, t186, t187, t188, t189, t190, t191, t192, t193, t194, t195, t196, t197, t198, t199, t200, t201, t202, t203, t204, t205, t206, t207, t208, t209, t210, t211, t212, t213, t214, t215, t216, t217, t218, t219], defers := [] } (sWB enc k w blk off q2 d2 os2) := by
 have mixed := L.mixed
 have t3 := L.t3; have a3 := L.a3; have z3 := L.z3; have v3 := L.v3; have t4 := L.t4; have a4 := L.a4; have z4 := L.z4; have v4 := L.v4; have t79 := L.t79; have a79 := L.a79; have z79 := L.z79; have v79 := L.v79; have t22 := L.t22; have a22 := L.a22; have z22 := L.z22; have v22 := L.v22
 have ero := L.e107
 have esy := L.e105
 have HSW := Aside0.mk hS
 rw [hcC] at hK
 rw [hcN] at hK1
 rw [hcR]
 dsimp only [subC, Tryd.f105, Option.getD_some] at hK hK1 ⊢
 subst hQ
 clear hcR hcC hcN hS hk h1
 have hHO2 : Hid (HoldsK enc k (sWB enc k w blk off q2 d2 os2) blk off d2) := sWB_holds enc k w blk off q2 d d2 os2 HH.out hblk HD2.out.1
 have hBK2 : Hid (blk < (sWB enc k w blk off q2 d2 os2).heap.size) := Nat.lt_of_lt_of_le hblk (sWB_size enc k w blk off q2 d2 os2)
 have hON2 : Hid (∀ q' dk' os', dk'.size = d.size → sWB enc k (sWB enc k w blk off q2 d2 os2) blk off q' dk' os' = sWB enc k w blk off q' dk' (os2 ++ os')) := fun q' dk' os' h => sWB_on enc k w blk off q2 q' d2 dk' os2 os' hblk (h.trans HD2.out.1.symm)
 have hCM2 : Hid (CmpB P g cb enc k cf blk off d.size (sWB enc k w blk off q2 d2 os2)) := CmpB.on HC.out hblk q2 d2 os2 HD2.out.1
 obtain ⟨w2, hw2⟩ : ∃ w2, sWB enc k w blk off q2 d2 os2 = w2 := ⟨_, rfl⟩
 have HW2 := Aside0.mk hw2
 rw [hw2] at hHO2 hBK2 hON2 hCM2 ⊢
 clear hw2
 go_cut [199] (fun v199 wd => v199 = .bool (decide (a < s) && decide (s < mid)) ∧ wd = w2)
 case first =>
  by_cases h1 : a < s
  ·have z1 : (a : Int) < (s : Int) := by omega
   by_cases h2 : s < mid
   ·have z2 : (s : Int) < (mid : Int) := by omega
    go_wp2_with fail
    go_meet
    case rel => exact ⟨by rw [decide_eq_true h1, decide_eq_true h2]; rfl, rfl⟩
   ·have z2 : ¬ (s : Int) < (mid : Int) := by omega
    go_wp2_with fail
    go_meet
    case rel => exact ⟨by rw [decide_eq_true h1, decide_eq_false h2]; rfl, rfl⟩
  ·have z1 : ¬ (a : Int) < (s : Int) := by omega
   go_wp2_with fail
   go_meet
   case rel => exact ⟨by rw [decide_eq_false h1]; rfl, rfl⟩
 case rest =>
  obtain ⟨rfl, rfl⟩ := hcut
  obtain ⟨w2, rfl⟩ : ∃ x, x = wc := ⟨_, rfl⟩
  obtain ⟨bb, hbb⟩ : ∃ bb, (decide (a < s) && decide (s < mid)) = bb := ⟨_, rfl⟩
  rw [hbb]
  have HBB := Aside0.mk hbb
  clear hbb
  go_upto_if 199 with fail
  go_cut [205] (fun v205 we => ∃ (q : Nat) (os : Array Obj) (d3 : Array α), we = sWB enc k w blk off q d3 os ∧ Hid (d3.size = d.size ∧ ∃ Z1, d3.toList = A ++ (Z1 ++ (X.drop (s - a) ++ (Y.drop (nn - s - m) ++ B))) ∧ StP (ltOf cf) (X.take (s - a) ++ Y.take (nn - s - m)) Z1 ∧ SortedL (ltOf cf) Z1))
  case first =>
   obtain ⟨qa, qx, qy, qN⟩ := HM.out
   obtain ⟨k1, k2, k3, k4, k5, k6, _⟩ := HCUT.out
   have hge := HEE.out
   have hl1 : (X.take (s - a)).length = s - a := by rw [List.length_take]; omega
   have hl2 : (Y.take (nn - s - m)).length = nn - s - m := by rw [List.length_take]; omega
   have hn2 : nn = mid + m := by omega
   cases bb with
   | false =>
    have hone : X.take (s - a) = [] ∨ Y.take (nn - s - m) = [] := by
     have := HBB.out
     by_cases h1 : a < s
     ·by_cases h2 : s < mid
      ·rw [decide_eq_true h1, decide_eq_true h2] at this
       exact absurd this (by decide)
      ·exact Or.inr (List.length_eq_zero_iff.1 (by omega))
     ·exact Or.inl (List.length_eq_zero_iff.1 (by omega))
    have HONE := Aside0.mk hone
    clear hl1 hl2 hone k1 k2 k3 k4 k5 k6 qa qx qy qN hge hn2
    go_wp2_with fail
    go_meet
    case rel => exact ⟨q2, os2, d2, HW2.out.symm, ⟨HD2.out.1, X.take (s - a) ++ Y.take (nn - s - m), by rw [HD2.out.2]; simp only [List.append_assoc], StP.refl _, sorted_one HONE.out (part_sorted HXs.out _).1 (part_sorted HYs.out _).1⟩⟩
   | true =>
    have hlt2 : a < s ∧ s < mid := by
     have := HBB.out
     rw [Bool.and_eq_true, decide_eq_true_eq, decide_eq_true_eq] at this
     exact this
    have hrec := HIH.out A (X.take (s - a)) (Y.take (nn - s - m)) (X.drop (s - a) ++ (Y.drop (nn - s - m) ++ B)) d2 w2 a s mid (by rw [hl1, hl2]; omega) (fun h => by rw [h] at hl1; simp at hl1; omega) (fun h => by rw [h] at hl2; simp at hl2; omega) (by rw [HD2.out.1]; exact hCM2.out) hHO2.out hBK2.out HD2.out.2 (part_sorted HXs.out _).1 (part_sorted HYs.out _).1 qa (by rw [hl1]; omega) (by rw [hl1, hl2]; omega) (by rw [HD2.out.1]; exact hsz)
    rw [HD2.out.1] at hrec
    clear hl1 hl2 k1 k2 k3 k4 k5 k6 qa qx qy qN hge hlt2 hn2
    go_wp2_with (go_at_call 105; refine hrec.mono ?_; rintro e9 w9 ⟨rfl, q9, os9, d9, hZ9, hs9, rfl⟩)
    go_meet
    case rel => exact ⟨q9, os2 ++ os9, d9, hON2.out _ _ _ hs9, ⟨hs9, hZ9⟩⟩
  case rest =>
   obtain ⟨q3, os3, d3, rfl, HD3⟩ := hcut
   obtain ⟨hs3, Z1, hl3, hst3, hso3⟩ := HD3.out
   have HT3 := Aside0.mk (And.intro hs3 (And.intro hl3 (And.intro hst3 hso3)))
   have hHO3 : Hid (HoldsK enc k (sWB enc k w blk off q3 d3 os3) blk off d3) := sWB_holds enc k w blk off q3 d d3 os3 HH.out hblk hs3
   have hBK3 : Hid (blk < (sWB enc k w blk off q3 d3 os3).heap.size) := Nat.lt_of_lt_of_le hblk (sWB_size enc k w blk off q3 d3 os3)
   have hON3 : Hid (∀ q' dk' os', dk'.size = d.size → sWB enc k (sWB enc k w blk off q3 d3 os3) blk off q' dk' os' = sWB enc k w blk off q' dk' (os3 ++ os')) := fun q' dk' os' h => sWB_on enc k w blk off q3 q' d3 dk' os3 os' hblk (h.trans HT3.out.1.symm)
   have hCM3 : Hid (CmpB P g cb enc k cf blk off d.size (sWB enc k w blk off q3 d3 os3)) := CmpB.on HC.out hblk q3 d3 os3 hs3
   have hfin : Aside0 (∀ Z2, StP (ltOf cf) (X.drop (s - a) ++ Y.drop (nn - s - m)) Z2 → SortedL (ltOf cf) Z2 → StP (ltOf cf) (X ++ Y) (Z1 ++ Z2) ∧ SortedL (ltOf cf) (Z1 ++ Z2)) := ⟨fun Z2 z1 z2 => part3 HSW.out HXs.out HYs.out (s - a) (nn - s - m) HCUT.out.2.2.2.2.2.2 ⟨HT3.out.2.2.1, HT3.out.2.2.2⟩ ⟨z1, z2⟩⟩
   obtain ⟨w3, hw3⟩ : ∃ w3, sWB enc k w blk off q3 d3 os3 = w3 := ⟨_, rfl⟩
   have HW3 := Aside0.mk hw3
   rw [hw3] at hHO3 hBK3 hON3 hCM3 ⊢
   clear hw3 HBB hHO2 hBK2 hON2 hCM2 HW2 HD2 hs3 hl3 hst3 hso3 HD3
   obtain ⟨qa, qx, qy, qN⟩ := HM.out
   obtain ⟨k1, k2, k3, k4, k5, k6, _⟩ := HCUT.out
   have hge := HEE.out
   have hl1 : (X.drop (s - a)).length = m - s := by rw [List.length_drop]; omega
   have hl2 : (Y.drop (nn - s - m)).length = b - e := by rw [List.length_drop]; omega
   have hl4 : Z1.length = mid - a := by rw [HT3.out.2.2.1.len, List.length_append, List.length_take, List.length_take]; omega
   by_cases h1 : mid < e
   ·have z1 : (mid : Int) < (e : Int) := by omega
    by_cases h2 : e < b
    ·have z2 : (e : Int) < (b : Int) := by omega
     have hrec := HIH.out (A ++ Z1) (X.drop (s - a)) (Y.drop (nn - s - m)) B d3 w3 mid e b (by rw [hl1, hl2]; omega) (fun h => by rw [h] at hl1; simp at hl1; omega) (fun h => by rw [h] at hl2; simp at hl2; omega) (by rw [HT3.out.1]; exact hCM3.out) hHO3.out hBK3.out (by rw [HT3.out.2.1]; simp only [List.append_assoc]) (part_sorted HXs.out _).2 (part_sorted HYs.out _).2 (by rw [List.length_append, hl4]; omega) (by rw [List.length_append, hl4, hl1]; omega) (by rw [List.length_append, hl4, hl1, hl2]; omega) (by rw [HT3.out.1]; exact hsz)
     rw [HT3.out.1] at hrec
     clear hl1 hl2 hl4 k1 k2 k3 k4 k5 k6 qa qx qy qN hge
     go_wp2_with (go_at_call 105; refine hrec.mono ?_; rintro e9 w9 ⟨rfl, q9, os9, d9, ⟨Z2, hZ9, hst9, hso9⟩, hs9, rfl⟩)
     go_end0
     have hf := hfin.out Z2 hst9 hso9
     exact ⟨rfl, q9, os3 ++ os9, d9, ⟨Z1 ++ Z2, by rw [hZ9]; simp only [List.append_assoc], hf.1, hf.2⟩, hs9, hON3.out _ _ _ hs9⟩
    ·have z2 : ¬ (e : Int) < (b : Int) := by omega
     have hemp : Y.drop (nn - s - m) = [] := List.length_eq_zero_iff.1 (by omega)
     have hf := Aside0.mk (hfin.out (X.drop (s - a) ++ Y.drop (nn - s - m)) (StP.refl _) (sorted_one (Or.inr hemp) (part_sorted HXs.out _).2 (part_sorted HYs.out _).2))
     clear hl1 hl2 hl4 k1 k2 k3 k4 k5 k6 qa qx qy qN hge hemp
     go_wp2_with fail
     go_end0
     exact ⟨rfl, q3, os3, d3, ⟨Z1 ++ (X.drop (s - a) ++ Y.drop (nn - s - m)), by rw [HT3.out.2.1]; simp only [List.append_assoc], hf.out.1, hf.out.2⟩, HT3.out.1, HW3.out.symm⟩
   ·have z1 : ¬ (mid : Int) < (e : Int) := by omega
    have hemp : X.drop (s - a) = [] := List.length_eq_zero_iff.1 (by omega)
    have hf := Aside0.mk (hfin.out (X.drop (s - a) ++ Y.drop (nn - s - m)) (StP.refl _) (sorted_one (Or.inl hemp) (part_sorted HXs.out _).2 (part_sorted HYs.out _).2))
    clear hl1 hl2 hl4 k1 k2 k3 k4 k5 k6 qa qx qy qN hge hemp
    go_wp2_with fail
    go_end0
    exact ⟨rfl, q3, os3, d3, ⟨Z1 ++ (X.drop (s - a) ++ Y.drop (nn - s - m)), by rw [HT3.out.2.1]; simp only [List.append_assoc], hf.out.1, hf.out.2⟩, HT3.out.1, HW3.out.symm⟩
set_option maxHeartbeats 8000000 in
set_option maxRecDepth 1000000 in
theorem sym_t39 {P : Program} (L : LS P) {α : Type} [Inhabited α] (enc : α → List Value) (k : Nat) (aE : ∀ w, (isAgg 35).run P w = .ok true w) (zE : ∀ w, (Go.sizeOf 35).run P w = .ok k w) (hk : ∀ x, (enc x).length = k) (h1 : ∀ x, ∀ v ∈ enc x, v.oneCell' = true)
  (cf : α → α → Int) (hS : SWO (ltOf cf)) (g : Nat) (cb : Array Value) (blk off cap N : Nat) (HIH : Aside0 (SymT P enc k cf g cb blk off cap N)) (A X Y B : List α) (d : Array α) (w : World) (a m b s e mid nn : Nat) (HM : Aside0 (a = A.length ∧ m = a + X.length ∧ b = m + Y.length ∧ X.length + Y.length ≤ N + 1)) (HXs : Aside0 (SortedL (ltOf cf) X)) (HYs : Aside0 (SortedL (ltOf cf) Y)) (HH : Hid (HoldsK enc k w blk off d)) (HC : Aside0 (CmpB P g cb enc k cf blk off d.size w)) (hblk : blk < w.heap.size) (hsz : d.size < 1000000000000) (hbd : b ≤ d.size) (hmb : m + 2 ≤ b) (hmid2 : mid < b) (hmid1 : a < mid) (hnn : (mid : Int) + (m : Int) = (nn : Int)) (has : a ≤ s) (hsm : s ≤ m) (hme : m ≤ e) (heb : e ≤ b) (HEE : Aside0 (e = nn - s))
  (HCUT : Aside0 (s - a ≤ X.length ∧ nn - s - m ≤ Y.length ∧ m + s ≤ nn ∧ a ≤ s ∧ s ≤ m ∧ nn - s ≤ b ∧ (∀ x ∈ X.drop (s - a), ∀ y ∈ Y.take (nn - s - m), ltOf cf y x = true) ∧ (∀ x ∈ X.take (s - a), ∀ y ∈ Y.drop (nn - s - m), ltOf cf y x = false)))
  (q : Nat) (os : Array Obj) (HD : Aside0 (d.toList = A ++ (X ++ (Y ++ B)))) (wq : World) (HST2 : Aside0 (wq = sWB enc k w blk off q d os)) (t5 t6 t7 t8 t9 t10 t11 t12 t13 t14 t15 t16 t17 t19 t21 t22 t23 t25 t26 t27 t28 t29 t30 t31 t32 t33 t34 t35 t36 t37 t38 t39 t40 t41 t42 t43 t44 t45 t46 t47 t48 t49 t50 t51 t52 t53 t54 t55 t56 t57 t58 t59 t60 t61 t62 t63 t64 t65 t66 t67 t68 t69 t70 t71 t72 t73 t74 t75 t76 t77 t78 t79 t80 t81 t82 t83 t84 t85 t86 t87 t88 t89 t90 t91 t92 t93 t94 t95 t96 t97 t98 t99 t100 t101 t102 t103 t104 t105 t106 t107 t108 t109 t110 t111 t112 t113 t114 t115 t116 t117 t118 t119 t120 t121 t122 t123 t124 t125 t126 t127 t128 t129 t130 t131 t132 t133 t134 t135 t136 t137 t138 t139 t140 t141 t142 t143 t144 t145 t146 t147 t148 t149 t150 t151 t152 t153 t154 t155 t156 t157 t158 t159 t160 t161 t162 t163 t164 t165 t166 t167 t168 t169 t170 t171 t172 t173 t174 t175 t176 t177 t178 t179 t180 t181 t182 t183 t184 t185 t186 t187 t188 t189 t190 t191 t192 t193 t194 t195 t196 t197 t198 t199 t200 t201 t202 t203 t204 t205 t206 t207 t208 t209 t210 t211 t212 t213 t214 t215 t216 t217 t218 t219 : Value)
  (cR cC cN : Code) (hcR : cR = subC (Tryd.f105.body.getD .skip) [true, true, true, true, true, true, true, true, true, false, false]) (hcC : cC = subC (Tryd.f105.body.getD .skip) [true, true, true, true, true, true, true, true, true, false, true]) (hcN : cN = subC (Tryd.f105.body.getD .skip) [true, true, true, true, true, true, true, true, true, true]) (K K1 : Act → World → Prop) (Q : Exit → Act → World → Prop) (hQ : Q = (bodyPost P Tryd.f105 fun e w' => e = .returned (.tuple #[]) ∧ ∃ q os dk, (∃ Z, dk.toList = A ++ (Z ++ B) ∧ StP (ltOf cf) (X ++ Y) Z ∧ SortedL (ltOf cf) Z) ∧ dk.size = d.size ∧ w' = sWB enc k w blk off q dk os)) (hK : ∀ a w, Code.wp P cC (Exit.then K1 Q) a w → K a w) (hK1 : ∀ a w, Code.wp P cN Q a w → K1 a w) :
  Code.wp P cR (Exit.then K (Exit.then K1 Q)) { tmps := #[.slice (some ⟨blk, off, none⟩) d.size cap, .int .i64 a, .int .i64 m, .int .i64 b, .func (.func g) #[] cb, t5, t6, t7, t8, t9, t10, t11, t12, t13, t14, t15, t16, t17, .int .i64 mid, t19, .int .i64 s, t21, t22, t23, .int .i64 e, t25, t26, t27, t28, t29, t30, t31, t32, t33, t34, t35, t36, t37, t38, t39, t40, t41, t42, t43, t44, t45, t46, t47, t48, t49, t50, t51, t52, t53, t54, t55, t56, t57, t58, t59, t60, t61, t62, t63, t64, t65, t66, t67, t68, t69, t70, t71, t72, t73, t74, t75, t76, t77, t78, t79, t80, t81, t82, t83, t84, t85, t86, t87, t88, t89, t90, t91, t92, t93, t94, t95, t96, t97, t98, t99, t100, t101, t102, t103, t104, t105, t106, t107, t108, t109, t110, t111, t112, t113, t114, t115, t116, t117, t118, t119, t120, t121, t122, t123, t124, t125, t126, t127, t128, t129, t130, t131, t132, t133, t134, t135, t136, t137, t138, t139, t140, t141, t142, t143, t144, t145, t146, t147, t148, t149, t150, t151, t152, t153, t154, t155, t156, t157, t158, t159, t160, t161, t162, t163, t164, t165, t166, t167, t168, t169, t170, t171, t172, t173, t174, t175, t176, t177, t178, t179, t180, t181, t182, t183, t184, t185, t186, t187, t188, t189, t190, t191, t192, t193, t194, t195, t196, t197, t198, t199, t200, t201, t202, t203, t204, t205, t206, t207, t208, t209, t210, t211, t212, t213, t214, t215, t216, t217, t218, t219], defers := [] } wq := by
 have hrot : ∀ (W : World) (A' X' Y' B' : List α) (dk : Array α) (a' m' b' : Nat), HoldsK enc k W blk off dk → blk < W.heap.size → dk.toList = A' ++ X' ++ Y' ++ B' → X' ≠ [] → Y' ≠ [] → a' = A'.length → m' = A'.length + X'.length → b' = A'.length + X'.length + Y'.length → dk.size = d.size → Calls P 107 #[.slice (some ⟨blk, off, none⟩) d.size cap, .int .i64 a', .int .i64 m', .int .i64 b', .func (.func g) #[] cb] W fun e w' => e = .returned (.tuple #[]) ∧ ∃ q os dk', dk'.toList = A' ++ Y' ++ X' ++ B' ∧ dk'.size = d.size ∧ w' = sWB enc k W blk off q dk' os := fun W A' X' Y' B' dk a' m' b' x1 x2 x3 x4 x5 x6 x7 x8 x9 => by
  have := rotate_call L enc k aE zE hk h1 (.func (.func g) #[] cb) blk off cap A' X' Y' B' dk W x1 x2 x3 x4 x5 a' m' b' x6 x7 x8 (by omega)
  rwa [x9] at this
 have HROT := Aside0.mk hrot
 clear hrot
 have HKL := Aside0.mk (And.intro hk h1)
 have mixed := L.mixed
 have t3 := L.t3; have a3 := L.a3; have z3 := L.z3; have v3 := L.v3; have t4 := L.t4; have a4 := L.a4; have z4 := L.z4; have v4 := L.v4; have t79 := L.t79; have a79 := L.a79; have z79 := L.z79; have v79 := L.v79; have t22 := L.t22; have a22 := L.a22; have z22 := L.z22; have v22 := L.v22
 have ero := L.e107
 have esy := L.e105
 have HSW := Aside0.mk hS
 rw [hcC] at hK
 rw [hcN] at hK1
 rw [hcR]
 dsimp only [subC, Tryd.f105, Option.getD_some] at hK hK1 ⊢
 subst hQ
 clear hcR hcC hcN hS hk h1
 go_cut [185] (fun v185 wd => v185 = .bool (decide (s < m) && decide (m < e)) ∧ wd = wq)
 case first =>
  by_cases h1 : s < m
  ·have z1 : (s : Int) < (m : Int) := by omega
   by_cases h2 : m < e
   ·have z2 : (m : Int) < (e : Int) := by omega
    go_wp2_with fail
    go_meet
    case rel => exact ⟨by rw [decide_eq_true h1, decide_eq_true h2]; rfl, rfl⟩
   ·have z2 : ¬ (m : Int) < (e : Int) := by omega
    go_wp2_with fail
    go_meet
    case rel => exact ⟨by rw [decide_eq_true h1, decide_eq_false h2]; rfl, rfl⟩
  ·have z1 : ¬ (s : Int) < (m : Int) := by omega
   go_wp2_with fail
   go_meet
   case rel => exact ⟨by rw [decide_eq_false h1]; rfl, rfl⟩
 case rest =>
  obtain ⟨rfl, rfl⟩ := hcut
  obtain ⟨wq, rfl⟩ : ∃ x, x = wc := ⟨_, rfl⟩
  obtain ⟨bb, hbb⟩ : ∃ bb, (decide (s < m) && decide (m < e)) = bb := ⟨_, rfl⟩
  rw [hbb]
  have HBB := Aside0.mk hbb
  clear hbb
  go_upto_if 185 with fail
  go_cut [191] (fun v191 wd => ∃ (q : Nat) (os : Array Obj) (d2 : Array α), wd = sWB enc k w blk off q d2 os ∧ Hid (d2.size = d.size ∧ d2.toList = A ++ (X.take (s - a) ++ (Y.take (nn - s - m) ++ (X.drop (s - a) ++ (Y.drop (nn - s - m) ++ B))))))
  case first =>
   obtain ⟨qa, qx, qy, _⟩ := HM.out
   obtain ⟨k1, k2, k3, k4, k5, k6, _⟩ := HCUT.out
   have hge := HEE.out
   have hXd := List.take_append_drop (s - a) X
   have hYd := List.take_append_drop (nn - s - m) Y
   have hl1 : (X.take (s - a)).length = s - a := by rw [List.length_take]; omega
   have hl2 : (Y.take (nn - s - m)).length = nn - s - m := by rw [List.length_take]; omega
   have hl3 : (X.drop (s - a)).length = X.length - (s - a) := List.length_drop
   cases bb with
   | false =>
    have hone : X.drop (s - a) = [] ∨ Y.take (nn - s - m) = [] := by
     have := HBB.out
     by_cases h1 : s < m
     ·by_cases h2 : m < e
      ·rw [decide_eq_true h1, decide_eq_true h2] at this
       exact absurd this (by decide)
      ·exact Or.inr (List.length_eq_zero_iff.1 (by omega))
     ·exact Or.inl (List.length_eq_zero_iff.1 (by omega))
    have HL : Hid (d.toList = A ++ (X.take (s - a) ++ (Y.take (nn - s - m) ++ (X.drop (s - a) ++ (Y.drop (nn - s - m) ++ B))))) := by
     show _ = _
     rw [HD.out]
     (conv => lhs; rw [← hXd, ← hYd])
     rcases hone with h | h <;> rw [h] <;> simp only [List.append_assoc, List.nil_append, List.append_nil]
    have HL2 := Aside0.mk HL
    clear HL hXd hYd hl1 hl2 hl3 hone k1 k2 k3 k4 k5 k6 qa qx qy hge
    go_wp2_with fail
    go_meet
    case rel => exact ⟨q, os, d, HST2.out, ⟨rfl, HL2.out⟩⟩
   | true =>
    have hlt2 : s < m ∧ m < e := by
     have := HBB.out
     rw [Bool.and_eq_true, decide_eq_true_eq, decide_eq_true_eq] at this
     exact this
    have hdd : d.toList = (A ++ X.take (s - a)) ++ X.drop (s - a) ++ Y.take (nn - s - m) ++ (Y.drop (nn - s - m) ++ B) := by
     rw [HD.out]
     (conv => lhs; rw [← hXd, ← hYd])
     simp only [List.append_assoc]
    have hrot2 := HROT.out wq (A ++ X.take (s - a)) (X.drop (s - a)) (Y.take (nn - s - m)) (Y.drop (nn - s - m) ++ B) d s m e (by rw [HST2.out]; exact sWB_holds enc k w blk off q d d _ HH.out hblk rfl) (by rw [HST2.out]; exact Nat.lt_of_lt_of_le hblk (sWB_size enc k w blk off q d os)) hdd (fun h => by rw [h] at hl3; simp at hl3; omega) (fun h => by rw [h] at hl2; simp at hl2; omega) (by rw [List.length_append, hl1]; omega) (by rw [List.length_append, hl1, hl3]; omega) (by rw [List.length_append, hl1, hl3, hl2]; omega) rfl
    clear hdd
    clear hXd hYd hl1 hl2 hl3 k1 k2 k3 k4 k5 k6 qa qx qy hge hlt2
    go_wp2_with (go_at_call 107; refine hrot2.mono ?_; rintro e9 w9 ⟨rfl, q9, os9, d9, hd9, hs9, rfl⟩)
    go_meet
    case rel => exact ⟨q9, os ++ os9, d9, by rw [HST2.out]; exact sWB_on enc k w blk off q q9 d d9 os os9 hblk hs9, ⟨hs9, by rw [hd9]; simp only [List.append_assoc]⟩⟩
  case rest =>
   obtain ⟨q2, os2, d2, rfl, HD2⟩ := hcut
   clear HST2 HBB
   go_upto_region 41 with fail
   exact sym_t41 L enc k aE zE HKL.out.1 HKL.out.2 cf HSW.out g cb blk off cap N HIH A X Y B d w a m b s e mid nn HM HXs HYs HH HC hblk hsz hbd hmb hmid2 hmid1 hnn has hsm hme heb HEE HCUT q2 os2 d2 HD2 _ _ _ _ _ _ _ _ _ _ _ _ _ _ _ _ _ _ _ _ _ _ _ _ _ _ _ _ _ _ _ _ _ _ _ _ _ _ _ _ _ _ _ _ _ _ _ _ _ _ _ _ _ _ _ _ _ _ _ _ _ _ _ _ _ _ _ _ _ _ _ _ _ _ _ _ _ _ _ _ _ _ _ _ _ _ _ _ _ _ _ _ _ _ _ _ _ _ _ _ _ _ _ _ _ _ _ _ _ _ _ _ _ _ _ _ _ _ _ _ _ _ _ _ _ _ _ _ _ _ _ _ _ _ _ _ _ _ _ _ _ _ _ _ _ _ _ _ _ _ _ _ _ _ _ _ _ _ _ _ _ _ _ _ _ _ _ _ _ _ _ _ _ _ _ _ _ _ _ _ _ _ _ _ _ _ _ _ _ _ _ _ _ _ _ _ _ _ _ _ _ _ _ _ _ _ _ _ _ _ _ _ _ _ _ (by kernel_rfl) (by kernel_rfl) (by kernel_rfl) _ _ _ rfl (by assumption) (by assumption)
set_option maxHeartbeats 8000000 in
set_option maxRecDepth 1000000 in
theorem sym3_call {P : Program} (L : LS P) {α : Type} [Inhabited α] (enc : α → List Value) (k : Nat) (aE : ∀ w, (isAgg 35).run P w = .ok true w) (zE : ∀ w, (Go.sizeOf 35).run P w = .ok k w) (hk : ∀ x, (enc x).length = k) (h1 : ∀ x, ∀ v ∈ enc x, v.oneCell' = true)
  (cf : α → α → Int) (hS : SWO (ltOf cf)) (g : Nat) (cb : Array Value) (eg : ∀ args w, (callFunc g args).run P w = .ok (.enter g args) w) (blk off cap N : Nat) (IH : SymT P enc k cf g cb blk off cap N) (A X Y B : List α) (d : Array α) (w : World) (a m b : Nat) (hN : X.length + Y.length ≤ N + 1) (hX2 : 2 ≤ X.length) (hY2 : 2 ≤ Y.length) (hcmp : CmpB P g cb enc k cf blk off d.size w) (hH : HoldsK enc k w blk off d) (hblk : blk < w.heap.size) (hd : d.toList = A ++ (X ++ (Y ++ B))) (hX : SortedL (ltOf cf) X) (hY : SortedL (ltOf cf) Y) (ha : a = A.length) (hm : m = A.length + X.length) (hb : b = A.length + X.length + Y.length) (hsz : d.size < 1000000000000) :
  Calls P 105 #[.slice (some ⟨blk, off, none⟩) d.size cap, .int .i64 a, .int .i64 m, .int .i64 b, .func (.func g) #[] cb] w fun e w' =>
   e = .returned (.tuple #[]) ∧ ∃ q os dk, (∃ Z, dk.toList = A ++ (Z ++ B) ∧ StP (ltOf cf) (X ++ Y) Z ∧ SortedL (ltOf cf) Z) ∧ dk.size = d.size ∧ w' = sWB enc k w blk off q dk os := by
 have mixed := L.mixed
 have t3 := L.t3; have a3 := L.a3; have z3 := L.z3; have v3 := L.v3; have t4 := L.t4; have a4 := L.a4; have z4 := L.z4; have v4 := L.v4; have t79 := L.t79; have a79 := L.a79; have z79 := L.z79; have v79 := L.v79; have t22 := L.t22; have a22 := L.a22; have z22 := L.z22; have v22 := L.v22
 have F := L.f105
 have ero := L.e107
 have esy := L.e105
 have hsl : d.size = A.length + (X.length + (Y.length + B.length)) := by
  rw [← Array.length_toList, hd]
  simp
 have hdx : ∀ t (h : t < X.length), d[a + t]! = X[t] := fun t h => by
  rw [ha, ← Array.getElem!_toList, hd]
  simp [h, List.getElem?_append]
  try rw [if_neg (by omega)]
  try rfl
 have hdy : ∀ t (h : t < Y.length), d[m + t]! = Y[t] := fun t h => by
  rw [hm, ← Array.getElem!_toList, hd, ← List.append_assoc, ← List.length_append]
  simp [h, List.getElem?_append]
  rw [show A.length + X.length + t - A.length - X.length = t by omega, if_pos h, List.getElem?_eq_getElem h, if_neg (by omega), if_neg (by omega)]
  rfl
 have HIH := Aside0.mk IH
 have HD := Aside0.mk hd
 have HDX := Aside0.mk hdx
 have HDY := Aside0.mk hdy
 have HXs := Aside0.mk hX
 have HYs := Aside0.mk hY
 have HSW := Aside0.mk hS
 have HST : Hid (w = sWB enc k w blk off w.drawn d #[]) := (sWB_start enc k w blk off d hH).symm
 have HH : Hid (HoldsK enc k w blk off d) := hH
 have HC := Aside0.mk hcmp
 have HK : Hid (∀ x, (enc x).length = k) := hk
 have H1 : Hid (∀ x, ∀ v ∈ enc x, v.oneCell' = true) := h1
 have hmx : m = a + X.length := by omega
 have hby : b = m + Y.length := by omega
 have hma : ((m : Int) - (a : Int) == 1) = false := beq_eq_false_iff_ne.mpr (by omega)
 have hmz : ((b : Int) - (m : Int) == 1) = false := beq_eq_false_iff_ne.mpr (by omega)
 have ham : a + 2 ≤ m := by omega
 have hmb : m + 2 ≤ b := by omega
 have hbd : b ≤ d.size := by omega
 have HM := Aside0.mk (And.intro ha (And.intro hmx (And.intro hby hN)))
 obtain ⟨mid, hmid⟩ : ∃ mid : Nat, ((a : Int) + (b : Int)) / 2 = (mid : Int) := ⟨(a + b) / 2, by omega⟩
 obtain ⟨nn, hnn⟩ : ∃ nn : Nat, (mid : Int) + (m : Int) = (nn : Int) := ⟨mid + m, by omega⟩
 obtain ⟨p, hp⟩ : ∃ p : Nat, (nn : Int) - 1 = (p : Int) := ⟨nn - 1, by omega⟩
 have hmid1 : a < mid := by omega
 have hmid2 : mid < b := by omega
 have hnn2 : nn < 1000000000000 + 1000000000000 := by omega
 have hRng : ∀ s0 r0 : Nat, ((mid < m ∧ s0 + b = nn ∧ r0 = mid) ∨ (m ≤ mid ∧ s0 = a ∧ r0 = m)) → s0 ≤ r0 ∧ a ≤ s0 ∧ r0 ≤ m ∧ ∀ c, s0 ≤ c → c < r0 → a ≤ c ∧ c < m ∧ m + c < nn ∧ nn - 1 - c < b := fun s0 r0 h => by
  refine ⟨by omega, by omega, by omega, fun c h1 h2 => by omega⟩
 have HRNG := Aside0.mk hRng
 clear hsl hdx hdy hd hX hY hX2 hY2 hS hH hcmp hk h1 ha hm hb hmx hby hN IH hRng
 go_enter F, Tryd.ntmps105
 go_upto_if 140 with fail
 (try rw [hma])
 (try rw [hmz])
 go_cut [20, 21] (fun v20 v21 wc => ∃ (s0 r0 : Nat), v20 = .int .i64 s0 ∧ v21 = .int .i64 r0 ∧ Aside0 ((mid < m ∧ s0 + b = nn ∧ r0 = mid) ∨ (m ≤ mid ∧ s0 = a ∧ r0 = m)) ∧ wc = w)
 case first =>
  by_cases hmm : mid < m
  ·obtain ⟨s0, hs0⟩ : ∃ s0 : Nat, (nn : Int) - (b : Int) = (s0 : Int) := ⟨nn - b, by omega⟩
   have hq : s0 + b = nn := by omega
   have hz : (mid : Int) < (m : Int) := by omega
   go_wp2_with fail
   go_meet
   case rel => exact ⟨s0, mid, rfl, rfl, ⟨Or.inl ⟨hmm, hq, rfl⟩⟩, rfl⟩
  ·have hz : ¬ (mid : Int) < (m : Int) := by omega
   go_wp2_with fail
   go_meet
   case rel => exact ⟨a, m, rfl, rfl, ⟨Or.inr ⟨by omega, rfl, rfl⟩⟩, rfl⟩
 case rest =>
  obtain ⟨s0, r0, rfl, rfl, HS0, rfl⟩ := hcut
  obtain ⟨w, rfl⟩ : ∃ x, x = wc := ⟨_, rfl⟩
  obtain ⟨hsr, has0, hr0m, _⟩ := HRNG.out s0 r0 HS0.out
  go_wp2_with fail
  go_loopg [20, 21] (r0 - s0) (fun gg vi vj wr => ∃ (s r q : Nat) (os : Array Obj), vi = .int .i64 s ∧ vj = .int .i64 r ∧ s0 ≤ s ∧ s ≤ r ∧ r ≤ r0 ∧ r - s ≤ gg ∧ wr = sWB enc k w blk off q d os ∧ Hid ((s = s0 ∨ ltOf cf d[nn - s]! d[s - 1]! = false) ∧ (r = r0 ∨ ltOf cf d[nn - 1 - r]! d[r]! = true)))
  case atStart => exact ⟨s0, r0, _, #[], rfl, rfl, Nat.le_refl _, hsr, Nat.le_refl _, Nat.le_refl _, HST.out, ⟨Or.inl rfl, Or.inl rfl⟩⟩
  case round =>
   obtain ⟨s, r, q, os, rfl, rfl, hs, hsr2, hr, hg, rfl, HI⟩ := hrel
   obtain ⟨wq, hwq⟩ : ∃ wq, sWB enc k w blk off q d os = wq := ⟨_, rfl⟩
   have HWQ := Aside0.mk hwq
   rw [hwq]
   by_cases hlt : s < r
   ·have hltz : (s : Int) < (r : Int) := by omega
    obtain ⟨h, hh⟩ : ∃ h : Nat, ((s : Int) + (r : Int)) / 2 = (h : Int) := ⟨(s + r) / 2, by omega⟩
    have hsh : s ≤ h := by omega
    have hhr : h < r := by omega
    obtain ⟨hR1, hR2, hR3, hR4⟩ := (HRNG.out s0 r0 HS0.out).2.2.2 h (by omega) (by omega)
    obtain ⟨e, he⟩ : ∃ e : Nat, (p : Int) - (h : Int) = (e : Int) := ⟨p - h, by omega⟩
    have hee : e = nn - 1 - h := by omega
    have hwe : IntKind.i64.wrap (e : Int) = (e : Int) := by rw [IntKind.wrap_i64]; omega
    have hez : (e : Int) < (d.size : Int) := by omega
    have hhz : (h : Int) < (d.size : Int) := by omega
    have hed : e < d.size := by omega
    have hhd : h < d.size := by omega
    obtain ⟨xh, hxh⟩ : ∃ z, d[h]! = z := ⟨_, rfl⟩
    obtain ⟨ye, hye⟩ : ∃ z, d[e]! = z := ⟨_, rfl⟩
    have HXY := Aside0.mk (And.intro hxh hye)
    have hHc : ∀ q' os', HoldsK enc k (grow (redrawn wq q') os') blk off d := fun q' os' => by
     rw [← HWQ.out, sWB_regrown]
     exact sWB_holds enc k w blk off q' d d _ HH.out hblk rfl
    have lh : ∀ q' os', Sem.run P (loadCellsFrom ⟨blk, off + h * k, none⟩ 0 k #[]) (grow (redrawn wq q') os') = .ok (enc xh).toArray (grow (redrawn wq q') os') := fun q' os' => by
     rw [← hxh]; exact run_loadCellsFrom_list P _ _ _ k (HK.out _) (HoldsK.cells (hHc q' os') HK.out hhd)
    have le : ∀ q' os', Sem.run P (loadCellsFrom ⟨blk, off + e * k, none⟩ 0 k #[]) (grow (redrawn wq q') os') = .ok (enc ye).toArray (grow (redrawn wq q') os') := fun q' os' => by
     rw [← hye]; exact run_loadCellsFrom_list P _ _ _ k (HK.out _) (HoldsK.cells (hHc q' os') HK.out hed)
    have hcg : ∀ q' os', Calls P g (#[.agg (enc ye).toArray, .agg (enc xh).toArray] ++ cb) (grow (redrawn wq q') os') fun e w' => e = .returned (.int .i64 (cf ye xh)) ∧ Below (grow (redrawn wq q') os').heap.size (grow (redrawn wq q') os') w' := fun q' os' => by
     rw [← HWQ.out, sWB_regrown]
     exact HC.out q' _ d rfl ye xh
    have HEE := Aside0.mk hee
    clear hHc hxh hye hwq hee
    by_cases hlv : ¬ cf ye xh < 0
    ·have HLV := Aside0.mk (show ltOf cf ye xh = false from decide_eq_false hlv)
     have hdl : decide (cf ye xh < 0) = false := decide_eq_false hlv
     go_wp2_with fail
     refine wp_region_quiet_below (by assumption) (by kernel_rfl) ?_
     repeat (quiet_step ((go_at_fn g; refine Calls.regrown_of (hcg _ _))))
     refine wpQuiet_nil ?_
     intro _ hw'
     obtain ⟨⟨dq, osq⟩, hw''⟩ := hw'
     subst hw''
     go_wp2_with fail
     go_roundg (r - (h + 1))
     case measure => omega
     case rel =>
      refine ⟨h + 1, r, dq, os ++ osq, by go_num, rfl, by omega, by omega, hr, Nat.le_refl _, by rw [← HWQ.out, sWB_regrown], ⟨Or.inr ?_, HI.out.2⟩⟩
      rw [show nn - (h + 1) = e by have := HEE.out; omega, Nat.add_sub_cancel, HXY.out.1, HXY.out.2]
      exact HLV.out
    ·have hlv2 : cf ye xh < 0 := Classical.not_not.1 hlv
     have HLV := Aside0.mk (show ltOf cf ye xh = true from decide_eq_true hlv2)
     have hdl : decide (cf ye xh < 0) = true := decide_eq_true hlv2
     go_wp2_with fail
     refine wp_region_quiet_below (by assumption) (by kernel_rfl) ?_
     repeat (quiet_step ((go_at_fn g; refine Calls.regrown_of (hcg _ _))))
     refine wpQuiet_nil ?_
     intro _ hw'
     obtain ⟨⟨dq, osq⟩, hw''⟩ := hw'
     subst hw''
     go_wp2_with fail
     go_roundg (h - s)
     case measure => omega
     case rel =>
      refine ⟨s, h, dq, os ++ osq, rfl, rfl, hs, hsh, by omega, Nat.le_refl _, by rw [← HWQ.out, sWB_regrown], ⟨HI.out.1, Or.inr ?_⟩⟩
      rw [← HEE.out, HXY.out.1, HXY.out.2]
      exact HLV.out
   ·have hltz : ¬ (s : Int) < (r : Int) := by omega
    obtain rfl : s = r := by omega
    have HCUT : Aside0 (s - a ≤ X.length ∧ nn - s - m ≤ Y.length ∧ m + s ≤ nn ∧ a ≤ s ∧ s ≤ m ∧ nn - s ≤ b ∧ (∀ x ∈ X.drop (s - a), ∀ y ∈ Y.take (nn - s - m), ltOf cf y x = true) ∧ (∀ x ∈ X.take (s - a), ∀ y ∈ Y.drop (nn - s - m), ltOf cf y x = false)) := by
     obtain ⟨qa, qx, qy, _⟩ := HM.out
     have h0 := HS0.out
     have hsX : s - a ≤ X.length := by omega
     have htY : nn - s - m ≤ Y.length := by omega
     have hms : m + s ≤ nn := by omega
     refine ⟨⟨hsX, htY, hms, by omega, by omega, by omega, cut3 HSW.out HXs.out HYs.out (s - a) (nn - s - m) hsX htY ?_ ?_⟩⟩
     ·rcases HI.out.1 with e | e
      ·rcases h0 with ⟨h1, h2, h3⟩ | ⟨h1, h2, h3⟩
       ·exact Or.inr (Or.inl (by omega))
       ·exact Or.inl (by omega)
      ·by_cases z1 : s - a = 0
       ·exact Or.inl z1
       ·by_cases z2 : nn - s - m = Y.length
        ·exact Or.inr (Or.inl z2)
        ·refine Or.inr (Or.inr ⟨by omega, by omega, ?_⟩)
         rw [← HDX.out (s - a - 1) (by omega), ← HDY.out (nn - s - m) (by omega), show a + (s - a - 1) = s - 1 by omega, show m + (nn - s - m) = nn - s by omega]
         exact e
     ·rcases HI.out.2 with e | e
      ·rcases h0 with ⟨h1, h2, h3⟩ | ⟨h1, h2, h3⟩
       ·exact Or.inr (Or.inl (by omega))
       ·exact Or.inl (by omega)
      ·by_cases z1 : s - a = X.length
       ·exact Or.inl z1
       ·by_cases z2 : nn - s - m = 0
        ·exact Or.inr (Or.inl z2)
        ·refine Or.inr (Or.inr ⟨by omega, by omega, ?_⟩)
         rw [← HDX.out (s - a) (by omega), ← HDY.out (nn - s - m - 1) (by omega), show a + (s - a) = s by omega, show m + (nn - s - m - 1) = nn - 1 - s by omega]
         exact e
    have hst0 : wq = sWB enc k w blk off q d os := HWQ.out.symm
    have HST2 := Aside0.mk hst0
    obtain ⟨hsX, htY, hms, has, hsm, hnsb, _⟩ := HCUT.out
    obtain ⟨e, hez⟩ : ∃ e : Nat, (nn : Int) - (s : Int) = (e : Int) := ⟨nn - s, by omega⟩
    have hee : e = nn - s := by omega
    have hme : m ≤ e := by omega
    have heb : e ≤ b := by omega
    have HEE := Aside0.mk hee
    clear hst0 hwq HWQ HI HS0 HRNG hee hsX htY hms hnsb
    go_upto_region 39 with fail
    exact sym_t39 L enc k aE zE HK.out H1.out cf HSW.out g cb blk off cap N HIH A X Y B d w a m b s e mid nn HM HXs HYs HH HC hblk hsz hbd hmb hmid2 hmid1 hnn has hsm hme heb HEE HCUT q os HD wq HST2 _ _ _ _ _ _ _ _ _ _ _ _ _ _ _ _ _ _ _ _ _ _ _ _ _ _ _ _ _ _ _ _ _ _ _ _ _ _ _ _ _ _ _ _ _ _ _ _ _ _ _ _ _ _ _ _ _ _ _ _ _ _ _ _ _ _ _ _ _ _ _ _ _ _ _ _ _ _ _ _ _ _ _ _ _ _ _ _ _ _ _ _ _ _ _ _ _ _ _ _ _ _ _ _ _ _ _ _ _ _ _ _ _ _ _ _ _ _ _ _ _ _ _ _ _ _ _ _ _ _ _ _ _ _ _ _ _ _ _ _ _ _ _ _ _ _ _ _ _ _ _ _ _ _ _ _ _ _ _ _ _ _ _ _ _ _ _ _ _ _ _ _ _ _ _ _ _ _ _ _ _ _ _ _ _ _ _ _ _ _ _ _ _ _ _ _ _ _ _ _ _ _ _ _ _ _ _ _ _ _ _ _ _ _ _ (by kernel_rfl) (by kernel_rfl) (by kernel_rfl) _ _ _ rfl (by assumption) (by assumption)
theorem symMerge_call {P : Program} (L : LS P) {α : Type} [Inhabited α] (enc : α → List Value) (k : Nat) (aE : ∀ w, (isAgg 35).run P w = .ok true w) (zE : ∀ w, (Go.sizeOf 35).run P w = .ok k w) (hk : ∀ x, (enc x).length = k) (h1 : ∀ x, ∀ v ∈ enc x, v.oneCell' = true)
  (cf : α → α → Int) (hS : SWO (ltOf cf)) (g : Nat) (cb : Array Value) (eg : ∀ args w, (callFunc g args).run P w = .ok (.enter g args) w) (blk off cap : Nat) : ∀ N, SymT P enc k cf g cb blk off cap N := by
 intro N
 induction N with
 | zero =>
  intro A X Y B d w a m b hN hX0 hY0
  have := List.length_pos_iff.2 hX0
  omega
 | succ N ih =>
  intro A X Y B d w a m b hN hX0 hY0 hcmp hH hblk hd hX hY ha hm hb hsz
  have p1 := List.length_pos_iff.2 hX0
  have p2 := List.length_pos_iff.2 hY0
  by_cases e1 : X.length = 1
  ·obtain ⟨x, rfl⟩ := List.length_eq_one_iff.1 e1
   exact sym1_call L enc k aE zE hk h1 cf hS g cb eg blk off cap A x Y B d w hcmp hH hblk (by rw [hd]; rfl) hY a m b ha (by rw [hm, e1]) (by rw [hb, e1]) hsz
  ·by_cases e2 : Y.length = 1
   ·obtain ⟨y, rfl⟩ := List.length_eq_one_iff.1 e2
    exact sym2_call L enc k aE zE hk h1 cf hS g cb eg blk off cap A X y B d w hcmp hH hblk (by rw [hd]; rfl) hX e1 a m b ha hm (by rw [hb, e2]) hsz
   ·exact sym3_call L enc k aE zE hk h1 cf hS g cb eg blk off cap N ih A X Y B d w a m b hN (by omega) (by omega) hcmp hH hblk hd hX hY ha hm hb hsz
end Go.Proofs.YtcdmgdegohcmhaaDoor.PA
namespace Go.Proofs.YtcdmgdegohcmhaaDoor.PA
open Go.RowKit Go.Proofs.YtcdmgdegohcmhaaDoorW.PrintWords Go.Proofs.YtcdmgdegohcmhaaDoorW.PrintLast Go.Proofs.YtcdmgdegohcmhaaDoorW.PrintMore
attribute [local go_sem] max2_int min2_int max_two min_two max_three min_three max_four min_four
set_option linter.unusedVariables false
set_option linter.unusedSimpArgs false
open Go Go.Shelf Go.Lib Go.Sort
inductive Blk {α : Type} (lt : α → α → Bool) (bs : Nat) : List α → Prop
 | last (Z : List α) : Z.length ≤ bs → SortedL lt Z → Blk lt bs Z
 | more (Z L : List α) : Z.length = bs → SortedL lt Z → Blk lt bs L → Blk lt bs (Z ++ L)
inductive Full {α : Type} (lt : α → α → Bool) (bs : Nat) : List α → Prop
 | none : Full lt bs []
 | more (P Z : List α) : Full lt bs P → Z.length = bs → SortedL lt Z → Full lt bs (P ++ Z)
theorem Full.blk {α : Type} {lt : α → α → Bool} {bs : Nat} {P : List α} (h : Full lt bs P) : ∀ R, Blk lt bs R → Blk lt bs (P ++ R) := by
 induction h with
 | none => intro R hR; exact hR
 | more P Z _ h1 h2 ih =>
  intro R hR
  rw [List.append_assoc]
  exact ih _ (Blk.more Z R h1 h2 hR)
theorem Blk.small {α : Type} {lt : α → α → Bool} {bs : Nat} {R : List α} (h : Blk lt bs R) : R.length ≤ bs → SortedL lt R := by
 induction h with
 | last Z h1 h2 => intro _; exact h2
 | more Z L h1 h2 _ _ =>
  intro h
  rw [List.length_append] at h
  rw [List.length_eq_zero_iff.1 (show L.length = 0 by omega), List.append_nil]
  exact h2
theorem Blk.one {α : Type} {lt : α → α → Bool} {bs : Nat} {R : List α} (h : Blk lt bs R) (h1 : bs < R.length) : ∃ Z L, R = Z ++ L ∧ Z.length = bs ∧ SortedL lt Z ∧ Blk lt bs L := by
 cases h with
 | last Z h2 _ => exact absurd h2 (by omega)
 | more Z L h2 h3 h4 => exact ⟨Z, L, rfl, h2, h3, h4⟩
theorem Blk.two {α : Type} {lt : α → α → Bool} {bs : Nat} {R : List α} (hb : 0 < bs) (h : Blk lt bs R) (h1 : 2 * bs ≤ R.length) : ∃ Z1 Z2 L, R = Z1 ++ (Z2 ++ L) ∧ Z1.length = bs ∧ Z2.length = bs ∧ SortedL lt Z1 ∧ SortedL lt Z2 ∧ Blk lt bs L := by
 obtain ⟨Z, L, rfl, h2, h3, h4⟩ := h.one (by omega)
 rw [List.length_append] at h1
 by_cases e : L.length = bs
 ·exact ⟨Z, L, [], by simp, h2, e, h3, h4.small (by omega), Blk.last [] (by simp) List.Pairwise.nil⟩
 ·obtain ⟨Z2, L2, rfl, h5, h6, h7⟩ := h4.one (by omega)
  exact ⟨Z, Z2, L2, rfl, h2, h5, h3, h6, h7⟩
set_option maxHeartbeats 8000000 in
set_option maxRecDepth 1000000 in
theorem stable_call {P : Program} (L : LS P) {α : Type} [Inhabited α] (enc : α → List Value) (k : Nat) (aE : ∀ w, (isAgg 35).run P w = .ok true w) (zE : ∀ w, (Go.sizeOf 35).run P w = .ok k w) (hk : ∀ x, (enc x).length = k) (h1 : ∀ x, ∀ v ∈ enc x, v.oneCell' = true)
  (cf : α → α → Int) (hS : SWO (ltOf cf)) (g : Nat) (cb : Array Value) (eg : ∀ args w, (callFunc g args).run P w = .ok (.enter g args) w) (blk off cap : Nat) (d : Array α) (w : World) (hcmp : CmpB P g cb enc k cf blk off d.size w) (hH : HoldsK enc k w blk off d) (hblk : blk < w.heap.size) (n : Nat) (hn : n = d.size) (hsz : d.size < 1000000000000) :
  Calls P 100 #[.slice (some ⟨blk, off, none⟩) d.size cap, .int .i64 n, .func (.func g) #[] cb] w fun e w' =>
   e = .returned (.tuple #[]) ∧ ∃ q os dk, StP (ltOf cf) d.toList dk.toList ∧ SortedL (ltOf cf) dk.toList ∧ dk.size = d.size ∧ w' = sWB enc k w blk off q dk os := by
 have mixed := L.mixed
 have t3 := L.t3; have a3 := L.a3; have z3 := L.z3; have v3 := L.v3; have t4 := L.t4; have a4 := L.a4; have z4 := L.z4; have v4 := L.v4; have t79 := L.t79; have a79 := L.a79; have z79 := L.z79; have v79 := L.v79; have t22 := L.t22; have a22 := L.a22; have z22 := L.z22; have v22 := L.v22
 have F := L.f100
 have eins := L.e104
 have esy := L.e105
 have HST : Hid (w = sWB enc k w blk off w.drawn d #[]) := (sWB_start enc k w blk off d hH).symm
 have HN := Aside0.mk hn
 have hin : Aside0 (∀ (q : Nat) (os : Array Obj) (dk : Array α) (A X B : List α) (a b : Nat), dk.size = d.size → dk.toList = A ++ (X ++ B) → a = A.length → b = A.length + X.length → Calls P 104 #[.slice (some ⟨blk, off, none⟩) d.size cap, .int .i64 a, .int .i64 b, .func (.func g) #[] cb] (sWB enc k w blk off q dk os) fun e w' => e = .returned (.tuple #[]) ∧ ∃ q' os' dk', (∃ Z, dk'.toList = A ++ (Z ++ B) ∧ StP (ltOf cf) X Z ∧ SortedL (ltOf cf) Z) ∧ dk'.size = d.size ∧ w' = sWB enc k w blk off q' dk' os') := ⟨fun q os dk A X B a b x1 x2 x3 x4 => by
  have h := ins_call L enc k aE zE hk h1 cf hS g cb eg blk off cap A X B dk (sWB enc k w blk off q dk os) (by rw [x1]; exact CmpB.on hcmp hblk q dk os x1) (sWB_holds enc k w blk off q d dk os hH hblk x1) (Nat.lt_of_lt_of_le hblk (sWB_size enc k w blk off q dk os)) x2 a b x3 x4 (by omega)
  rw [x1] at h
  refine h.mono ?_
  rintro e w' ⟨he, q', os', dk', hz, hs, rfl⟩
  exact ⟨he, q', _, dk', hz, hs, sWB_on enc k w blk off q q' dk dk' os os' hblk (hs.trans x1.symm)⟩⟩
 have hme : Aside0 (∀ (q : Nat) (os : Array Obj) (dk : Array α) (A X Y B : List α) (a m b : Nat), dk.size = d.size → dk.toList = A ++ (X ++ (Y ++ B)) → X ≠ [] → Y ≠ [] → SortedL (ltOf cf) X → SortedL (ltOf cf) Y → a = A.length → m = A.length + X.length → b = A.length + X.length + Y.length → Calls P 105 #[.slice (some ⟨blk, off, none⟩) d.size cap, .int .i64 a, .int .i64 m, .int .i64 b, .func (.func g) #[] cb] (sWB enc k w blk off q dk os) fun e w' => e = .returned (.tuple #[]) ∧ ∃ q' os' dk', (∃ Z, dk'.toList = A ++ (Z ++ B) ∧ StP (ltOf cf) (X ++ Y) Z ∧ SortedL (ltOf cf) Z) ∧ dk'.size = d.size ∧ w' = sWB enc k w blk off q' dk' os') := ⟨fun q os dk A X Y B a m b x1 x2 x3 x4 x5 x6 x7 x8 x9 => by
  have h := symMerge_call L enc k aE zE hk h1 cf hS g cb eg blk off cap (X.length + Y.length) A X Y B dk (sWB enc k w blk off q dk os) a m b (Nat.le_refl _) x3 x4 (by rw [x1]; exact CmpB.on hcmp hblk q dk os x1) (sWB_holds enc k w blk off q d dk os hH hblk x1) (Nat.lt_of_lt_of_le hblk (sWB_size enc k w blk off q dk os)) x2 x5 x6 x7 x8 x9 (by omega)
  rw [x1] at h
  refine h.mono ?_
  rintro e w' ⟨he, q', os', dk', hz, hs, rfl⟩
  exact ⟨he, q', _, dk', hz, hs, sWB_on enc k w blk off q q' dk dk' os os' hblk (hs.trans x1.symm)⟩⟩
 have hnz : n < 1000000000000 := by omega
 have HSZ : Aside0 (d.toList.length = n) := ⟨by rw [Array.length_toList, hn]⟩
 clear hcmp hH hk h1 hn hS eg
 go_enter F, Tryd.ntmps100
 go_wp2
 go_loopg [7, 8] n (fun gg v7 v8 wr => ∃ (a b q : Nat) (os : Array Obj) (dk : Array α), v7 = .int .i64 a ∧ v8 = .int .i64 b ∧ a < b ∧ a ≤ n ∧ n - a ≤ gg ∧ wr = sWB enc k w blk off q dk os ∧ Hid (b = a + 20 ∧ dk.size = d.size ∧ ∃ Pp, dk.toList = Pp ++ d.toList.drop a ∧ Pp.length = a ∧ StP (ltOf cf) (d.toList.take a) Pp ∧ Full (ltOf cf) 20 Pp))
 case atStart => exact ⟨0, 20, _, #[], d, rfl, rfl, by omega, by omega, by omega, HST.out, ⟨rfl, rfl, [], by simp, rfl, by simp; exact StP.refl _, Full.none⟩⟩
 case round =>
  obtain ⟨a, b, q, os, dk, rfl, rfl, hab, han, hg, rfl, HP⟩ := hrel
  by_cases hbn : b ≤ n
  ·have hz : (b : Int) ≤ (n : Int) := by omega
   obtain ⟨q1, q2, Pp0, q3, q4, q5, q6⟩ := HP.out
   have hs := HSZ.out
   have hc := hin.out q os dk Pp0 ((d.toList.drop a).take 20) ((d.toList.drop a).drop 20) a b q2 (by rw [q3, List.take_append_drop]) q4.symm (by rw [List.length_take, List.length_drop]; omega)
   have HQ5 := Aside0.mk (And.intro q1 (And.intro q2 (And.intro q3 (And.intro q4 (And.intro q5 q6)))))
   clear q1 q2 q3 q4 q5 q6 hs
   go_wp2_with (go_at_call 104; refine hc.mono ?_; rintro e9 w9 ⟨rfl, q9, os9, d9, hZ9, hs9, rfl⟩)
   go_roundg (n - b)
   case measure => omega
   case rel =>
    obtain ⟨q1, q2, q3, q4, q5, q6⟩ := HQ5.out
    obtain ⟨Z, z1, z2, z3⟩ := hZ9
    have hs := HSZ.out
    have hlz : Z.length = 20 := by rw [z2.len, List.length_take, List.length_drop]; omega
    refine ⟨b, b + 20, q9, os9, d9, rfl, by go_num, by omega, hbn, Nat.le_refl _, rfl, ⟨rfl, hs9, Pp0 ++ Z, ?_, by rw [List.length_append]; omega, ?_, Full.more Pp0 Z q6 hlz z3⟩⟩
    ·rw [z1, List.drop_drop, ← q1, List.append_assoc]
    ·rw [q1, List.take_add]
     exact q5.app z2
  ·have hz : ¬ (b : Int) ≤ (n : Int) := by omega
   obtain ⟨q1, q2, Pp0, q3, q4, q5, q6⟩ := HP.out
   have hs := HSZ.out
   have hc := hin.out q os dk Pp0 (d.toList.drop a) [] a n q2 (by rw [q3, List.append_nil]) q4.symm (by rw [List.length_drop]; omega)
   have HQ5 := Aside0.mk (And.intro q1 (And.intro q2 (And.intro q3 (And.intro q4 (And.intro q5 q6)))))
   clear q1 q2 q3 q4 q5 q6 hs
   go_wp2_with (go_at_call 104; refine hc.mono ?_; rintro e9 w9 ⟨rfl, q9, os9, d9, hZ9, hs9, rfl⟩)
   have hst : Hid (d9.size = d.size ∧ StP (ltOf cf) d.toList d9.toList ∧ Blk (ltOf cf) 20 d9.toList) := by
    obtain ⟨q1, q2, q3, q4, q5, q6⟩ := HQ5.out
    obtain ⟨Z, z1, z2, z3⟩ := hZ9
    have hs := HSZ.out
    refine ⟨hs9, ?_, ?_⟩
    ·rw [z1, List.append_nil]
     have := q5.app z2
     rwa [List.take_append_drop] at this
    ·rw [z1, List.append_nil]
     exact q6.blk Z (Blk.last Z (by rw [z2.len, List.length_drop]; omega) z3)
   clear hZ9 HP hin hc
   go_loopg [6, 7, 8, 9] n (fun gg v6 v7 v8 v9 wr => ∃ (bs q : Nat) (os : Array Obj) (dk : Array α), v6 = .int .i64 bs ∧ 0 < bs ∧ bs < 10000000000000 ∧ n - bs ≤ gg ∧ wr = sWB enc k w blk off q dk os ∧ Hid (dk.size = d.size ∧ StP (ltOf cf) d.toList dk.toList ∧ Blk (ltOf cf) bs dk.toList))
   case atStart => exact ⟨20, q9, os9, d9, rfl, by omega, by omega, by omega, rfl, hst⟩
   case round =>
    obtain ⟨bs, q2, os2, dk2, rfl, hbs0, hbs1, hg2, rfl, HB⟩ := hrel
    by_cases hbn2 : bs < n
    ·have hz2 : (bs : Int) < (n : Int) := by omega
     go_wp2_with fail
     go_loopg [7, 8] n (fun gg v7 v8 wr => ∃ (a b q : Nat) (os : Array Obj) (dk : Array α), v7 = .int .i64 a ∧ v8 = .int .i64 b ∧ a + bs < b ∧ a ≤ n ∧ n - a ≤ gg ∧ wr = sWB enc k w blk off q dk os ∧ Hid (b = a + 2 * bs ∧ dk.size = d.size ∧ StP (ltOf cf) d.toList dk.toList ∧ ∃ Pp Rr, dk.toList = Pp ++ Rr ∧ Pp.length = a ∧ Full (ltOf cf) (2 * bs) Pp ∧ Blk (ltOf cf) bs Rr))
     case atStart => exact ⟨0, 2 * bs, q2, os2, dk2, rfl, by go_num, by omega, by omega, by omega, rfl, ⟨by omega, HB.out.1, HB.out.2.1, [], _, rfl, rfl, Full.none, HB.out.2.2⟩⟩
     case round =>
      obtain ⟨a, b, q3, os3, dk, rfl, rfl, hab3, han3, hg3, rfl, HQ⟩ := hrel
      by_cases hbn3 : b ≤ n
      ·have hz3 : (b : Int) ≤ (n : Int) := by omega
       have hsp : Aside0 (∃ Pp Z1 Z2 Rr, dk.toList = Pp ++ (Z1 ++ (Z2 ++ Rr)) ∧ Pp.length = a ∧ Full (ltOf cf) (2 * bs) Pp ∧ Z1.length = bs ∧ Z2.length = bs ∧ SortedL (ltOf cf) Z1 ∧ SortedL (ltOf cf) Z2 ∧ Blk (ltOf cf) bs Rr) := by
        obtain ⟨u1, u2, u3, Pp, Rr, u4, u5, u6, u7⟩ := HQ.out
        have hs := HSZ.out
        have hl : Pp.length + Rr.length = n := by rw [← List.length_append, ← u4, Array.length_toList, u2, ← HN.out]
        obtain ⟨Z1, Z2, L2, rfl, y1, y2, y3, y4, y5⟩ := u7.two hbs0 (by omega)
        exact ⟨Pp, Z1, Z2, L2, u4, u5, u6, y1, y2, y3, y4, y5⟩
       obtain ⟨Pp, Z1, Z2, Rr, y0, y1, y2, y3, y4, y5, y6, y7⟩ := hsp.out
       obtain ⟨mm, hmm⟩ : ∃ mm : Nat, (a : Int) + (bs : Int) = (mm : Int) := ⟨a + bs, by omega⟩
       have hc := hme.out q3 os3 dk Pp Z1 Z2 Rr a mm b HQ.out.2.1 y0 (fun h => by rw [h] at y3; simp at y3; omega) (fun h => by rw [h] at y4; simp at y4; omega) y5 y6 y1.symm (by omega) (by have := HQ.out.1; omega)
       have HY := Aside0.mk (And.intro y0 (And.intro y1 (And.intro y2 (And.intro y3 (And.intro y4 y7)))))
       clear y0 y1 y2 y3 y4 y5 y6 y7 hsp
       go_wp2_with (go_at_call 105; refine hc.mono ?_; rintro e8 w8 ⟨rfl, q8, os8, d8, hZ8, hs8, rfl⟩)
       go_roundg (n - b)
       case measure => omega
       case rel =>
        obtain ⟨u1, u2, u3, _⟩ := HQ.out
        obtain ⟨y0, y1, y2, y3, y4, y7⟩ := HY.out
        obtain ⟨Z, z1, z2, z3⟩ := hZ8
        have hlz : Z.length = 2 * bs := by rw [z2.len, List.length_append]; omega
        refine ⟨b, b + 2 * bs, q8, os8, d8, rfl, by go_num, by omega, hbn3, Nat.le_refl _, rfl, ⟨rfl, hs8, ?_, Pp ++ Z, Rr, by rw [z1, List.append_assoc], by rw [List.length_append]; omega, Full.more Pp Z y2 hlz z3, y7⟩⟩
        refine u3.trans ?_
        rw [y0, z1, ← List.append_assoc Z1]
        exact (StP.refl _).app (z2.app (StP.refl _))
      ·have hz3 : ¬ (b : Int) ≤ (n : Int) := by omega
       obtain ⟨mm, hmm⟩ : ∃ mm : Nat, (a : Int) + (bs : Int) = (mm : Int) := ⟨a + bs, by omega⟩
       have hmm2 : mm = a + bs := by omega
       by_cases hmn : mm < n
       ·have hz4 : (mm : Int) < (n : Int) := by omega
        have hsp : Aside0 (∃ Pp Z1 Z2, dk.toList = Pp ++ (Z1 ++ (Z2 ++ [])) ∧ Pp.length = a ∧ Full (ltOf cf) (2 * bs) Pp ∧ Z1.length = bs ∧ 0 < Z2.length ∧ a + bs + Z2.length = n ∧ SortedL (ltOf cf) Z1 ∧ SortedL (ltOf cf) Z2) := by
         obtain ⟨u1, u2, u3, Pp, Rr, u4, u5, u6, u7⟩ := HQ.out
         have hl : Pp.length + Rr.length = n := by rw [← List.length_append, ← u4, Array.length_toList, u2, ← HN.out]
         obtain ⟨Z1, Z2, rfl, y1, y2, y3⟩ := u7.one (by omega)
         rw [List.length_append] at hl
         exact ⟨Pp, Z1, Z2, by rw [List.append_nil]; exact u4, u5, u6, y1, by omega, by omega, y2, y3.small (by omega)⟩
        obtain ⟨Pp, Z1, Z2, y0, y1, y2, y3, y4, y5, y6, y7⟩ := hsp.out
        have hc := hme.out q3 os3 dk Pp Z1 Z2 [] a mm n HQ.out.2.1 y0 (fun h => by rw [h] at y3; simp at y3; omega) (fun h => by rw [h] at y4; simp at y4) y6 y7 y1.symm (by omega) (by omega)
        have HY := Aside0.mk (And.intro y0 (And.intro y1 (And.intro y2 (And.intro y3 (And.intro y4 y5)))))
        have HMM := Aside0.mk hmm2
        clear y0 y1 y2 y3 y4 y5 y6 y7 hsp hmm2
        go_wp2_with (go_at_call 105; refine hc.mono ?_; rintro e8 w8 ⟨rfl, q8, os8, d8, hZ8, hs8, rfl⟩)
        go_roundg (n - 2 * bs)
        case measure => omega
        case rel =>
         obtain ⟨u1, u2, u3, _⟩ := HQ.out
         obtain ⟨y0, y1, y2, y3, y4, y5⟩ := HY.out
         obtain ⟨Z, z1, z2, z3⟩ := hZ8
         refine ⟨2 * bs, q8, os8, d8, by first | go_num | (congr 1; omega), by omega, by omega, Nat.le_refl _, rfl, ⟨hs8, ?_, ?_⟩⟩
         ·refine u3.trans ?_
          rw [y0, z1, ← List.append_assoc Z1]
          exact (StP.refl _).app (z2.app (StP.refl _))
         ·rw [z1, List.append_nil]
          exact y2.blk Z (Blk.last Z (by rw [z2.len, List.length_append]; omega) z3)
       ·have hz4 : ¬ (mm : Int) < (n : Int) := by omega
        have HMM := Aside0.mk hmm2
        clear hmm2
        go_wp2_with fail
        go_roundg (n - 2 * bs)
        case measure => omega
        case rel =>
         obtain ⟨u1, u2, u3, Pp, Rr, u4, u5, u6, u7⟩ := HQ.out
         have hl : Pp.length + Rr.length = n := by rw [← List.length_append, ← u4, Array.length_toList, u2, ← HN.out]
         have hm := HMM.out
         refine ⟨2 * bs, q3, os3, dk, by first | go_num | (congr 1; omega), by omega, by omega, Nat.le_refl _, rfl, ⟨u2, u3, ?_⟩⟩
         rw [u4]
         exact u6.blk Rr (Blk.last Rr (by omega) (u7.small (by omega)))
    ·have hz2 : ¬ (bs : Int) < (n : Int) := by omega
     go_wp2_with fail
     go_end0
     have hs := HSZ.out
     exact ⟨rfl, q2, os2, dk2, HB.out.2.1, HB.out.2.2.small (by rw [Array.length_toList, HB.out.1, ← HN.out]; omega), HB.out.1, rfl⟩
end Go.Proofs.YtcdmgdegohcmhaaDoor.PA
namespace Go.Proofs.YtcdmgdegohcmhaaDoor.PA
open Go.RowKit Go.Proofs.YtcdmgdegohcmhaaDoorW.PrintWords Go.Proofs.YtcdmgdegohcmhaaDoorW.PrintLast Go.Proofs.YtcdmgdegohcmhaaDoorW.PrintMore
attribute [local go_sem] max2_int min2_int max_two min_two max_three min_three max_four min_four
set_option linter.unusedVariables false
set_option linter.unusedSimpArgs false
theorem made_none {α : Type} (d : Kd α) (e : Nat) (W : World) {b : Nat} (hb : b ≤ W.heap.size) : d.R e (W.alloc (.cells #[] e)) b (fun _ => True) (.slice (some ⟨W.heap.size, 0, none⟩) 0 0) [] :=
 ⟨fun _ _ => trivial, [], ⟨by simp, Or.inr ⟨W.heap.size, 0, #[], rfl, hb, blk_new W _, Nat.le_refl _, by simp [maxLen], by simp, by simp⟩⟩, Reps.none _ _⟩
set_option maxHeartbeats 2000000 in
set_option maxRecDepth 100000 in
theorem clone_call (A0 : Option Addr) (c0 : Nat) (l : List S35) (w : World) (hr : Kd.C k35 w A0 l.length l) (hl : l.length < 1000000000) :
  Calls Tryd.prog 85 #[.slice A0 l.length c0] w fun e w' => ∃ v, e = .returned v ∧ Kd.R k35 35 w' w.heap.size (fun _ => True) v l ∧ Below w.heap.size w w' := by
 have hu := Tryd.underlying35
 have HR := Aside0.mk hr
 have HL := Aside0.mk hl
 have HB := Aside0.mk (Below.refl w.heap.size w)
 cases A0 with
 | none =>
  have hnil : l = [] := by
   cases l with
   | nil => rfl
   | cons x t =>
    obtain ⟨ad, h, _⟩ := hr.2.2 (by simp)
    exact absurd h (by simp)
  subst hnil
  clear hr hl
  have hq : ∀ W, (binOp .eql 22 (.slice none 0 c0) (.slice none 0 0)).run Tryd.prog W = .ok (.bool true) W := fun W => (run_eql_nil_slice W 22 35 none 0 c0 0 0 Tryd.underlying22)
  go_enter Tryd.func85, Tryd.ntmps85
  go_wp2
  go_ret
  exact ⟨_, rfl, Kd.R_nil _ _ _ _ _, HB.out⟩
 | some ad =>
  clear hr hl
  have hq : ∀ W, (binOp .eql 22 (.slice (some ad) l.length c0) (.slice none 0 0)).run Tryd.prog W = .ok (.bool false) W := fun W => (run_eql_nil_slice W 22 35 (some ad) l.length c0 0 0 Tryd.underlying22)
  go_enter Tryd.func85, Tryd.ntmps85
  go_wp2_with (first | ((with_reducible refine gate_builtin (b := .append) (xs := #[.tmp 5, .tmp 6]) rfl ?_); at_builtin; refine Kd.R_append_rows k35 (Rr := k35.K (w.alloc (.cells #[] 35))) (w0 := w) w.heap.size rfl (.tmp 5) (.tmp 6) 22 35 (.agg #[(.string ⟨#[]⟩), (.int .i64 0), (.int .i64 0), (.int .i64 0), (.int .i64 0), (.int .i64 0), (.int .i64 0), (.int .i64 0), (.string ⟨#[]⟩), (.string ⟨#[]⟩), (.int .i64 0)]) 112 rfl Tryd.underlying22 info35 rfl (by decide) (by omega) (.slice (some ⟨w.heap.size, 0, none⟩) 0 0) ([] : List S35) l _ _ _ (fun _ => True) (fun _ => False) rfl rfl ?aO ?aR (fun x cs h => by rw [k35_open h]; exact k35_mkM _ _ _ x) (fun _ h => h.elim) ?aF ?aB ?aS ?aL ?_; (case aR => exact (Kd.C_below HR.out (by repeat (first | (with_reducible first | exact HB.out | apply below_alloc | apply pw_below_drewN | apply below_drew1) | exact HB.out)))); (case aB => exact (by repeat (first | (with_reducible first | exact HB.out | apply below_alloc | apply pw_below_drewN | apply below_drew1) | exact HB.out))); (case aF => exact (fun _ _ => trivial)); (case aO => exact made_none k35 35 w (Nat.le_refl _)); (case aS => exact below_size (by repeat (first | (with_reducible first | exact HB.out | apply below_alloc | apply pw_below_drewN | apply below_drew1) | exact HB.out))); (case aL => have := HL.out; simp; omega); intro v5 w5 ho hb hg hat; have n0_ := Aside0.mk hb; have n1_ := Aside0.mk ho; clear HB; have HB := n0_; have HO := n1_; clear n0_ n1_ ho hb hg hat))
  go_ret
  exact ⟨_, rfl, HO.out, HB.out⟩
end Go.Proofs.YtcdmgdegohcmhaaDoor.PA
namespace Go.Proofs.YtcdmgdegohcmhaaDoor.PA
open Go.RowKit Go.Proofs.YtcdmgdegohcmhaaDoorW.PrintWords Go.Proofs.YtcdmgdegohcmhaaDoorW.PrintLast Go.Proofs.YtcdmgdegohcmhaaDoorW.PrintMore
attribute [local go_sem] max2_int min2_int max_two min_two max_three min_three max_four min_four
set_option linter.unusedVariables false
set_option linter.unusedSimpArgs false
open Go Go.Shelf Go.Lib Go.Sort
theorem ltS_irr (x : S35) : ltS x x = false := decide_eq_false (cmp_irr _)
theorem ltS_trans (x y z : S35) (h : ltS x y = true) (h2 : ltS y z = true) : ltS x z = true := decide_eq_true (cmp_trans _ _ _ (of_decide_eq_true h) (of_decide_eq_true h2))
theorem ltS_ntrans (x y z : S35) (h : ltS x y = false) (h2 : ltS y z = false) : ltS x z = false := by
 refine decide_eq_false (fun hn => ?_)
 have h := of_decide_eq_false h
 have h2 := of_decide_eq_false h2
 by_cases e : cmpL (splitL y.f0) (splitL x.f0) < 0
 ·exact h2 (cmp_trans _ _ _ e hn)
 ·rw [cmp_tri _ _ h e] at hn
  exact h2 hn
theorem swoS : SWO ltS := ⟨ltS_irr, ltS_trans, ltS_ntrans⟩
theorem swo35 : SWO (ltOf cf35) := ⟨fun x => by rw [ltOf_cf35]; exact ltS_irr _, fun x y z h h2 => by rw [ltOf_cf35] at *; exact ltS_trans _ _ _ h h2, fun x y z h h2 => by rw [ltOf_cf35] at *; exact ltS_ntrans _ _ _ h h2⟩
theorem sorted_map35 (m : List E35) (h : SortedL (ltOf cf35) m) : SortedL ltS (m.map (·.1)) := by
 unfold SortedL at *
 rw [List.pairwise_map]
 exact h.imp (fun {a b} h => by rwa [ltOf_cf35] at h)
theorem stp_map35 (m r : List E35) (h : StP (ltOf cf35) m r) : StP ltS (m.map (·.1)) (r.map (·.1)) := by
 refine ⟨h.1.map _, fun c => ?_⟩
 rw [List.filter_map, List.filter_map]
 by_cases hc : sml c.f0
 ·have := h.2 ⟨c, hc⟩
  have e : (eqvB ltS c ∘ fun x : E35 => x.1) = eqvB (ltOf cf35) ⟨c, hc⟩ := by
   funext y
   unfold eqvB
   rw [ltOf_cf35, ltOf_cf35]
   rfl
  rw [e, this]
 ·have e : ∀ l : List E35, l.filter (eqvB ltS c ∘ fun x : E35 => x.1) = [] := fun l => by
   rw [List.filter_eq_nil_iff]
   intro y _ hy
   simp only [Function.comp, eqvB, Bool.and_eq_true, Bool.not_eq_true'] at hy
   have := cmp_tri _ _ (of_decide_eq_false hy.1) (of_decide_eq_false hy.2)
   have := split_same20 _ _ this
   exact hc (this ▸ y.2)
  rw [e, e]
theorem ins_nil (fv : Value) (w : World) : Calls Tryd.prog 104 #[.slice none 0 0, .int .i64 0, .int .i64 0, fv] w fun e w' => e = .returned (.tuple #[]) ∧ Below w.heap.size w w' := by
 go_enter Tryd.func104, Tryd.ntmps104
 go_wp2
 go_loopw [8] (fun v8 wr => v8 = .int .i64 1 ∧ wr = w) (fun _ _ => 0)
 case atStart => exact ⟨rfl, rfl⟩
 case round =>
  obtain ⟨rfl, rfl⟩ := hrel
  go_wp2
  go_end0
  exact ⟨rfl, Below.refl _ _⟩
theorem stable_nil (fv : Value) (w : World) : Calls Tryd.prog 100 #[.slice none 0 0, .int .i64 0, fv] w fun e w' => e = .returned (.tuple #[]) ∧ Below w.heap.size w w' := by
 have hi := fun W => ins_nil fv W
 have HB := Aside0.mk (Below.refl w.heap.size w)
 go_enter Tryd.func100, Tryd.ntmps100
 go_wp2
 go_loopw [7, 8] (fun v7 v8 wr => v7 = .int .i64 0 ∧ v8 = .int .i64 20 ∧ wr = w) (fun _ _ _ => 0)
 case atStart => exact ⟨rfl, rfl, rfl⟩
 case round =>
  obtain ⟨rfl, rfl, rfl⟩ := hrel
  go_wp2_with (go_at_call 104; (with_reducible refine (hi _).mono ?_); rintro e w1 ⟨rfl, hb⟩; have n0_ := Aside0.mk (below_step HB.out hb); clear HB hb; have HB := n0_; clear n0_)
  go_loopw [6, 7, 8, 9] (fun v6 v7 v8 v9 wr2 => v6 = .int .i64 20 ∧ Aside0 (Below wr.heap.size wr wr2)) (fun _ _ _ _ _ => 0)
  case atStart => exact ⟨rfl, HB⟩
  case round =>
   obtain ⟨rfl, HB⟩ := hrel
   go_wp2
   go_end0
   exact ⟨rfl, HB.out⟩
theorem below_pt {w w' : World} {g : Nat} {v : Value} (h : Below (g + 1) w w') (hg : w.cell? ⟨g, 0, none⟩ = some v) : w'.cell? ⟨g, 0, none⟩ = some v := by
 have := h.block g (Nat.lt_succ_self g)
 rw [← hg]
 unfold World.cell?
 rw [this]
set_option maxHeartbeats 2000000 in
set_option maxRecDepth 100000 in
theorem ssf_row (gl base : Nat) (w : World) (hgl : w.cell? ⟨gl, 0, none⟩ = some (.func (.func 57) #[] #[])) (v : Value) (m : List E35) (hR : Kd.R k35 35 w base (fun _ => True) v (m.map (·.1))) (hlt : gl < base) (hbw : base ≤ w.heap.size) (hm : m.length < 1000000000000) :
  Calls Tryd.prog 86 #[v, .func (.func 87) #[] #[.pointer (some ⟨gl, 0, none⟩)]] w fun e w' => e = .returned (.tuple #[]) ∧ ∃ r : List E35, Kd.R k35 35 w' base (fun _ => True) v (r.map (·.1)) ∧ StP (ltOf cf35) m r ∧ SortedL (ltOf cf35) r ∧ Below base w w' := by
 rcases row_holds m hR with ⟨rfl, rfl⟩ | ⟨g, cap, cur, rfl, hb, hh, h1, h2, h3, hH⟩
 ·have hc := stable_nil (.func (.func 87) #[] #[.pointer (some ⟨gl, 0, none⟩)]) w
  have HBW := Aside0.mk hbw
  go_enter Tryd.func86, Tryd.ntmps86
  go_wp2_with (go_at_call 100; refine hc.mono ?_; rintro e9 w9 ⟨rfl, hb⟩; have HB := Aside0.mk hb; clear hb)
  go_end0
  exact ⟨rfl, [], Kd.R_nil _ _ _ _ _, StP.refl _, List.Pairwise.nil, HB.out.mono HBW.out⟩
 ·have hg : g < w.heap.size := (Array.getElem?_eq_some_iff.1 hh).1
  have hcmp : CmpB Tryd.prog 87 #[.pointer (some ⟨gl, 0, none⟩)] enc35 11 cf35 g 0 m.toArray.size w := fun q os dk _ x y =>
   cmpE_call x y gl _ (below_pt (sWB_below w g q (gl + 1) dk os (by omega) hg) hgl)
  have hc := stable_call LS.here enc35 11 Tryd.isAgg35 Tryd.sizeOf35 enc35_len enc35_one cf35 swo35 87 #[.pointer (some ⟨gl, 0, none⟩)] (enters_of Tryd.func87 (by kernel_rfl) rfl) g 0 cap m.toArray w hcmp hH hg m.length (by simp) (by simpa using hm)
  rw [List.size_toArray] at hc
  have HCALL := Aside0.mk hc
  have HF := Aside0.mk (And.intro hb (And.intro hh (And.intro h1 (And.intro h2 (And.intro h3 (And.intro hH hg))))))
  clear hc hcmp hH hh h1 h2 h3 hg hb hR hgl
  go_enter Tryd.func86, Tryd.ntmps86
  go_wp2_with (go_at_call 100; refine HCALL.out.mono ?_; rintro e9 w9 ⟨rfl, q9, os9, d9, z1, z2, z3, rfl⟩)
  go_end0
  obtain ⟨hb, hh, h1, h2, h3, hH, hg⟩ := HF.out
  obtain ⟨cur', c1, c2⟩ := sWB_row w g q9 d9 os9 cur hh
  have z3' : d9.size = m.length := z3
  refine ⟨rfl, d9.toList, ?_, z1, z2, sWB_below w g q9 base d9 os9 hb hg⟩
  have := holds_row (base := base) (cap := cap) d9 hb c1 (by omega) h2 (by rw [c2]; exact h3) (sWB_holds enc35 11 w g 0 q9 m.toArray d9 os9 hH hg z3)
  rwa [z3'] at this
set_option maxHeartbeats 2000000 in
set_option maxRecDepth 100000 in
theorem ordered_call (A0 : Option Addr) (c0 : Nat) (l : List S35) (w : World) (hr : Kd.C k35 w A0 l.length l) (hl : l.length < 1000000000) (hs : ∀ x ∈ l, sml x.f0) :
  Calls Tryd.prog 56 #[.slice A0 l.length c0, .func (.func 57) #[] #[]] w fun e w' => ∃ v r, e = .returned v ∧ Kd.R k35 35 w' w.heap.size (fun _ => True) v r ∧ StP ltS l r ∧ SortedL ltS r ∧ Below w.heap.size w w' := by
 obtain ⟨m, rfl⟩ := lift35 l hs
 have hml : m.length < 1000000000 := by rwa [List.length_map] at hl
 have hb0 := below_alloc (Below.refl w.heap.size w) (.cells #[.func (.func 57) #[] #[]] 70 (0, 0))
 have hcl := clone_call A0 c0 (m.map (·.1)) (w.alloc (.cells #[.func (.func 57) #[] #[]] 70 (0, 0))) (Kd.C_below hr hb0) hl
 rw [List.length_map] at hcl ⊢
 have HB := Aside0.mk hb0
 have HCL := Aside0.mk hcl
 have HM := Aside0.mk hml
 clear hr hl hs hb0 hcl hml
 go_enter Tryd.func56, Tryd.ntmps56
 go_wp2_with (go_at_call 85; refine HCL.out.mono ?_; rintro e1 w1 ⟨v1, rfl, ho, hb⟩)
 have hcell : w1.cell? ⟨w.heap.size, 0, none⟩ = some (.func (.func 57) #[] #[]) := (blk_cell (blk_below (blk_new w (.cells #[.func (.func 57) #[] #[]] 70 (0, 0))) hb) 0).trans rfl
 have hss := ssf_row w.heap.size (w.alloc (.cells #[.func (.func 57) #[] #[]] 70 (0, 0))).heap.size w1 hcell v1 m ho (by rw [World.size_alloc]; exact Nat.lt_succ_self _) hb.size (by have := HM.out; omega)
 have HSS := Aside0.mk hss
 have HB1 := Aside0.mk hb
 clear hss hcell ho hb
 go_wp2_with (go_at_call 86; refine HSS.out.mono ?_; rintro e2 w2 ⟨rfl, r, ho2, z1, z2, hb2⟩)
 go_ret
 have hsz : w.heap.size ≤ (w.alloc (.cells #[.func (.func 57) #[] #[]] 70 (0, 0))).heap.size := HB.out.size
 have hbb : Below w.heap.size w1 w2 := hb2.mono hsz
 have hb01 : Below w.heap.size w w1 := below_step HB.out HB1.out
 exact ⟨_, _, rfl, Kd.R_lower ho2 hsz, stp_map35 m r z1, sorted_map35 r z2, hb01.trans hbb⟩
set_option maxHeartbeats 2000000 in
set_option maxRecDepth 100000 in
theorem sortE_call (A0 : Option Addr) (c0 : Nat) (l : List S35) (w : World) (hr : Kd.C k35 w A0 l.length l) (hl : l.length < 1000000000) (hs : ∀ x ∈ l, sml x.f0) :
  Calls Tryd.prog 23 #[.slice A0 l.length c0] w fun e w' => ∃ v r, e = .returned v ∧ Kd.R k35 35 w' w.heap.size (fun _ => True) v r ∧ StP ltS l r ∧ SortedL ltS r ∧ Below w.heap.size w w' := by
 have hc := ordered_call A0 c0 l w hr hl hs
 clear hr hl hs
 go_enter Tryd.func23, Tryd.ntmps23
 go_wp2_with (go_at_call 56; refine hc.mono ?_; rintro e1 w1 ⟨v, r, rfl, ho, z1, z2, hb⟩)
 go_ret
 exact ⟨_, r, rfl, ho, z1, z2, hb⟩
end Go.Proofs.YtcdmgdegohcmhaaDoor.PA
namespace Go.Proofs.YtcdmgdegohcmhaaDoor.PA
open Go.RowKit Go.Proofs.YtcdmgdegohcmhaaDoorW.PrintWords Go.Proofs.YtcdmgdegohcmhaaDoorW.PrintLast Go.Proofs.YtcdmgdegohcmhaaDoorW.PrintMore
attribute [local go_sem] max2_int min2_int max_two min_two max_three min_three max_four min_four
set_option linter.unusedVariables false
set_option linter.unusedSimpArgs false
open Go.Sort
theorem StP.symm {α : Type} {lt : α → α → Bool} {a b : List α} (h : StP lt a b) : StP lt b a := ⟨h.1.symm, fun c => (h.2 c).symm⟩
def insB (acc : List S35) (x : S35) : List S35 := acc.filter (fun a => !ltS x a) ++ x :: acc.filter (fun a => ltS x a)
def sortS (l : List S35) : List S35 := l.foldl insB []
theorem insB_parts (x : S35) : ∀ acc : List S35, SortedL ltS acc → acc.filter (fun a => !ltS x a) ++ acc.filter (fun a => ltS x a) = acc
 | [], _ => rfl
 | a :: t, h => by
  have hc := List.pairwise_cons.1 h
  by_cases e : ltS x a = true
  ·have hall : ∀ b ∈ a :: t, ltS x b = true := fun b hb => by
    rcases List.mem_cons.1 hb with rfl | hb
    ·exact e
    ·apply Classical.byContradiction
     intro hn
     have := swoS.ntrans x b a (by simpa using hn) (hc.1 b hb)
     rw [this] at e
     exact absurd e (by decide)
   rw [List.filter_eq_nil_iff.2 (fun b hb => by rw [hall b hb]; decide), List.filter_eq_self.2 hall]
   rfl
  ·have e' : ltS x a = false := by simpa using e
   rw [List.filter_cons, if_pos (by rw [e']; rfl), List.filter_cons, if_neg e, List.cons_append, insB_parts x t hc.2]
theorem insB_ok (acc : List S35) (x : S35) (h : SortedL ltS acc) : StP ltS (acc ++ [x]) (insB acc x) ∧ SortedL ltS (insB acc x) := by
 have hp := insB_parts x acc h
 have hs : SortedL ltS (acc.filter (fun a => !ltS x a) ++ acc.filter (fun a => ltS x a)) := by rw [hp]; exact h
 rw [sorted_app] at hs
 have m1 : ∀ a ∈ acc.filter (fun a => !ltS x a), ltS x a = false := fun a ha => by simpa using (List.mem_filter.1 ha).2
 have m2 : ∀ a ∈ acc.filter (fun a => ltS x a), ltS x a = true := fun a ha => (List.mem_filter.1 ha).2
 unfold insB
 constructor
 ·have := StP.app (StP.refl (lt := ltS) (acc.filter (fun a => !ltS x a))) (StP.swap (acc.filter (fun a => ltS x a)) [x] swoS (fun a ha y hy => by rw [List.mem_singleton.1 hy]; exact m2 a ha))
  rw [← List.append_assoc, hp] at this
  exact this
 ·rw [show ∀ (F G : List S35), F ++ x :: G = F ++ ([x] ++ G) from fun F G => by simp, sorted_app, sorted_app]
  refine ⟨hs.1, ⟨List.pairwise_singleton _ _, hs.2.1, fun a ha b hb => by rw [List.mem_singleton.1 ha]; exact anti swoS (m2 b hb)⟩, fun a ha b hb => ?_⟩
  rcases List.mem_append.1 hb with hb | hb
  ·rw [List.mem_singleton.1 hb]
   exact m1 a ha
  ·exact hs.2.2 a ha b hb
theorem sortS_fold : ∀ (l acc : List S35), SortedL ltS acc → StP ltS (acc ++ l) (l.foldl insB acc) ∧ SortedL ltS (l.foldl insB acc)
 | [], acc, h => ⟨by rw [List.append_nil]; exact StP.refl _, h⟩
 | x :: l, acc, h => by
  have h1 := insB_ok acc x h
  have h2 := sortS_fold l (insB acc x) h1.2
  refine ⟨?_, h2.2⟩
  have := (h1.1.app (StP.refl (lt := ltS) l)).trans h2.1
  rwa [List.append_assoc] at this
theorem sortS_ok (l : List S35) : StP ltS l (sortS l) ∧ SortedL ltS (sortS l) := sortS_fold l [] List.Pairwise.nil
def flist_Sort.f (l0 : List S35) : Option (List S35) := if l0.length < 1000000000 ∧ (∀ y ∈ l0, y.f0.size ≤ 1048576) then some (sortS l0) else none
theorem flist_Sort.calls (A0 : Option Addr) (c0 : Nat) (l0 : List S35) (r : List S35) (w : World) (hr0 : Kd.C k35 w A0 l0.length l0) (hc0 : l0.length ≤ c0) (h : flist_Sort.f l0 = some r) :
  Calls Tryd.prog 23 #[.slice A0 l0.length c0] w fun e w' => ∃ v0_ : Value, e = .returned v0_ ∧ Kd.R k35 35 w' w.heap.size (fun _ => True) v0_ r ∧ Below w.heap.size w w' := by
 unfold flist_Sort.f at h
 split at h
 ·rename_i hs
  obtain rfl := Option.some.inj h
  refine (sortE_call A0 c0 l0 w hr0 hs.1 hs.2).mono ?_
  rintro e w' ⟨v, r, rfl, ho, z1, z2, hb⟩
  have := stp_unique swoS r (sortS l0) z2 (sortS_ok l0).2 (z1.symm.trans (sortS_ok l0).1)
  subst this
  exact ⟨v, rfl, ho, hb⟩
 ·exact absurd h (by simp)
end Go.Proofs.YtcdmgdegohcmhaaDoor.PA
namespace Go.Proofs.YtcdmgdegohcmhaaDoor.PA
open Go.RowKit Go.Proofs.YtcdmgdegohcmhaaDoorW.PrintWords Go.Proofs.YtcdmgdegohcmhaaDoorW.PrintLast Go.Proofs.YtcdmgdegohcmhaaDoorW.PrintMore
attribute [local go_sem] max2_int min2_int max_two min_two max_three min_three max_four min_four   -- for this text's walks alone
set_option linter.unusedVariables false
set_option linter.unusedSimpArgs false
mutual
def remoralaw20_FlistSorts.j1 : Nat → List (S35) → List (S35) → Option (Bool)
 | 0, _, _ => none
 | k + 1, x0, x5 => (flist_Sort.f x5).bind fun t114 => (if (t114.length : Int) = (x0.length : Int) then (remoralaw20_FlistSorts.l1 k x0 t114 1) else (some false))
def remoralaw20_FlistSorts.l1 : Nat → List (S35) → List (S35) → Int → Option (Bool)
 | 0, _, _, _ => none
 | k + 1, x0, x8, x9 => if x9 < (x8.length : Int) then (if 0 ≤ x9 then (if 0 ≤ (wrap64 (x9 - 1)) then (if (wrap64 (x9 - 1)) < (x8.length : Int) then ((remoraref13_Less.f k ((rd_T35 x8 x9).f0) ((rd_T35 x8 (wrap64 (x9 - 1))).f0)).bind fun t119 => (if t119 = true then (some false) else (remoralaw20_FlistSorts.l1 k x0 x8 (wrap64 (x9 + 1))))) else (none)) else (none)) else (none)) else ((flist_Check.f x0).bind fun t120 => (if t120 = 0 then (remoralaw20_FlistSorts.l2 k x0 x8 0) else ((remoralaw20_awake.f k).bind fun t121 => (some t121))))
def remoralaw20_FlistSorts.l2 : Nat → List (S35) → List (S35) → Int → Option (Bool)
 | 0, _, _, _ => none
 | k + 1, x0, x8, x10 => if x10 ≤ (x0.length : Int) then (if 0 ≤ x10 then ((flist_Check.f (x0.take (x10 : Int).toNat)).bind fun t126 => (if t126 = 0 then (remoralaw20_FlistSorts.l2 k x0 x8 (wrap64 (x10 + 1))) else (some false))) else (none)) else ((flist_Same.f k x8 x0).bind fun t127 => (if t127 = true then ((remoralaw20_awake.f k).bind fun t128 => (some t128)) else (some false)))
def remoralaw20_FlistSorts.l0 : Nat → List (S35) → List Int → List (S35) → Int → Option (Bool)
 | 0, _, _, _, _ => none
 | k + 1, x0, x1, x5, x6 => if x6 < (x1.length : Int) then (if x6 < (x5.length : Int) then (if 0 ≤ x6 then (if (x5.length : Int) = 0 then (none) else (if 0 ≤ (Int.tmod (wrap64 (rd x1 x6)) (x5.length : Int)) then (if (Int.tmod (wrap64 (rd x1 x6)) (x5.length : Int)) < (x5.length : Int) then (remoralaw20_FlistSorts.l0 k x0 x1 ((x5.set (x6 : Int).toNat (⟨(rd_T35 x5 (Int.tmod (wrap64 (rd x1 x6)) (x5.length : Int))).f0, (rd_T35 x5 (Int.tmod (wrap64 (rd x1 x6)) (x5.length : Int))).f1, (rd_T35 x5 (Int.tmod (wrap64 (rd x1 x6)) (x5.length : Int))).f2, (⟨(rd_T35 x5 (Int.tmod (wrap64 (rd x1 x6)) (x5.length : Int))).f3.f0, (rd_T35 x5 (Int.tmod (wrap64 (rd x1 x6)) (x5.length : Int))).f3.f1, (rd_T35 x5 (Int.tmod (wrap64 (rd x1 x6)) (x5.length : Int))).f3.f2, (rd_T35 x5 (Int.tmod (wrap64 (rd x1 x6)) (x5.length : Int))).f3.f3, (rd_T35 x5 (Int.tmod (wrap64 (rd x1 x6)) (x5.length : Int))).f3.f4⟩ : S33), (rd_T35 x5 (Int.tmod (wrap64 (rd x1 x6)) (x5.length : Int))).f4, (rd_T35 x5 (Int.tmod (wrap64 (rd x1 x6)) (x5.length : Int))).f5, (rd_T35 x5 (Int.tmod (wrap64 (rd x1 x6)) (x5.length : Int))).f6⟩ : S35)).set ((Int.tmod (wrap64 (rd x1 x6)) (x5.length : Int)) : Int).toNat (⟨(rd_T35 x5 x6).f0, (rd_T35 x5 x6).f1, (rd_T35 x5 x6).f2, (⟨(rd_T35 x5 x6).f3.f0, (rd_T35 x5 x6).f3.f1, (rd_T35 x5 x6).f3.f2, (rd_T35 x5 x6).f3.f3, (rd_T35 x5 x6).f3.f4⟩ : S33), (rd_T35 x5 x6).f4, (rd_T35 x5 x6).f5, (rd_T35 x5 x6).f6⟩ : S35)) (wrap64 (x6 + 1))) else (none)) else (none))) else (none)) else (remoralaw20_FlistSorts.j1 k x0 x5)) else (remoralaw20_FlistSorts.j1 k x0 x5)
end
def remoralaw20_FlistSorts.f (k : Nat) (l0 : List (S35)) (l1 : List Int) : Option (Bool) := (remoraref20_Small.f k l0).bind fun t101 => (if t101 = true then ((some (([] : List (S35)) : List (S35))).bind fun y103 => (if y103.length + l0.length < 1256584717458 then (remoralaw20_FlistSorts.l0 k l0 l1 (y103 ++ l0) 0) else (none))) else ((remoralaw20_awake.f k).bind fun t102 => (some t102)))
def remoralaw20_FlistSorts.T8 : Bool × List (List Nat × List Nat) := (true, [([], []), ([], []), ([], []), ([], []), ([], []), ([], []), ([4, 5], [4, 5]), ([6], [6]), ([], []), ([], []), ([8, 9], [8, 9]), ([10], [10]), ([0, 1, 0, 1, 4, 5, 6, 7, 11], [0, 1]), ([12, 7, 0, 1, 4, 5, 6, 7, 11], [7, 12]), ([2, 3, 0, 1, 2, 3, 4, 5, 6, 7, 8, 9, 10, 11, 12, 13], [2, 3]), ([14, 11, 13, 0, 1, 2, 3, 4, 5, 6, 7, 8, 9, 10, 11, 12, 13], [11, 14])])
def remoralaw20_FlistSorts.B8 : List Nat := [0, 0, 0, 0, 0, 0, 48, 112, 0, 0, 768, 1792, 4083, 8179, 16383, 32767]
theorem remoralaw20_FlistSorts.tab8 : rtab .any (opsOf Tryd.f8 8) = remoralaw20_FlistSorts.T8 := by kernel_rfl
theorem remoralaw20_FlistSorts.bits8 : waitsOk remoralaw20_FlistSorts.T8.2 remoralaw20_FlistSorts.B8 = true := by kernel_rfl
def remoralaw20_FlistSorts.T15 : Bool × List (List Nat × List Nat) := (true, [([], []), ([], []), ([0, 1], [0, 1]), ([2], [2]), ([3], [3]), ([], []), ([], []), ([6], [6]), ([5, 7], [5, 7]), ([8], [8]), ([9], [9]), ([4, 10], [4, 10])])
def remoralaw20_FlistSorts.B15 : List Nat := [0, 0, 3, 7, 15, 0, 0, 64, 224, 480, 992, 2047]
theorem remoralaw20_FlistSorts.tab15 : rtab .any (opsOf Tryd.f8 15) = remoralaw20_FlistSorts.T15 := by kernel_rfl
theorem remoralaw20_FlistSorts.bits15 : waitsOk remoralaw20_FlistSorts.T15.2 remoralaw20_FlistSorts.B15 = true := by kernel_rfl
set_option maxHeartbeats 8000000 in
set_option maxRecDepth 100000 in
theorem remoralaw20_FlistSorts.calls (k : Nat) (A0 : Option Addr) (c0 : Nat) (l0 : List (S35)) (A1 : Option Addr) (c1 : Nat) (l1 : List Int) (r : Bool) (w : World) (hr0 : Kd.C k35 w A0 l0.length l0) (hc0 : l0.length ≤ c0) (hr1 : Kd.C (Kd.int .u8) w A1 l1.length l1) (hc1 : l1.length ≤ c1) (h : remoralaw20_FlistSorts.f k l0 l1 = some r) (hT_ : TabW w) :
  Calls Tryd.prog 8 #[.slice A0 l0.length c0, .slice A1 l1.length c1] w fun e w' => e = .returned (.bool r) ∧ Below w.heap.size w w' := by
 have hu35 := Tryd.underlying35
 have HR0 := Aside0.mk hr0
 have HC0 := Aside0.mk hc0
 clear hr0 hc0
 have HR1 := Aside0.mk hr1
 have HC1 := Aside0.mk hc1
 clear hr1 hc1
 have HT := Aside0.mk hT_
 clear hT_
 have HB := Aside0.mk (Below.refl w.heap.size w)
 have H : ((remoraref20_Small.f k l0).bind fun t101 => (if t101 = true then ((some (([] : List (S35)) : List (S35))).bind fun y103 => (if y103.length + l0.length < 1256584717458 then (remoralaw20_FlistSorts.l0 k l0 l1 (y103 ++ l0) 0) else (none))) else ((remoralaw20_awake.f k).bind fun t102 => (some t102)))) = some r := h
 clear h
 replace H := Option.bind_eq_some_iff.mp H
 obtain ⟨t101, A30, H⟩ := H
 replace H : (if t101 = true then ((some (([] : List (S35)) : List (S35))).bind fun y103 => (if y103.length + l0.length < 1256584717458 then (remoralaw20_FlistSorts.l0 k l0 l1 (y103 ++ l0) 0) else (none))) else ((remoralaw20_awake.f k).bind fun t102 => (some t102))) = some r := H
 have A3 := Aside0.mk A30
 clear A30
 by_cases c4 : t101 = true
 ·subst c4
  have H1 : ((some (([] : List (S35)) : List (S35))).bind fun y103 => (if y103.length + l0.length < 1256584717458 then (remoralaw20_FlistSorts.l0 k l0 l1 (y103 ++ l0) 0) else (none))) = some r := by rw [if_pos rfl] at H; exact H
  clear H
  have H := H1
  clear H1
  obtain ⟨y103, hy103⟩ : ∃ y_ : List (S35), y_ = (([] : List (S35))) := ⟨_, rfl⟩
  replace H : (if y103.length + l0.length < 1256584717458 then (remoralaw20_FlistSorts.l0 k l0 l1 (y103 ++ l0) 0) else (none)) = some r := by first | (rw [hy103]; with_reducible exact H) | (have H2_ := (Option.bind_some _ _).symm.trans H; rw [hy103]; with_reducible exact H2_) | (have H2_ := (Option.bind_some _ _).symm.trans H; with_reducible exact H2_) | with_reducible exact H | (rw [hy103]; exact H) | exact H
  have Ny103 := Aside0.mk hy103
  clear hy103
  by_cases c5 : y103.length + l0.length < 1256584717458
  ·rw [if_pos c5] at H
   have LMc5 := Aside0.mk c5
   clear c5
   obtain ⟨y106, hy106⟩ : ∃ y_ : List (S35), y_ = (y103 ++ l0) := ⟨_, rfl⟩
   replace H : (remoralaw20_FlistSorts.l0 k l0 l1 y106 0) = some r := by first | (rw [hy106]; with_reducible exact H) | (have H2_ := (Option.bind_some _ _).symm.trans H; rw [hy106]; with_reducible exact H2_) | (have H2_ := (Option.bind_some _ _).symm.trans H; with_reducible exact H2_) | with_reducible exact H | (rw [hy106]; exact H) | exact H
   have Ny106 := Aside0.mk hy106
   clear hy106
   have HC6 := Aside0.mk H
   clear H
   go_enter Tryd.func8, Tryd.ntmps8
   go_upto_block 0 with (first | ((with_reducible refine gate_callee (f := 10) rfl ?_); refine goesL_ (some 12) rfl rfl Tryd.func10 (by kernel_rfl) rfl #[.slice A0 l0.length c0] rfl (by (try simp only [List.map_toArray, List.map_cons, List.map_nil]); first | done | rfl | (simp only [List.length_drop, List.length_take]; rfl)) ?_; (with_reducible refine (remoraref20_Small.calls k _ _ l0 true _ ?side1 ?side2 A3.out).mono ?_); (case side1 => repeat (first | exact HR0.out | (with_reducible refine Kd.C_alloc ?_ _) | (with_reducible refine Kd.C_drewN ?_ _) | (with_reducible refine Kd.C_drew ?_))); (case side2 => exact HC0.out); rintro e w' ⟨rfl, ⟨nd, rfl⟩⟩; refine ⟨_, rfl, ?_⟩) | ((with_reducible refine gate_dst (N := 15) rfl ?_); (try (refine gate_guard (by rfl) ?_; dsimp only)); refine Kd.R_lit k35 _ 35 ?hg (N := 15) ?hd (xs := ([] : List (S35))) (inner := []) (ok := fun _ => True) (okp := fun _ => True) ?hr ?hp (fun _ hk => hk) trivial (Below.refl _ _) (Nat.le_refl _) (by simp) ?_; (case hd => rfl); (case hg => rfl); (case hr => first | (go_simp; done) | (go_simp; rfl)); (case hp => exact (Reps.none _ _)); intro v104 w7 ho8 hb hg_ hnew_; clear hg_ hnew_; (first | rw [← Ny103.out] at ho8 | (simp only [Int.reduceToNat] at ho8; rw [← Ny103.out] at ho8)); have n0_ := Aside0.mk (Kd.R_lower ho8 (below_size (by repeat (first | (with_reducible first | exact HB.out | apply below_alloc | apply pw_below_drewN | apply below_drew1) | exact HB.out)))); have n1_ := Aside0.mk (below_step (by repeat (first | (with_reducible first | exact HB.out | apply below_alloc | apply pw_below_drewN | apply below_drew1) | exact HB.out)) hb); clear HB; have HO105 := n0_; have HB := n1_; clear n0_ n1_; clear hb ho8) | ((with_reducible refine gate_builtin (b := .append) (xs := #[.tmp 15, .tmp 16]) rfl ?_); (try (refine gate_guard (by rfl) ?_; dsimp only)); at_builtin; refine Kd.R_append_rows k35 (w0 := w) w.heap.size rfl (.tmp 15) (.tmp 16) 22 35 (.agg #[(.string ⟨#[]⟩), (.int .i64 0), (.int .i64 0), (.int .i64 0), (.int .i64 0), (.int .i64 0), (.int .i64 0), (.int .i64 0), (.string ⟨#[]⟩), (.string ⟨#[]⟩), (.int .i64 0)]) 112 rfl Tryd.underlying22 info35 rfl (by decide) (by omega) v104 y103 l0 _ _ _ (fun _ => True) (fun _ => False) rfl rfl ?aO ?aR (fun _ _ h => h) (fun _ h => h.elim) ?aF ?aB ?aS ?aL ?_; (case aR => repeat (first | exact (Kd.C_below HR0.out HB.out) | (with_reducible refine Kd.C_alloc ?_ _) | (with_reducible refine Kd.C_drewN ?_ _) | (with_reducible refine Kd.C_drew ?_))); (case aB => exact (by repeat (first | (with_reducible first | exact HB.out | apply below_alloc | apply pw_below_drewN | apply below_drew1) | exact HB.out))); (case aF => exact (fun _ _ => trivial)); (case aO => exact (by (with_reducible repeat (first | apply Kd.R_alloc | apply Kd.R_drewN | apply Kd.R_drew)); exact HO105.out)); (case aS => exact (below_size (by repeat (first | (with_reducible first | exact HB.out | apply below_alloc | apply pw_below_drewN | apply below_drew1) | exact HB.out)))); (case aL => have := LMc5.out; omega); intro v107 w9 ho hb hg hat; rw [← Ny106.out] at ho; have n0_ := Aside0.mk (hb); have n1_ := Aside0.mk (ho); clear HB; clear HO105; have HB := n0_; have HO108 := n1_; clear n0_ n1_; clear ho hb hg hat))
   (try simp only [Act.put, List.setIfInBounds_toArray, List.set_cons_zero, List.set_cons_succ])
   go_cut [] (fun wc => ∃ (kq : Nat) (x5_5 : List (S35)), Aside0 (remoralaw20_FlistSorts.j1 kq l0 x5_5 = some r) ∧ Aside0 (kq ≤ k) ∧ Aside0 (Kd.R k35 35 wc w.heap.size (fun _ => True) v107 x5_5) ∧ Aside0 (Below w.heap.size w wc))
   case first =>
    have H := HC6.out
    clear HC6
    have H' := Aside0.mk H
    clear H
    go_wp2
    go_loopg [6] k (fun kq v6 w' => ∃ (x5_1 : List (S35)) (x6_1 : Int), v6 = .int .i64 x6_1 ∧ Aside0 (remoralaw20_FlistSorts.l0 kq l0 l1 x5_1 x6_1 = some r) ∧ Aside0 (kq ≤ k) ∧ Aside0 (Kd.R k35 35 w' w.heap.size (fun _ => True) v107 x5_1) ∧ Aside0 (Below w.heap.size w w'))
    case atStart => exact ⟨(y106), (0), (by first | rfl | (simp; done) | (simp [*]; done)), H', ⟨Nat.le_refl _⟩, ⟨by (with_reducible repeat (first | apply Kd.R_alloc | apply Kd.R_drewN | apply Kd.R_drew)); exact HO108.out⟩, ⟨by repeat (first | (with_reducible first | exact HB.out | apply below_alloc | apply pw_below_drewN | apply below_drew1) | exact HB.out)⟩⟩
    case round =>
     clear H'
     try clear c1
     try clear p2
     try clear c4
     try clear c5
     try clear c8
     obtain ⟨x5_1, x6_1, rfl, HA, HK1, HO_5, HB⟩ := hrel
     cases gk with
     | zero => exact absurd HA.out (by simp [remoralaw20_FlistSorts.l0])
     | succ k1 =>
      have H := HA.out
      clear HA
      simp only [remoralaw20_FlistSorts.l0] at H
      by_cases c10 : x6_1 < (l1.length : Int)
      ·rw [if_pos c10] at H
       have c10b0 : decide (x6_1 < (l1.length : Int)) = true := decide_eq_true c10
       clear c10
       (first | rw [c10b0] | (simp only [i64_w, i32_w]; rw [c10b0]) | skip)
       by_cases c11 : x6_1 < (x5_1.length : Int)
       ·rw [if_pos c11] at H
        have c11b0 : decide (x6_1 < (x5_1.length : Int)) = true := decide_eq_true c11
        clear c11
        by_cases c12 : 0 ≤ x6_1
        ·rw [if_pos c12] at H
         have c12b0 : decide (0 ≤ x6_1) = true := decide_eq_true c12
         clear c12
         by_cases c13 : (x5_1.length : Int) = 0
         ·rw [if_pos c13] at H
          exact absurd H (by simp)
         ·rw [if_neg c13] at H
          have c13b0 : ((x5_1.length : Int) == 0) = false := beq_eq_false_iff_ne.mpr c13
          have c13b1 : ((x5_1.length : Int) != 0) = true := bne_iff_ne.mpr c13
          have c13b2 : ¬ (x5_1 = []) := fun h_ => c13 (by rw [h_]; rfl)
          obtain ⟨ji14, hji14⟩ : ∃ j_ : Int, (Int.tmod (wrap64 (rd l1 x6_1)) (x5_1.length : Int)) = j_ := ⟨_, rfl⟩
          replace H : (if 0 ≤ (ji14) then (if (ji14) < (x5_1.length : Int) then (remoralaw20_FlistSorts.l0 k1 l0 l1 ((x5_1.set (x6_1 : Int).toNat (⟨(rd_T35 x5_1 (ji14)).f0, (rd_T35 x5_1 (ji14)).f1, (rd_T35 x5_1 (ji14)).f2, (⟨(rd_T35 x5_1 (ji14)).f3.f0, (rd_T35 x5_1 (ji14)).f3.f1, (rd_T35 x5_1 (ji14)).f3.f2, (rd_T35 x5_1 (ji14)).f3.f3, (rd_T35 x5_1 (ji14)).f3.f4⟩ : S33), (rd_T35 x5_1 (ji14)).f4, (rd_T35 x5_1 (ji14)).f5, (rd_T35 x5_1 (ji14)).f6⟩ : S35)).set ((ji14) : Int).toNat (⟨(rd_T35 x5_1 x6_1).f0, (rd_T35 x5_1 x6_1).f1, (rd_T35 x5_1 x6_1).f2, (⟨(rd_T35 x5_1 x6_1).f3.f0, (rd_T35 x5_1 x6_1).f3.f1, (rd_T35 x5_1 x6_1).f3.f2, (rd_T35 x5_1 x6_1).f3.f3, (rd_T35 x5_1 x6_1).f3.f4⟩ : S33), (rd_T35 x5_1 x6_1).f4, (rd_T35 x5_1 x6_1).f5, (rd_T35 x5_1 x6_1).f6⟩ : S35)) (wrap64 (x6_1 + 1))) else (none)) else (none)) = some r := by first | (rw [hji14] at H; exact H) | (simp only [hji14] at H ⊢; exact H)
          by_cases c15 : 0 ≤ (ji14)
          ·rw [if_pos c15] at H
           have c15b0 : decide (0 ≤ (ji14)) = true := decide_eq_true c15
           clear c15
           by_cases c16 : (ji14) < (x5_1.length : Int)
           ·rw [if_pos c16] at H
            have c16b0 : decide ((ji14) < (x5_1.length : Int)) = true := decide_eq_true c16
            clear c16
            obtain ⟨y112, hy112⟩ : ∃ y_ : List (S35), y_ = (x5_1.set (x6_1 : Int).toNat (⟨(rd_T35 x5_1 (ji14)).f0, (rd_T35 x5_1 (ji14)).f1, (rd_T35 x5_1 (ji14)).f2, (⟨(rd_T35 x5_1 (ji14)).f3.f0, (rd_T35 x5_1 (ji14)).f3.f1, (rd_T35 x5_1 (ji14)).f3.f2, (rd_T35 x5_1 (ji14)).f3.f3, (rd_T35 x5_1 (ji14)).f3.f4⟩ : S33), (rd_T35 x5_1 (ji14)).f4, (rd_T35 x5_1 (ji14)).f5, (rd_T35 x5_1 (ji14)).f6⟩ : S35)) := ⟨_, rfl⟩
            replace H : (remoralaw20_FlistSorts.l0 k1 l0 l1 (y112.set ((ji14) : Int).toNat (⟨(rd_T35 x5_1 x6_1).f0, (rd_T35 x5_1 x6_1).f1, (rd_T35 x5_1 x6_1).f2, (⟨(rd_T35 x5_1 x6_1).f3.f0, (rd_T35 x5_1 x6_1).f3.f1, (rd_T35 x5_1 x6_1).f3.f2, (rd_T35 x5_1 x6_1).f3.f3, (rd_T35 x5_1 x6_1).f3.f4⟩ : S33), (rd_T35 x5_1 x6_1).f4, (rd_T35 x5_1 x6_1).f5, (rd_T35 x5_1 x6_1).f6⟩ : S35)) (wrap64 (x6_1 + 1))) = some r := by first | (rw [hy112]; with_reducible exact H) | (have H2_ := (Option.bind_some _ _).symm.trans H; rw [hy112]; with_reducible exact H2_) | (have H2_ := (Option.bind_some _ _).symm.trans H; with_reducible exact H2_) | with_reducible exact H | (rw [hy112]; exact H) | exact H
            have Ny112 := Aside0.mk hy112
            clear hy112
            obtain ⟨y113, hy113⟩ : ∃ y_ : List (S35), y_ = (y112.set ((ji14) : Int).toNat (⟨(rd_T35 x5_1 x6_1).f0, (rd_T35 x5_1 x6_1).f1, (rd_T35 x5_1 x6_1).f2, (⟨(rd_T35 x5_1 x6_1).f3.f0, (rd_T35 x5_1 x6_1).f3.f1, (rd_T35 x5_1 x6_1).f3.f2, (rd_T35 x5_1 x6_1).f3.f3, (rd_T35 x5_1 x6_1).f3.f4⟩ : S33), (rd_T35 x5_1 x6_1).f4, (rd_T35 x5_1 x6_1).f5, (rd_T35 x5_1 x6_1).f6⟩ : S35)) := ⟨_, rfl⟩
            replace H : (remoralaw20_FlistSorts.l0 k1 l0 l1 y113 (wrap64 (x6_1 + 1))) = some r := by first | (rw [hy113]; with_reducible exact H) | (have H2_ := (Option.bind_some _ _).symm.trans H; rw [hy113]; with_reducible exact H2_) | (have H2_ := (Option.bind_some _ _).symm.trans H; with_reducible exact H2_) | with_reducible exact H | (rw [hy113]; exact H) | exact H
            have Ny113 := Aside0.mk hy113
            clear hy113
            have H' := Aside0.mk H
            clear H
            obtain ⟨Ao19, co19, eo19⟩ := Kd.R_slice HO_5.out
            subst eo19
            have p109 : 0 ≤ (x6_1 : Int) := of_decide_eq_true (by first | (with_reducible assumption) | assumption)
            have q109 : x6_1 < (l1.length : Int) := of_decide_eq_true (by first | (with_reducible assumption) | assumption)
            obtain ⟨ad109, e109, hx109_0⟩ := Kd.at_int HR1.out x6_1 p109 q109
            cases e109
            replace hx109_0 := (HB.out.cell (World.block_lt_of_cell? w _ hx109_0)).trans hx109_0
            replace p109 := eq_true p109
            replace q109 := eq_true q109
            try go_wp2
            have n0_ := Aside0.mk (Kd.R_drew HO_5.out)
            have n1_ := Aside0.mk (below_drew1 HB.out)
            clear HO_5
            clear HB
            have HO_5 := n0_
            have HB := n1_
            clear n0_ n1_
            obtain ⟨gS, cA, cB, eS, gbS, hlA, hlB, la, lb, s1, s2, hRS⟩ := swap35 HO_5.out x6_1 ji14 (of_decide_eq_true (by first | (with_reducible assumption) | assumption)) (of_decide_eq_true (by first | (with_reducible assumption) | assumption)) (of_decide_eq_true (by first | (with_reducible assumption) | assumption)) (of_decide_eq_true (by first | (with_reducible assumption) | assumption))
            subst eS
            have p110 : (0 ≤ (ji14 : Int)) = True := eq_true (of_decide_eq_true (by first | (with_reducible assumption) | assumption))
            have q110 : ((ji14 : Int) < (x5_1.length : Int)) = True := eq_true (of_decide_eq_true (by first | (with_reducible assumption) | assumption))
            have p111 : (0 ≤ (x6_1 : Int)) = True := eq_true (of_decide_eq_true (by first | (with_reducible assumption) | assumption))
            have q111 : ((x6_1 : Int) < (x5_1.length : Int)) = True := eq_true (of_decide_eq_true (by first | (with_reducible assumption) | assumption))
            have HQ22 := Aside0.mk (show Kd.R k35 35 _ _ (fun _ => True) _ y113 from by rw [Ny113.out, Ny112.out]; exact hRS)
            have HB9 := Aside0.mk (below_sets gbS cA (ji14.toNat * 11) _ (below_sets gbS cB (x6_1.toNat * 11) _ HB.out))
            clear hRS gbS HO_5 HB
            have HB := HB9
            clear HB9
            refine start_ (n := 16) (S := fun w' => (Instr.loadAt 35 (.pointer (some ⟨gS, x6_1.toNat * 11, none⟩))).run Tryd.prog w' = .ok (.agg cA.toArray) w' ∧ (Instr.loadAt 35 (.pointer (some ⟨gS, ji14.toNat * 11, none⟩))).run Tryd.prog w' = .ok (.agg cB.toArray) w') (ds := [13, 15]) #[false, false, false, false, false, false, false, false, false, false, false, false, false, false, false, false] (by kernel_rfl) rfl rfl ⟨la, lb⟩ (fun hHeld => ?_); refine with_tabW remoralaw20_FlistSorts.tab8 remoralaw20_FlistSorts.bits8 (fun HT_ HW_ => ?_)
            generalize wr.drew = w20 at HQ22 HB s1 s2 hHeld ⊢
            refine pure_ (i := 0) (N := some 38) (v := ?_) (a' := ?_) #[true, false, false, false, false, false, false, false, false, false, false, false, false, false, false, false] rfl rfl (any_of HT_.out (by kernel_rfl)) (fun _ _ _ h => h) (Or.inl ⟨by rfl, ?_⟩) ?_ ?_
            rotate_left
            ·intro w'
             go_simp
             with_reducible rfl
            rotate_left
            ·simp only [Act.put, List.setIfInBounds_toArray, List.set_cons_zero, List.set_cons_succ, i64_w, i32_w]
             rfl
            refine pure_ (i := 1) (N := some 39) (v := ?_) (a' := ?_) #[true, true, false, false, false, false, false, false, false, false, false, false, false, false, false, false] rfl rfl (any_of HT_.out (by kernel_rfl)) (fun _ _ _ h => h) (Or.inl ⟨by rfl, ?_⟩) ?_ ?_
            rotate_left
            ·intro w'
             go_simp
             with_reducible rfl
            rotate_left
            ·simp only [Act.put, List.setIfInBounds_toArray, List.set_cons_zero, List.set_cons_succ, i64_w, i32_w]
             rfl
            refine pure_ (i := 2) (N := some 40) (v := ?_) (a' := ?_) #[true, true, true, false, false, false, false, false, false, false, false, false, false, false, false, false] rfl rfl (any_of HT_.out (by kernel_rfl)) (fun _ _ _ h => h) (Or.inl ⟨by rfl, ?_⟩) ?_ ?_
            rotate_left
            ·intro w'
             go_simp
             with_reducible rfl
            rotate_left
            ·simp only [Act.put, List.setIfInBounds_toArray, List.set_cons_zero, List.set_cons_succ, i64_w, i32_w]
             rfl
            refine pure_ (i := 3) (N := some 41) (v := ?_) (a' := ?_) #[true, true, true, true, false, false, false, false, false, false, false, false, false, false, false, false] rfl rfl (any_of HT_.out (by kernel_rfl)) (fun _ _ _ h => h) (Or.inl ⟨by rfl, ?_⟩) ?_ ?_
            rotate_left
            ·intro w'
             go_simp
             with_reducible rfl
            rotate_left
            ·simp only [Act.put, List.setIfInBounds_toArray, List.set_cons_zero, List.set_cons_succ, i64_w, i32_w]
             rfl
            refine pure_ (i := 4) (N := some 42) (v := ?_) (a' := ?_) #[true, true, true, true, true, false, false, false, false, false, false, false, false, false, false, false] rfl rfl (any_of HT_.out (by kernel_rfl)) (fun _ _ _ h => h) (Or.inl ⟨by rfl, ?_⟩) ?_ ?_
            rotate_left
            ·intro w'
             go_simp
             with_reducible rfl
            rotate_left
            ·simp only [Act.put, List.setIfInBounds_toArray, List.set_cons_zero, List.set_cons_succ, i64_w, i32_w]
             rfl
            refine pure_ (i := 5) (N := some 43) (v := ?_) (a' := ?_) #[true, true, true, true, true, true, false, false, false, false, false, false, false, false, false, false] rfl rfl (any_of HT_.out (by kernel_rfl)) (fun _ _ _ h => h) (Or.inl ⟨by rfl, ?_⟩) ?_ ?_
            rotate_left
            ·intro w'
             go_simp
             with_reducible rfl
            rotate_left
            ·simp only [Act.put, List.setIfInBounds_toArray, List.set_cons_zero, List.set_cons_succ, i64_w, i32_w]
             rfl
            refine pure_ (i := 6) (N := some 44) (v := ?_) (a' := ?_) #[true, true, true, true, true, true, true, false, false, false, false, false, false, false, false, false] rfl rfl (any_of HT_.out (by kernel_rfl)) (fun _ _ _ h => h) (Or.inl ⟨by rfl, ?_⟩) ?_ ?_
            rotate_left
            ·intro w'
             go_simp
             with_reducible rfl
            rotate_left
            ·simp only [Act.put, List.setIfInBounds_toArray, List.set_cons_zero, List.set_cons_succ, i64_w, i32_w]
             rfl
            refine pure_ (i := 8) (N := some 46) (v := ?_) (a' := ?_) #[true, true, true, true, true, true, true, false, true, false, false, false, false, false, false, false] rfl rfl (any_of HT_.out (by kernel_rfl)) (fun _ _ _ h => h) (Or.inl ⟨by rfl, ?_⟩) ?_ ?_
            rotate_left
            ·intro w'
             go_simp
             with_reducible rfl
            rotate_left
            ·simp only [Act.put, List.setIfInBounds_toArray, List.set_cons_zero, List.set_cons_succ, i64_w, i32_w]
             rfl
            refine pure_ (i := 9) (N := some 47) (v := ?_) (a' := ?_) #[true, true, true, true, true, true, true, false, true, true, false, false, false, false, false, false] rfl rfl (any_of HT_.out (by kernel_rfl)) (fun _ _ _ h => h) (Or.inl ⟨by rfl, ?_⟩) ?_ ?_
            rotate_left
            ·intro w'
             go_simp
             with_reducible rfl
            rotate_left
            ·simp only [Act.put, List.setIfInBounds_toArray, List.set_cons_zero, List.set_cons_succ, i64_w, i32_w]
             rfl
            refine pure_ (i := 10) (N := some 48) (v := ?_) (a' := ?_) #[true, true, true, true, true, true, true, false, true, true, true, false, false, false, false, false] rfl rfl (any_of HT_.out (by kernel_rfl)) (fun _ _ _ h => h) (Or.inl ⟨by rfl, ?_⟩) ?_ ?_
            rotate_left
            ·intro w'
             go_simp
             with_reducible rfl
            rotate_left
            ·simp only [Act.put, List.setIfInBounds_toArray, List.set_cons_zero, List.set_cons_succ, i64_w, i32_w]
             rfl
            refine take_ (i := 7) (N := some 45) (v := ?_) (a' := ?_) #[true, true, true, true, true, true, true, true, true, true, true, false, false, false, false, false] rfl rfl (take_ofW HT_.out HW_.out (by kernel_rfl)) (fun _ _ _ h => h) (Or.inl ⟨by rfl, ?_⟩) hHeld ?_ ?_
            rotate_left
            ·rintro w' ⟨s0_, s1_⟩
             refine (load_next (p := .pointer (some ⟨gS, ji14.toNat * 11, none⟩)) rfl (by go_simp) s1_).trans ?_; with_reducible rfl
            rotate_left
            ·simp only [Act.put, List.setIfInBounds_toArray, List.set_cons_zero, List.set_cons_succ, i64_w, i32_w]
             rfl
            refine take_ (i := 11) (N := some 49) (v := ?_) (a' := ?_) #[true, true, true, true, true, true, true, true, true, true, true, true, false, false, false, false] rfl rfl (take_ofW HT_.out HW_.out (by kernel_rfl)) (fun _ _ _ h => h) (Or.inl ⟨by rfl, ?_⟩) hHeld ?_ ?_
            rotate_left
            ·rintro w' ⟨s0_, s1_⟩
             refine (load_next (p := .pointer (some ⟨gS, x6_1.toNat * 11, none⟩)) rfl (by go_simp) s0_).trans ?_; with_reducible rfl
            rotate_left
            ·simp only [Act.put, List.setIfInBounds_toArray, List.set_cons_zero, List.set_cons_succ, i64_w, i32_w]
             rfl
            refine pure_ (i := 12) (N := some 50) (v := ?_) (a' := ?_) #[true, true, true, true, true, true, true, true, true, true, true, true, true, false, false, false] rfl rfl (any_of HT_.out (by kernel_rfl)) (fun _ _ _ h => h) (Or.inl ⟨by rfl, ?_⟩) ?_ ?_
            rotate_left
            ·intro w'
             go_simp
             with_reducible rfl
            rotate_left
            ·simp only [Act.put, List.setIfInBounds_toArray, List.set_cons_zero, List.set_cons_succ, i64_w, i32_w]
             rfl
            refine last_ (i := 13) (N := none) #[true, true, true, true, true, true, true, true, true, true, true, true, true, true, false, false] rfl rfl (one_of HT_.out (by kernel_rfl)) (by decide) (fun K hK => ?_)
            refine skip_ (w1 := ?_) (by rfl) rfl ?_ ?_
            rotate_left
            ·refine (store_next (p := .pointer (some ⟨gS, x6_1.toNat * 11, none⟩)) (v := .agg cB.toArray) rfl (by go_simp) (by go_simp) s1).trans ?_; with_reducible rfl
            refine hK.out _ _ ?_
            clear hK K
            refine pure_ (i := 14) (N := some 51) (v := ?_) (a' := ?_) #[true, true, true, true, true, true, true, true, true, true, true, true, true, true, true, false] rfl rfl (any_of HT_.out (by kernel_rfl)) (fun _ _ _ h => h) (Or.inl ⟨by rfl, ?_⟩) ?_ ?_
            rotate_left
            ·intro w'
             go_simp
             with_reducible rfl
            rotate_left
            ·simp only [Act.put, List.setIfInBounds_toArray, List.set_cons_zero, List.set_cons_succ, i64_w, i32_w]
             rfl
            refine last_ (i := 15) (N := none) #[true, true, true, true, true, true, true, true, true, true, true, true, true, true, true, true] rfl rfl (one_of HT_.out (by kernel_rfl)) (by decide) (fun K hK => ?_)
            refine skip_ (w1 := ?_) (by rfl) rfl ?_ ?_
            rotate_left
            ·refine (store_next (p := .pointer (some ⟨gS, ji14.toNat * 11, none⟩)) (v := .agg cA.toArray) rfl (by go_simp) (by go_simp) s2).trans ?_; with_reducible rfl
            refine hK.out _ _ ?_
            clear hK K
            refine done_ (done_of HT_.out (by kernel_rfl)) ?_
            try go_wp2
            go_roundg k1
            case measure => have := HK1.out; omega
            case rel => exact ⟨(y113), (wrap64 (x6_1 + 1)), (by first | rfl | (simp; done) | (simp [*]; done)), H', ⟨by have := HK1.out; omega⟩, ⟨HQ22.out⟩, ⟨HB.out⟩⟩
           ·rw [if_neg c16] at H
            exact absurd H (by simp)
          ·rw [if_neg c15] at H
           exact absurd H (by simp)
        ·rw [if_neg c12] at H
         exact absurd H (by simp)
       ·rw [if_neg c11] at H
        have c11b0 : decide (x6_1 < (x5_1.length : Int)) = false := decide_eq_false c11
        clear c11
        have H' := Aside0.mk H
        clear H
        obtain ⟨Ao23, co23, eo23⟩ := Kd.R_slice HO_5.out
        subst eo23
        go_wp2
        go_meet
        case rel => exact ⟨_, (x5_1), H', ⟨by have := HK1.out; first | omega | exact Nat.le_refl _⟩, ⟨by (with_reducible repeat (first | apply Kd.R_alloc | apply Kd.R_drewN | apply Kd.R_drew)); exact HO_5.out⟩, ⟨by repeat (first | (with_reducible first | exact HB.out | apply below_alloc | apply pw_below_drewN | apply below_drew1) | exact HB.out)⟩⟩
      ·rw [if_neg c10] at H
       have c10b0 : decide (x6_1 < (l1.length : Int)) = false := decide_eq_false c10
       clear c10
       (first | rw [c10b0] | (simp only [i64_w, i32_w]; rw [c10b0]) | skip)
       have H' := Aside0.mk H
       clear H
       go_wp2
       go_meet
       case rel => exact ⟨_, (x5_1), H', ⟨by have := HK1.out; first | omega | exact Nat.le_refl _⟩, ⟨by (with_reducible repeat (first | apply Kd.R_alloc | apply Kd.R_drewN | apply Kd.R_drew)); exact HO_5.out⟩, ⟨by repeat (first | (with_reducible first | exact HB.out | apply below_alloc | apply pw_below_drewN | apply below_drew1) | exact HB.out)⟩⟩
   case rest =>
    clear HC6
    try clear c1
    try clear p1
    try clear q1
    try clear hx1
    try clear c2
    try clear p2
    try clear c4
    try clear c5
    try clear p6
    try clear c8
    try clear c10
    try clear c10b0
    try clear p10
    try clear q10
    try clear hx10
    try clear c11
    try clear c11b0
    try clear p11
    try clear q11
    try clear hx11
    try clear c12
    try clear c12b0
    try clear c13
    try clear c13b0
    try clear c13b1
    try clear c13b2
    try clear c15
    try clear c15b0
    try clear c16
    try clear c16b0
    try clear c17
    try clear p17
    try clear q17
    try clear hx17
    try clear hf17
    try clear c18
    try clear p18
    try clear q18
    try clear hx18
    try clear hf18
    try clear c21
    try clear c22
    try clear hx109_0
    try clear hx110_0
    try clear hx110_1
    try clear hx110_10
    try clear hx110_2
    try clear hx110_3
    try clear hx110_4
    try clear hx110_5
    try clear hx110_6
    try clear hx110_7
    try clear hx110_8
    try clear hx110_9
    try clear hx111_0
    try clear hx111_1
    try clear hx111_10
    try clear hx111_2
    try clear hx111_3
    try clear hx111_4
    try clear hx111_5
    try clear hx111_6
    try clear hx111_7
    try clear hx111_8
    try clear hx111_9
    try clear hx17_0
    try clear hx17_1
    try clear hx17_10
    try clear hx17_2
    try clear hx17_3
    try clear hx17_4
    try clear hx17_5
    try clear hx17_6
    try clear hx17_7
    try clear hx17_8
    try clear hx17_9
    try clear hx18_0
    try clear hx18_1
    try clear hx18_10
    try clear hx18_2
    try clear hx18_3
    try clear hx18_4
    try clear hx18_5
    try clear hx18_6
    try clear hx18_7
    try clear hx18_8
    try clear hx18_9
    try clear p109
    try clear p110
    try clear p111
    try clear p17
    try clear p18
    try clear p2
    try clear q109
    try clear q110
    try clear q111
    try clear q17
    try clear q18
    obtain ⟨kq, x5_5, HA, HJ5, HO_5, HB⟩ := hcut
    cases kq with
    | zero => exact absurd HA.out (by simp [remoralaw20_FlistSorts.j1])
    | succ kj5 =>
     have H := HA.out
     clear HA
     simp only [remoralaw20_FlistSorts.j1] at H
     replace H := Option.bind_eq_some_iff.mp H
     obtain ⟨t114, A240, H⟩ := H
     replace H : (if (t114.length : Int) = (l0.length : Int) then (remoralaw20_FlistSorts.l1 kj5 l0 t114 1) else (some false)) = some r := H
     have A24 := Aside0.mk A240
     clear A240
     by_cases c25 : (t114.length : Int) = (l0.length : Int)
     ·rw [if_pos c25] at H
      have c25b0 : ((t114.length : Int) == (l0.length : Int)) = true := beq_iff_eq.mpr c25
      have c25b1 : ((t114.length : Int) != (l0.length : Int)) = false := bne_eq_false_iff_eq.mpr c25
      have c25b2 : (t114.length == l0.length) = true := by first | simpa using c25 | (simp at c25 ⊢; omega)
      clear c25
      have H' := Aside0.mk H
      clear H
      obtain ⟨Ao26, co26, eo26⟩ := Kd.R_slice HO_5.out
      subst eo26
      go_wp2_with (first | ((with_reducible refine gate_callee (f := 23) rfl ?_); refine goesL_ (some 53) rfl rfl Tryd.func23 (by kernel_rfl) rfl #[.slice Ao26 x5_5.length co26] rfl (by (try simp only [List.map_toArray, List.map_cons, List.map_nil]); first | done | rfl | (simp only [List.length_drop, List.length_take]; rfl)) ?_; (with_reducible refine (flist_Sort.calls _ _ x5_5 t114 _ ?side1 ?side2 A24.out).mono ?_); (case side1 => repeat (first | exact (Kd.R_reads' HO_5.out).2.2 | (with_reducible refine Kd.C_alloc ?_ _) | (with_reducible refine Kd.C_drewN ?_ _) | (with_reducible refine Kd.C_drew ?_))); (case side2 => exact (Kd.R_reads' HO_5.out).2.1); rintro e w27 ⟨v115, rfl, ho0, hb⟩; refine ⟨_, rfl, ?_⟩; have n0_ := Aside0.mk (Kd.R_elder' (by (with_reducible repeat (first | apply Kd.R_alloc | apply Kd.R_drewN | apply Kd.R_drew)); exact HO_5.out) (Kd.R_base ho0) hb); have n1_ := Aside0.mk (Kd.R_lower (Kd.R_new' ho0 (Kd.R_lt (by (with_reducible repeat (first | apply Kd.R_alloc | apply Kd.R_drewN | apply Kd.R_drew)); exact HO_5.out))) (below_size (by repeat (first | (with_reducible first | exact HB.out | apply below_alloc | apply pw_below_drewN | apply below_drew1) | exact HB.out)))); have n2_ := Aside0.mk (below_step (by repeat (first | (with_reducible first | exact HB.out | apply below_alloc | apply pw_below_drewN | apply below_drew1) | exact HB.out)) hb); clear HO_5; clear HB; have HO_5 := n0_; have HO116 := n1_; have HB := n2_; clear n0_ n1_ n2_; (try clear hb); (try clear hb2); (try clear hk); (try clear hi); (try clear ho0); obtain ⟨Ao28, co28, eo28⟩ := Kd.R_slice HO116.out; subst eo28))
      go_loopg [9] kj5 (fun kq v9 w' => ∃ (x9_2 : Int), v9 = .int .i64 x9_2 ∧ Aside0 (remoralaw20_FlistSorts.l1 kq l0 t114 x9_2 = some r) ∧ Aside0 (kq ≤ kj5) ∧ Aside0 (Kd.R k35 35 w' w.heap.size (fun _ => True) (.slice Ao28 t114.length co28) t114) ∧ Aside0 (Below w.heap.size w w'))
      case atStart => exact ⟨(1), (by first | rfl | (simp; done) | (simp [*]; done)), H', ⟨Nat.le_refl _⟩, ⟨by (with_reducible repeat (first | apply Kd.R_alloc | apply Kd.R_drewN | apply Kd.R_drew)); exact Kd.R_mono HO116.out (fun _ hk => trivial)⟩, ⟨by repeat (first | (with_reducible first | exact HB.out | apply below_alloc | apply pw_below_drewN | apply below_drew1) | exact HB.out)⟩⟩
      case round =>
       clear H'
       try clear c1
       try clear p1
       try clear q1
       try clear hx1
       try clear c2
       try clear p2
       try clear c4
       try clear c5
       try clear p6
       try clear c8
       try clear c10
       try clear c10b0
       try clear p10
       try clear q10
       try clear hx10
       try clear c11
       try clear c11b0
       try clear p11
       try clear q11
       try clear hx11
       try clear c12
       try clear c12b0
       try clear c13
       try clear c13b0
       try clear c13b1
       try clear c13b2
       try clear c15
       try clear c15b0
       try clear c16
       try clear c16b0
       try clear c17
       try clear p17
       try clear q17
       try clear hx17
       try clear hf17
       try clear c18
       try clear p18
       try clear q18
       try clear hx18
       try clear hf18
       try clear c21
       try clear c22
       try clear c23
       try clear c25
       try clear c25b0
       try clear c25b1
       try clear c25b2
       try clear hx109_0
       try clear hx110_0
       try clear hx110_1
       try clear hx110_10
       try clear hx110_2
       try clear hx110_3
       try clear hx110_4
       try clear hx110_5
       try clear hx110_6
       try clear hx110_7
       try clear hx110_8
       try clear hx110_9
       try clear hx111_0
       try clear hx111_1
       try clear hx111_10
       try clear hx111_2
       try clear hx111_3
       try clear hx111_4
       try clear hx111_5
       try clear hx111_6
       try clear hx111_7
       try clear hx111_8
       try clear hx111_9
       try clear hx17_0
       try clear hx17_1
       try clear hx17_10
       try clear hx17_2
       try clear hx17_3
       try clear hx17_4
       try clear hx17_5
       try clear hx17_6
       try clear hx17_7
       try clear hx17_8
       try clear hx17_9
       try clear hx18_0
       try clear hx18_1
       try clear hx18_10
       try clear hx18_2
       try clear hx18_3
       try clear hx18_4
       try clear hx18_5
       try clear hx18_6
       try clear hx18_7
       try clear hx18_8
       try clear hx18_9
       try clear p1
       try clear p10
       try clear p109
       try clear p11
       try clear p110
       try clear p111
       try clear p17
       try clear p18
       try clear p2
       try clear p6
       try clear q1
       try clear q10
       try clear q109
       try clear q11
       try clear q110
       try clear q111
       try clear q17
       try clear q18
       obtain ⟨x9_2, rfl, HA, HK2, HO_8, HB⟩ := hrel
       cases gk with
       | zero => exact absurd HA.out (by simp [remoralaw20_FlistSorts.l1])
       | succ k2 =>
        have H := HA.out
        clear HA
        simp only [remoralaw20_FlistSorts.l1] at H
        by_cases c29 : x9_2 < (t114.length : Int)
        ·rw [if_pos c29] at H
         have c29b0 : decide (x9_2 < (t114.length : Int)) = true := decide_eq_true c29
         clear c29
         by_cases c30 : 0 ≤ x9_2
         ·rw [if_pos c30] at H
          have c30b0 : decide (0 ≤ x9_2) = true := decide_eq_true c30
          clear c30
          obtain ⟨ji31, hji31⟩ : ∃ j_ : Int, (wrap64 (x9_2 - 1)) = j_ := ⟨_, rfl⟩
          replace H : (if 0 ≤ (ji31) then (if (ji31) < (t114.length : Int) then ((remoraref13_Less.f k2 ((rd_T35 t114 x9_2).f0) ((rd_T35 t114 (ji31)).f0)).bind fun t119 => (if t119 = true then (some false) else (remoralaw20_FlistSorts.l1 k2 l0 t114 (wrap64 (x9_2 + 1))))) else (none)) else (none)) = some r := by first | (rw [hji31] at H; exact H) | (simp only [hji31] at H ⊢; exact H)
          have hji31w : (IntKind.i64.wrap (x9_2 - 1)) = ji31 := (i64_w _).trans hji31
          by_cases c32 : 0 ≤ (ji31)
          ·rw [if_pos c32] at H
           have c32b0 : decide (0 ≤ (ji31)) = true := decide_eq_true c32
           clear c32
           by_cases c33 : (ji31) < (t114.length : Int)
           ·rw [if_pos c33] at H
            have c33b0 : decide ((ji31) < (t114.length : Int)) = true := decide_eq_true c33
            clear c33
            replace H := Option.bind_eq_some_iff.mp H
            obtain ⟨t119, A340, H⟩ := H
            replace H : (if t119 = true then (some false) else (remoralaw20_FlistSorts.l1 k2 l0 t114 (wrap64 (x9_2 + 1)))) = some r := H
            have A34 := Aside0.mk A340
            clear A340
            by_cases c35 : t119 = true
            ·subst c35
             have H1 : (some false) = some r := by rw [if_pos rfl] at H; exact H
             clear H
             have H := H1
             clear H1
             obtain rfl := Option.some.inj H
             try go_wp2
             have n0_ := Aside0.mk (Kd.R_drew HO_8.out)
             have n1_ := Aside0.mk (below_drew1 HB.out)
             clear HO_8
             clear HB
             have HO_8 := n0_
             have HB := n1_
             clear n0_ n1_
             have p117 : 0 ≤ (x9_2 : Int) := of_decide_eq_true (by first | (with_reducible assumption) | assumption)
             have q117 : x9_2 < (t114.length : Int) := of_decide_eq_true (by first | (with_reducible assumption) | assumption)
             obtain ⟨ad117, e117, hx117_0, hx117_1, hx117_2, hx117_3, hx117_4, hx117_5, hx117_6, hx117_7, hx117_8, hx117_9, hx117_10⟩ := at_T35 (Kd.R_reads' HO_8.out).2.2 x9_2 p117 q117
             cases e117
             replace p117 := eq_true p117
             replace q117 := eq_true q117
             have p118 : 0 ≤ ((ji31) : Int) := of_decide_eq_true (by first | (with_reducible assumption) | assumption)
             have q118 : (ji31) < (t114.length : Int) := of_decide_eq_true (by first | (with_reducible assumption) | assumption)
             obtain ⟨ad118, e118, hx118_0, hx118_1, hx118_2, hx118_3, hx118_4, hx118_5, hx118_6, hx118_7, hx118_8, hx118_9, hx118_10⟩ := at_T35 (Kd.R_reads' HO_8.out).2.2 (ji31) p118 q118
             obtain rfl : ad117 = ad118 := (by injection e118)
             replace p118 := eq_true p118
             replace q118 := eq_true q118
             refine start_ (n := 12) (S := fun w' => w'.cell? (ad117.add ((x9_2).toNat * 11)) = some (.string ((rd_T35 t114 x9_2).f0)) ∧ w'.cell? ⟨(ad117.add ((x9_2).toNat * 11)).block, (ad117.add ((x9_2).toNat * 11)).off + 1, none⟩ = some (.int .i64 ((rd_T35 t114 x9_2).f1)) ∧ w'.cell? ⟨(ad117.add ((x9_2).toNat * 11)).block, (ad117.add ((x9_2).toNat * 11)).off + 2, none⟩ = some (.int .i64 ((rd_T35 t114 x9_2).f2)) ∧ w'.cell? ⟨(ad117.add ((x9_2).toNat * 11)).block, (ad117.add ((x9_2).toNat * 11)).off + 3, none⟩ = some (.int .i64 ((rd_T35 t114 x9_2).f3.f0)) ∧ w'.cell? ⟨(ad117.add ((x9_2).toNat * 11)).block, (ad117.add ((x9_2).toNat * 11)).off + 4, none⟩ = some (.int .i64 ((rd_T35 t114 x9_2).f3.f1)) ∧ w'.cell? ⟨(ad117.add ((x9_2).toNat * 11)).block, (ad117.add ((x9_2).toNat * 11)).off + 5, none⟩ = some (.int .i64 ((rd_T35 t114 x9_2).f3.f2)) ∧ w'.cell? ⟨(ad117.add ((x9_2).toNat * 11)).block, (ad117.add ((x9_2).toNat * 11)).off + 6, none⟩ = some (.int .i64 ((rd_T35 t114 x9_2).f3.f3)) ∧ w'.cell? ⟨(ad117.add ((x9_2).toNat * 11)).block, (ad117.add ((x9_2).toNat * 11)).off + 7, none⟩ = some (.int .i64 ((rd_T35 t114 x9_2).f3.f4)) ∧ w'.cell? ⟨(ad117.add ((x9_2).toNat * 11)).block, (ad117.add ((x9_2).toNat * 11)).off + 8, none⟩ = some (.string ((rd_T35 t114 x9_2).f4)) ∧ w'.cell? ⟨(ad117.add ((x9_2).toNat * 11)).block, (ad117.add ((x9_2).toNat * 11)).off + 9, none⟩ = some (.string ((rd_T35 t114 x9_2).f5)) ∧ w'.cell? ⟨(ad117.add ((x9_2).toNat * 11)).block, (ad117.add ((x9_2).toNat * 11)).off + 10, none⟩ = some (.int .i64 ((rd_T35 t114 x9_2).f6)) ∧ w'.cell? (ad117.add (((ji31)).toNat * 11)) = some (.string ((rd_T35 t114 (ji31)).f0)) ∧ w'.cell? ⟨(ad117.add (((ji31)).toNat * 11)).block, (ad117.add (((ji31)).toNat * 11)).off + 1, none⟩ = some (.int .i64 ((rd_T35 t114 (ji31)).f1)) ∧ w'.cell? ⟨(ad117.add (((ji31)).toNat * 11)).block, (ad117.add (((ji31)).toNat * 11)).off + 2, none⟩ = some (.int .i64 ((rd_T35 t114 (ji31)).f2)) ∧ w'.cell? ⟨(ad117.add (((ji31)).toNat * 11)).block, (ad117.add (((ji31)).toNat * 11)).off + 3, none⟩ = some (.int .i64 ((rd_T35 t114 (ji31)).f3.f0)) ∧ w'.cell? ⟨(ad117.add (((ji31)).toNat * 11)).block, (ad117.add (((ji31)).toNat * 11)).off + 4, none⟩ = some (.int .i64 ((rd_T35 t114 (ji31)).f3.f1)) ∧ w'.cell? ⟨(ad117.add (((ji31)).toNat * 11)).block, (ad117.add (((ji31)).toNat * 11)).off + 5, none⟩ = some (.int .i64 ((rd_T35 t114 (ji31)).f3.f2)) ∧ w'.cell? ⟨(ad117.add (((ji31)).toNat * 11)).block, (ad117.add (((ji31)).toNat * 11)).off + 6, none⟩ = some (.int .i64 ((rd_T35 t114 (ji31)).f3.f3)) ∧ w'.cell? ⟨(ad117.add (((ji31)).toNat * 11)).block, (ad117.add (((ji31)).toNat * 11)).off + 7, none⟩ = some (.int .i64 ((rd_T35 t114 (ji31)).f3.f4)) ∧ w'.cell? ⟨(ad117.add (((ji31)).toNat * 11)).block, (ad117.add (((ji31)).toNat * 11)).off + 8, none⟩ = some (.string ((rd_T35 t114 (ji31)).f4)) ∧ w'.cell? ⟨(ad117.add (((ji31)).toNat * 11)).block, (ad117.add (((ji31)).toNat * 11)).off + 9, none⟩ = some (.string ((rd_T35 t114 (ji31)).f5)) ∧ w'.cell? ⟨(ad117.add (((ji31)).toNat * 11)).block, (ad117.add (((ji31)).toNat * 11)).off + 10, none⟩ = some (.int .i64 ((rd_T35 t114 (ji31)).f6))) (ds := []) #[false, false, false, false, false, false, false, false, false, false, false, false] (by kernel_rfl) rfl rfl ⟨hx117_0, hx117_1, hx117_2, hx117_3, hx117_4, hx117_5, hx117_6, hx117_7, hx117_8, hx117_9, hx117_10, hx118_0, hx118_1, hx118_2, hx118_3, hx118_4, hx118_5, hx118_6, hx118_7, hx118_8, hx118_9, hx118_10⟩ (fun hHeld => ?_); refine with_tabW remoralaw20_FlistSorts.tab15 remoralaw20_FlistSorts.bits15 (fun HT_ HW_ => ?_)
             generalize wr.drew = w36 at HO_8 HB hx117_0 hx117_1 hx117_10 hx117_2 hx117_3 hx117_4 hx117_5 hx117_6 hx117_7 hx117_8 hx117_9 hx118_0 hx118_1 hx118_10 hx118_2 hx118_3 hx118_4 hx118_5 hx118_6 hx118_7 hx118_8 hx118_9 hHeld ⊢
             refine pure_ (i := 0) (N := some 65) (v := ?_) (a' := ?_) #[true, false, false, false, false, false, false, false, false, false, false, false] rfl rfl (any_of HT_.out (by kernel_rfl)) (fun _ _ _ h => h) (Or.inl ⟨by rfl, ?_⟩) ?_ ?_
             rotate_left
             ·intro w'
              go_simp
              with_reducible rfl
             rotate_left
             ·simp only [Act.put, List.setIfInBounds_toArray, List.set_cons_zero, List.set_cons_succ, i64_w, i32_w]
              rfl
             refine pure_ (i := 1) (N := some 66) (v := ?_) (a' := ?_) #[true, true, false, false, false, false, false, false, false, false, false, false] rfl rfl (any_of HT_.out (by kernel_rfl)) (fun _ _ _ h => h) (Or.inl ⟨by rfl, ?_⟩) ?_ ?_
             rotate_left
             ·intro w'
              go_simp
              with_reducible rfl
             rotate_left
             ·simp only [Act.put, List.setIfInBounds_toArray, List.set_cons_zero, List.set_cons_succ, i64_w, i32_w]
              rfl
             refine pure_ (i := 2) (N := some 67) (v := ?_) (a' := ?_) #[true, true, true, false, false, false, false, false, false, false, false, false] rfl rfl (any_of HT_.out (by kernel_rfl)) (fun _ _ _ h => h) (Or.inl ⟨by rfl, ?_⟩) ?_ ?_
             rotate_left
             ·intro w'
              go_simp
              with_reducible rfl
             rotate_left
             ·simp only [Act.put, List.setIfInBounds_toArray, List.set_cons_zero, List.set_cons_succ, i64_w, i32_w]
              rfl
             refine pure_ (i := 3) (N := some 68) (v := ?_) (a' := ?_) #[true, true, true, true, false, false, false, false, false, false, false, false] rfl rfl (any_of HT_.out (by kernel_rfl)) (fun _ _ _ h => h) (Or.inl ⟨by rfl, ?_⟩) ?_ ?_
             rotate_left
             ·intro w'
              go_simp
              with_reducible rfl
             rotate_left
             ·simp only [Act.put, List.setIfInBounds_toArray, List.set_cons_zero, List.set_cons_succ, i64_w, i32_w]
              rfl
             refine pure_ (i := 5) (N := some 70) (v := ?_) (a' := ?_) #[true, true, true, true, false, true, false, false, false, false, false, false] rfl rfl (any_of HT_.out (by kernel_rfl)) (fun _ _ _ h => h) (Or.inl ⟨by rfl, ?_⟩) ?_ ?_
             rotate_left
             ·intro w'
              go_simp
              with_reducible rfl
             rotate_left
             ·simp only [Act.put, List.setIfInBounds_toArray, List.set_cons_zero, List.set_cons_succ, i64_w, i32_w]
              rfl
             refine pure_ (i := 6) (N := some 71) (v := ?_) (a' := ?_) #[true, true, true, true, false, true, true, false, false, false, false, false] rfl rfl (any_of HT_.out (by kernel_rfl)) (fun _ _ _ h => h) (Or.inl ⟨by rfl, ?_⟩) ?_ ?_
             rotate_left
             ·intro w'
              go_simp
              with_reducible rfl
             rotate_left
             ·simp only [Act.put, List.setIfInBounds_toArray, List.set_cons_zero, List.set_cons_succ, i64_w, i32_w]
              rfl
             refine pure_ (i := 7) (N := some 72) (v := ?_) (a' := ?_) #[true, true, true, true, false, true, true, true, false, false, false, false] rfl rfl (any_of HT_.out (by kernel_rfl)) (fun _ _ _ h => h) (Or.inl ⟨by rfl, ?_⟩) ?_ ?_
             rotate_left
             ·intro w'
              go_simp
              with_reducible rfl
             rotate_left
             ·simp only [Act.put, List.setIfInBounds_toArray, List.set_cons_zero, List.set_cons_succ, i64_w, i32_w]
              rfl
             refine pure_ (i := 8) (N := some 73) (v := ?_) (a' := ?_) #[true, true, true, true, false, true, true, true, true, false, false, false] rfl rfl (any_of HT_.out (by kernel_rfl)) (fun _ _ _ h => h) (Or.inl ⟨by rfl, ?_⟩) ?_ ?_
             rotate_left
             ·intro w'
              go_simp
              with_reducible rfl
             rotate_left
             ·simp only [Act.put, List.setIfInBounds_toArray, List.set_cons_zero, List.set_cons_succ, i64_w, i32_w]
              rfl
             refine pure_ (i := 9) (N := some 74) (v := ?_) (a' := ?_) #[true, true, true, true, false, true, true, true, true, true, false, false] rfl rfl (any_of HT_.out (by kernel_rfl)) (fun _ _ _ h => h) (Or.inl ⟨by rfl, ?_⟩) ?_ ?_
             rotate_left
             ·intro w'
              go_simp
              with_reducible rfl
             rotate_left
             ·simp only [Act.put, List.setIfInBounds_toArray, List.set_cons_zero, List.set_cons_succ, i64_w, i32_w]
              rfl
             refine take_ (i := 4) (N := some 69) (v := ?_) (a' := ?_) #[true, true, true, true, true, true, true, true, true, true, false, false] rfl rfl (take_ofW HT_.out HW_.out (by kernel_rfl)) (fun _ _ _ h => h) (Or.inl ⟨by rfl, ?_⟩) hHeld ?_ ?_
             rotate_left
             ·rintro w' ⟨s0, s1, s2, s3, s4, s5, s6, s7, s8, s9, s10, s11, s12, s13, s14, s15, s16, s17, s18, s19, s20, s21⟩
              go_simp
              with_reducible rfl
             rotate_left
             ·simp only [Act.put, List.setIfInBounds_toArray, List.set_cons_zero, List.set_cons_succ, i64_w, i32_w]
              rfl
             refine take_ (i := 10) (N := some 75) (v := ?_) (a' := ?_) #[true, true, true, true, true, true, true, true, true, true, true, false] rfl rfl (take_ofW HT_.out HW_.out (by kernel_rfl)) (fun _ _ _ h => h) (Or.inl ⟨by rfl, ?_⟩) hHeld ?_ ?_
             rotate_left
             ·rintro w' ⟨s0, s1, s2, s3, s4, s5, s6, s7, s8, s9, s10, s11, s12, s13, s14, s15, s16, s17, s18, s19, s20, s21⟩
              go_simp
              with_reducible rfl
             rotate_left
             ·simp only [Act.put, List.setIfInBounds_toArray, List.set_cons_zero, List.set_cons_succ, i64_w, i32_w]
              rfl
             refine one_ (i := 11) (N := some 76) #[true, true, true, true, true, true, true, true, true, true, true, true] rfl rfl (one_of HT_.out (by kernel_rfl)) (by decide) (fun K hK => ?_)
             refine goes_ Tryd.func24 (by kernel_rfl) rfl #[.string ((rd_T35 t114 x9_2).f0), .string ((rd_T35 t114 (ji31)).f0)] (by rfl) rfl rfl (by (try simp only [List.map_toArray, List.map_cons, List.map_nil]); first | done | (simp only [hji31]; rfl) | rfl | (simp only [List.length_drop, List.length_take]; rfl)) ?_
             with_reducible refine (remoraref13_Less.calls k2 ((rd_T35 t114 x9_2).f0) ((rd_T35 t114 (ji31)).f0) true _ A34.out).mono ?_
             rintro e w37 ⟨rfl, hb⟩
             have HS0_ := (hb.cell (World.block_lt_of_cell? _ _ (hHeld.1))).trans (hHeld.1)
             have HS1_ := (hb.cell (World.block_lt_of_cell? _ _ (hHeld.2.1))).trans (hHeld.2.1)
             have HS2_ := (hb.cell (World.block_lt_of_cell? _ _ (hHeld.2.2.1))).trans (hHeld.2.2.1)
             have HS3_ := (hb.cell (World.block_lt_of_cell? _ _ (hHeld.2.2.2.1))).trans (hHeld.2.2.2.1)
             have HS4_ := (hb.cell (World.block_lt_of_cell? _ _ (hHeld.2.2.2.2.1))).trans (hHeld.2.2.2.2.1)
             have HS5_ := (hb.cell (World.block_lt_of_cell? _ _ (hHeld.2.2.2.2.2.1))).trans (hHeld.2.2.2.2.2.1)
             have HS6_ := (hb.cell (World.block_lt_of_cell? _ _ (hHeld.2.2.2.2.2.2.1))).trans (hHeld.2.2.2.2.2.2.1)
             have HS7_ := (hb.cell (World.block_lt_of_cell? _ _ (hHeld.2.2.2.2.2.2.2.1))).trans (hHeld.2.2.2.2.2.2.2.1)
             have HS8_ := (hb.cell (World.block_lt_of_cell? _ _ (hHeld.2.2.2.2.2.2.2.2.1))).trans (hHeld.2.2.2.2.2.2.2.2.1)
             have HS9_ := (hb.cell (World.block_lt_of_cell? _ _ (hHeld.2.2.2.2.2.2.2.2.2.1))).trans (hHeld.2.2.2.2.2.2.2.2.2.1)
             have HS10_ := (hb.cell (World.block_lt_of_cell? _ _ (hHeld.2.2.2.2.2.2.2.2.2.2.1))).trans (hHeld.2.2.2.2.2.2.2.2.2.2.1)
             have HS11_ := (hb.cell (World.block_lt_of_cell? _ _ (hHeld.2.2.2.2.2.2.2.2.2.2.2.1))).trans (hHeld.2.2.2.2.2.2.2.2.2.2.2.1)
             have HS12_ := (hb.cell (World.block_lt_of_cell? _ _ (hHeld.2.2.2.2.2.2.2.2.2.2.2.2.1))).trans (hHeld.2.2.2.2.2.2.2.2.2.2.2.2.1)
             have HS13_ := (hb.cell (World.block_lt_of_cell? _ _ (hHeld.2.2.2.2.2.2.2.2.2.2.2.2.2.1))).trans (hHeld.2.2.2.2.2.2.2.2.2.2.2.2.2.1)
             have HS14_ := (hb.cell (World.block_lt_of_cell? _ _ (hHeld.2.2.2.2.2.2.2.2.2.2.2.2.2.2.1))).trans (hHeld.2.2.2.2.2.2.2.2.2.2.2.2.2.2.1)
             have HS15_ := (hb.cell (World.block_lt_of_cell? _ _ (hHeld.2.2.2.2.2.2.2.2.2.2.2.2.2.2.2.1))).trans (hHeld.2.2.2.2.2.2.2.2.2.2.2.2.2.2.2.1)
             have HS16_ := (hb.cell (World.block_lt_of_cell? _ _ (hHeld.2.2.2.2.2.2.2.2.2.2.2.2.2.2.2.2.1))).trans (hHeld.2.2.2.2.2.2.2.2.2.2.2.2.2.2.2.2.1)
             have HS17_ := (hb.cell (World.block_lt_of_cell? _ _ (hHeld.2.2.2.2.2.2.2.2.2.2.2.2.2.2.2.2.2.1))).trans (hHeld.2.2.2.2.2.2.2.2.2.2.2.2.2.2.2.2.2.1)
             have HS18_ := (hb.cell (World.block_lt_of_cell? _ _ (hHeld.2.2.2.2.2.2.2.2.2.2.2.2.2.2.2.2.2.2.1))).trans (hHeld.2.2.2.2.2.2.2.2.2.2.2.2.2.2.2.2.2.2.1)
             have HS19_ := (hb.cell (World.block_lt_of_cell? _ _ (hHeld.2.2.2.2.2.2.2.2.2.2.2.2.2.2.2.2.2.2.2.1))).trans (hHeld.2.2.2.2.2.2.2.2.2.2.2.2.2.2.2.2.2.2.2.1)
             have HS20_ := (hb.cell (World.block_lt_of_cell? _ _ (hHeld.2.2.2.2.2.2.2.2.2.2.2.2.2.2.2.2.2.2.2.2.1))).trans (hHeld.2.2.2.2.2.2.2.2.2.2.2.2.2.2.2.2.2.2.2.2.1)
             have HS21_ := (hb.cell (World.block_lt_of_cell? _ _ (hHeld.2.2.2.2.2.2.2.2.2.2.2.2.2.2.2.2.2.2.2.2.2))).trans (hHeld.2.2.2.2.2.2.2.2.2.2.2.2.2.2.2.2.2.2.2.2.2)
             refine ⟨_, rfl, ?_⟩
             have n0_ := Aside0.mk (Kd.R_below (by (with_reducible repeat (first | apply Kd.R_alloc | apply Kd.R_drewN | apply Kd.R_drew)); exact HO_8.out) hb)
             have n1_ := Aside0.mk (below_step (by repeat (first | (with_reducible first | exact HB.out | apply below_alloc | apply pw_below_drewN | apply below_drew1) | exact HB.out)) hb)
             clear HO_8
             clear HB
             have HO_8 := n0_
             have HB := n1_
             clear n0_ n1_
             (try clear hb)
             (try clear hb2)
             (try clear hk)
             (try clear hi)
             refine hK.out _ _ ⟨HS0_, HS1_, HS2_, HS3_, HS4_, HS5_, HS6_, HS7_, HS8_, HS9_, HS10_, HS11_, HS12_, HS13_, HS14_, HS15_, HS16_, HS17_, HS18_, HS19_, HS20_, HS21_⟩ (fun hHeld => ?_)
             clear hK K
             refine norm_ (a' := ?_) ?_ ?_
             rotate_left
             ·show Act.put _ (some 76) _ = _
              simp only [Act.put, List.setIfInBounds_toArray, List.set_cons_zero, List.set_cons_succ, i64_w, i32_w]
              rfl
             refine done_ (done_of HT_.out (by kernel_rfl)) ?_
             try go_wp2
             go_ret
             exact ⟨by first | rfl | (simp [errW_none, errW_some] <;> rfl) | (simp only [← hji31]; first | rfl | (simp [errW_none, errW_some] <;> rfl)) | (simp [*, errW_none, errW_some] <;> rfl), by repeat (first | (with_reducible first | exact HB.out | apply below_alloc | apply pw_below_drewN | apply below_drew1) | exact HB.out)⟩
            ·replace c35 := Bool.eq_false_iff.mpr c35
             subst c35
             have H1 : (remoralaw20_FlistSorts.l1 k2 l0 t114 (wrap64 (x9_2 + 1))) = some r := by rw [if_neg (show ¬ (false = true) by decide)] at H; exact H
             clear H
             have H := H1
             clear H1
             have H' := Aside0.mk H
             clear H
             try go_wp2
             have n0_ := Aside0.mk (Kd.R_drew HO_8.out)
             have n1_ := Aside0.mk (below_drew1 HB.out)
             clear HO_8
             clear HB
             have HO_8 := n0_
             have HB := n1_
             clear n0_ n1_
             have p117 : 0 ≤ (x9_2 : Int) := of_decide_eq_true (by first | (with_reducible assumption) | assumption)
             have q117 : x9_2 < (t114.length : Int) := of_decide_eq_true (by first | (with_reducible assumption) | assumption)
             obtain ⟨ad117, e117, hx117_0, hx117_1, hx117_2, hx117_3, hx117_4, hx117_5, hx117_6, hx117_7, hx117_8, hx117_9, hx117_10⟩ := at_T35 (Kd.R_reads' HO_8.out).2.2 x9_2 p117 q117
             cases e117
             replace p117 := eq_true p117
             replace q117 := eq_true q117
             have p118 : 0 ≤ ((ji31) : Int) := of_decide_eq_true (by first | (with_reducible assumption) | assumption)
             have q118 : (ji31) < (t114.length : Int) := of_decide_eq_true (by first | (with_reducible assumption) | assumption)
             obtain ⟨ad118, e118, hx118_0, hx118_1, hx118_2, hx118_3, hx118_4, hx118_5, hx118_6, hx118_7, hx118_8, hx118_9, hx118_10⟩ := at_T35 (Kd.R_reads' HO_8.out).2.2 (ji31) p118 q118
             obtain rfl : ad117 = ad118 := (by injection e118)
             replace p118 := eq_true p118
             replace q118 := eq_true q118
             refine start_ (n := 12) (S := fun w' => w'.cell? (ad117.add ((x9_2).toNat * 11)) = some (.string ((rd_T35 t114 x9_2).f0)) ∧ w'.cell? ⟨(ad117.add ((x9_2).toNat * 11)).block, (ad117.add ((x9_2).toNat * 11)).off + 1, none⟩ = some (.int .i64 ((rd_T35 t114 x9_2).f1)) ∧ w'.cell? ⟨(ad117.add ((x9_2).toNat * 11)).block, (ad117.add ((x9_2).toNat * 11)).off + 2, none⟩ = some (.int .i64 ((rd_T35 t114 x9_2).f2)) ∧ w'.cell? ⟨(ad117.add ((x9_2).toNat * 11)).block, (ad117.add ((x9_2).toNat * 11)).off + 3, none⟩ = some (.int .i64 ((rd_T35 t114 x9_2).f3.f0)) ∧ w'.cell? ⟨(ad117.add ((x9_2).toNat * 11)).block, (ad117.add ((x9_2).toNat * 11)).off + 4, none⟩ = some (.int .i64 ((rd_T35 t114 x9_2).f3.f1)) ∧ w'.cell? ⟨(ad117.add ((x9_2).toNat * 11)).block, (ad117.add ((x9_2).toNat * 11)).off + 5, none⟩ = some (.int .i64 ((rd_T35 t114 x9_2).f3.f2)) ∧ w'.cell? ⟨(ad117.add ((x9_2).toNat * 11)).block, (ad117.add ((x9_2).toNat * 11)).off + 6, none⟩ = some (.int .i64 ((rd_T35 t114 x9_2).f3.f3)) ∧ w'.cell? ⟨(ad117.add ((x9_2).toNat * 11)).block, (ad117.add ((x9_2).toNat * 11)).off + 7, none⟩ = some (.int .i64 ((rd_T35 t114 x9_2).f3.f4)) ∧ w'.cell? ⟨(ad117.add ((x9_2).toNat * 11)).block, (ad117.add ((x9_2).toNat * 11)).off + 8, none⟩ = some (.string ((rd_T35 t114 x9_2).f4)) ∧ w'.cell? ⟨(ad117.add ((x9_2).toNat * 11)).block, (ad117.add ((x9_2).toNat * 11)).off + 9, none⟩ = some (.string ((rd_T35 t114 x9_2).f5)) ∧ w'.cell? ⟨(ad117.add ((x9_2).toNat * 11)).block, (ad117.add ((x9_2).toNat * 11)).off + 10, none⟩ = some (.int .i64 ((rd_T35 t114 x9_2).f6)) ∧ w'.cell? (ad117.add (((ji31)).toNat * 11)) = some (.string ((rd_T35 t114 (ji31)).f0)) ∧ w'.cell? ⟨(ad117.add (((ji31)).toNat * 11)).block, (ad117.add (((ji31)).toNat * 11)).off + 1, none⟩ = some (.int .i64 ((rd_T35 t114 (ji31)).f1)) ∧ w'.cell? ⟨(ad117.add (((ji31)).toNat * 11)).block, (ad117.add (((ji31)).toNat * 11)).off + 2, none⟩ = some (.int .i64 ((rd_T35 t114 (ji31)).f2)) ∧ w'.cell? ⟨(ad117.add (((ji31)).toNat * 11)).block, (ad117.add (((ji31)).toNat * 11)).off + 3, none⟩ = some (.int .i64 ((rd_T35 t114 (ji31)).f3.f0)) ∧ w'.cell? ⟨(ad117.add (((ji31)).toNat * 11)).block, (ad117.add (((ji31)).toNat * 11)).off + 4, none⟩ = some (.int .i64 ((rd_T35 t114 (ji31)).f3.f1)) ∧ w'.cell? ⟨(ad117.add (((ji31)).toNat * 11)).block, (ad117.add (((ji31)).toNat * 11)).off + 5, none⟩ = some (.int .i64 ((rd_T35 t114 (ji31)).f3.f2)) ∧ w'.cell? ⟨(ad117.add (((ji31)).toNat * 11)).block, (ad117.add (((ji31)).toNat * 11)).off + 6, none⟩ = some (.int .i64 ((rd_T35 t114 (ji31)).f3.f3)) ∧ w'.cell? ⟨(ad117.add (((ji31)).toNat * 11)).block, (ad117.add (((ji31)).toNat * 11)).off + 7, none⟩ = some (.int .i64 ((rd_T35 t114 (ji31)).f3.f4)) ∧ w'.cell? ⟨(ad117.add (((ji31)).toNat * 11)).block, (ad117.add (((ji31)).toNat * 11)).off + 8, none⟩ = some (.string ((rd_T35 t114 (ji31)).f4)) ∧ w'.cell? ⟨(ad117.add (((ji31)).toNat * 11)).block, (ad117.add (((ji31)).toNat * 11)).off + 9, none⟩ = some (.string ((rd_T35 t114 (ji31)).f5)) ∧ w'.cell? ⟨(ad117.add (((ji31)).toNat * 11)).block, (ad117.add (((ji31)).toNat * 11)).off + 10, none⟩ = some (.int .i64 ((rd_T35 t114 (ji31)).f6))) (ds := []) #[false, false, false, false, false, false, false, false, false, false, false, false] (by kernel_rfl) rfl rfl ⟨hx117_0, hx117_1, hx117_2, hx117_3, hx117_4, hx117_5, hx117_6, hx117_7, hx117_8, hx117_9, hx117_10, hx118_0, hx118_1, hx118_2, hx118_3, hx118_4, hx118_5, hx118_6, hx118_7, hx118_8, hx118_9, hx118_10⟩ (fun hHeld => ?_); refine with_tabW remoralaw20_FlistSorts.tab15 remoralaw20_FlistSorts.bits15 (fun HT_ HW_ => ?_)
             generalize wr.drew = w38 at HO_8 HB hx117_0 hx117_1 hx117_10 hx117_2 hx117_3 hx117_4 hx117_5 hx117_6 hx117_7 hx117_8 hx117_9 hx118_0 hx118_1 hx118_10 hx118_2 hx118_3 hx118_4 hx118_5 hx118_6 hx118_7 hx118_8 hx118_9 hHeld ⊢
             refine pure_ (i := 0) (N := some 65) (v := ?_) (a' := ?_) #[true, false, false, false, false, false, false, false, false, false, false, false] rfl rfl (any_of HT_.out (by kernel_rfl)) (fun _ _ _ h => h) (Or.inl ⟨by rfl, ?_⟩) ?_ ?_
             rotate_left
             ·intro w'
              go_simp
              with_reducible rfl
             rotate_left
             ·simp only [Act.put, List.setIfInBounds_toArray, List.set_cons_zero, List.set_cons_succ, i64_w, i32_w]
              rfl
             refine pure_ (i := 1) (N := some 66) (v := ?_) (a' := ?_) #[true, true, false, false, false, false, false, false, false, false, false, false] rfl rfl (any_of HT_.out (by kernel_rfl)) (fun _ _ _ h => h) (Or.inl ⟨by rfl, ?_⟩) ?_ ?_
             rotate_left
             ·intro w'
              go_simp
              with_reducible rfl
             rotate_left
             ·simp only [Act.put, List.setIfInBounds_toArray, List.set_cons_zero, List.set_cons_succ, i64_w, i32_w]
              rfl
             refine pure_ (i := 2) (N := some 67) (v := ?_) (a' := ?_) #[true, true, true, false, false, false, false, false, false, false, false, false] rfl rfl (any_of HT_.out (by kernel_rfl)) (fun _ _ _ h => h) (Or.inl ⟨by rfl, ?_⟩) ?_ ?_
             rotate_left
             ·intro w'
              go_simp
              with_reducible rfl
             rotate_left
             ·simp only [Act.put, List.setIfInBounds_toArray, List.set_cons_zero, List.set_cons_succ, i64_w, i32_w]
              rfl
             refine pure_ (i := 3) (N := some 68) (v := ?_) (a' := ?_) #[true, true, true, true, false, false, false, false, false, false, false, false] rfl rfl (any_of HT_.out (by kernel_rfl)) (fun _ _ _ h => h) (Or.inl ⟨by rfl, ?_⟩) ?_ ?_
             rotate_left
             ·intro w'
              go_simp
              with_reducible rfl
             rotate_left
             ·simp only [Act.put, List.setIfInBounds_toArray, List.set_cons_zero, List.set_cons_succ, i64_w, i32_w]
              rfl
             refine pure_ (i := 5) (N := some 70) (v := ?_) (a' := ?_) #[true, true, true, true, false, true, false, false, false, false, false, false] rfl rfl (any_of HT_.out (by kernel_rfl)) (fun _ _ _ h => h) (Or.inl ⟨by rfl, ?_⟩) ?_ ?_
             rotate_left
             ·intro w'
              go_simp
              with_reducible rfl
             rotate_left
             ·simp only [Act.put, List.setIfInBounds_toArray, List.set_cons_zero, List.set_cons_succ, i64_w, i32_w]
              rfl
             refine pure_ (i := 6) (N := some 71) (v := ?_) (a' := ?_) #[true, true, true, true, false, true, true, false, false, false, false, false] rfl rfl (any_of HT_.out (by kernel_rfl)) (fun _ _ _ h => h) (Or.inl ⟨by rfl, ?_⟩) ?_ ?_
             rotate_left
             ·intro w'
              go_simp
              with_reducible rfl
             rotate_left
             ·simp only [Act.put, List.setIfInBounds_toArray, List.set_cons_zero, List.set_cons_succ, i64_w, i32_w]
              rfl
             refine pure_ (i := 7) (N := some 72) (v := ?_) (a' := ?_) #[true, true, true, true, false, true, true, true, false, false, false, false] rfl rfl (any_of HT_.out (by kernel_rfl)) (fun _ _ _ h => h) (Or.inl ⟨by rfl, ?_⟩) ?_ ?_
             rotate_left
             ·intro w'
              go_simp
              with_reducible rfl
             rotate_left
             ·simp only [Act.put, List.setIfInBounds_toArray, List.set_cons_zero, List.set_cons_succ, i64_w, i32_w]
              rfl
             refine pure_ (i := 8) (N := some 73) (v := ?_) (a' := ?_) #[true, true, true, true, false, true, true, true, true, false, false, false] rfl rfl (any_of HT_.out (by kernel_rfl)) (fun _ _ _ h => h) (Or.inl ⟨by rfl, ?_⟩) ?_ ?_
             rotate_left
             ·intro w'
              go_simp
              with_reducible rfl
             rotate_left
             ·simp only [Act.put, List.setIfInBounds_toArray, List.set_cons_zero, List.set_cons_succ, i64_w, i32_w]
              rfl
             refine pure_ (i := 9) (N := some 74) (v := ?_) (a' := ?_) #[true, true, true, true, false, true, true, true, true, true, false, false] rfl rfl (any_of HT_.out (by kernel_rfl)) (fun _ _ _ h => h) (Or.inl ⟨by rfl, ?_⟩) ?_ ?_
             rotate_left
             ·intro w'
              go_simp
              with_reducible rfl
             rotate_left
             ·simp only [Act.put, List.setIfInBounds_toArray, List.set_cons_zero, List.set_cons_succ, i64_w, i32_w]
              rfl
             refine take_ (i := 4) (N := some 69) (v := ?_) (a' := ?_) #[true, true, true, true, true, true, true, true, true, true, false, false] rfl rfl (take_ofW HT_.out HW_.out (by kernel_rfl)) (fun _ _ _ h => h) (Or.inl ⟨by rfl, ?_⟩) hHeld ?_ ?_
             rotate_left
             ·rintro w' ⟨s0, s1, s2, s3, s4, s5, s6, s7, s8, s9, s10, s11, s12, s13, s14, s15, s16, s17, s18, s19, s20, s21⟩
              go_simp
              with_reducible rfl
             rotate_left
             ·simp only [Act.put, List.setIfInBounds_toArray, List.set_cons_zero, List.set_cons_succ, i64_w, i32_w]
              rfl
             refine take_ (i := 10) (N := some 75) (v := ?_) (a' := ?_) #[true, true, true, true, true, true, true, true, true, true, true, false] rfl rfl (take_ofW HT_.out HW_.out (by kernel_rfl)) (fun _ _ _ h => h) (Or.inl ⟨by rfl, ?_⟩) hHeld ?_ ?_
             rotate_left
             ·rintro w' ⟨s0, s1, s2, s3, s4, s5, s6, s7, s8, s9, s10, s11, s12, s13, s14, s15, s16, s17, s18, s19, s20, s21⟩
              go_simp
              with_reducible rfl
             rotate_left
             ·simp only [Act.put, List.setIfInBounds_toArray, List.set_cons_zero, List.set_cons_succ, i64_w, i32_w]
              rfl
             refine one_ (i := 11) (N := some 76) #[true, true, true, true, true, true, true, true, true, true, true, true] rfl rfl (one_of HT_.out (by kernel_rfl)) (by decide) (fun K hK => ?_)
             refine goes_ Tryd.func24 (by kernel_rfl) rfl #[.string ((rd_T35 t114 x9_2).f0), .string ((rd_T35 t114 (ji31)).f0)] (by rfl) rfl rfl (by (try simp only [List.map_toArray, List.map_cons, List.map_nil]); first | done | (simp only [hji31]; rfl) | rfl | (simp only [List.length_drop, List.length_take]; rfl)) ?_
             with_reducible refine (remoraref13_Less.calls k2 ((rd_T35 t114 x9_2).f0) ((rd_T35 t114 (ji31)).f0) false _ A34.out).mono ?_
             rintro e w39 ⟨rfl, hb⟩
             have HS0_ := (hb.cell (World.block_lt_of_cell? _ _ (hHeld.1))).trans (hHeld.1)
             have HS1_ := (hb.cell (World.block_lt_of_cell? _ _ (hHeld.2.1))).trans (hHeld.2.1)
             have HS2_ := (hb.cell (World.block_lt_of_cell? _ _ (hHeld.2.2.1))).trans (hHeld.2.2.1)
             have HS3_ := (hb.cell (World.block_lt_of_cell? _ _ (hHeld.2.2.2.1))).trans (hHeld.2.2.2.1)
             have HS4_ := (hb.cell (World.block_lt_of_cell? _ _ (hHeld.2.2.2.2.1))).trans (hHeld.2.2.2.2.1)
             have HS5_ := (hb.cell (World.block_lt_of_cell? _ _ (hHeld.2.2.2.2.2.1))).trans (hHeld.2.2.2.2.2.1)
             have HS6_ := (hb.cell (World.block_lt_of_cell? _ _ (hHeld.2.2.2.2.2.2.1))).trans (hHeld.2.2.2.2.2.2.1)
             have HS7_ := (hb.cell (World.block_lt_of_cell? _ _ (hHeld.2.2.2.2.2.2.2.1))).trans (hHeld.2.2.2.2.2.2.2.1)
             have HS8_ := (hb.cell (World.block_lt_of_cell? _ _ (hHeld.2.2.2.2.2.2.2.2.1))).trans (hHeld.2.2.2.2.2.2.2.2.1)
             have HS9_ := (hb.cell (World.block_lt_of_cell? _ _ (hHeld.2.2.2.2.2.2.2.2.2.1))).trans (hHeld.2.2.2.2.2.2.2.2.2.1)
             have HS10_ := (hb.cell (World.block_lt_of_cell? _ _ (hHeld.2.2.2.2.2.2.2.2.2.2.1))).trans (hHeld.2.2.2.2.2.2.2.2.2.2.1)
             have HS11_ := (hb.cell (World.block_lt_of_cell? _ _ (hHeld.2.2.2.2.2.2.2.2.2.2.2.1))).trans (hHeld.2.2.2.2.2.2.2.2.2.2.2.1)
             have HS12_ := (hb.cell (World.block_lt_of_cell? _ _ (hHeld.2.2.2.2.2.2.2.2.2.2.2.2.1))).trans (hHeld.2.2.2.2.2.2.2.2.2.2.2.2.1)
             have HS13_ := (hb.cell (World.block_lt_of_cell? _ _ (hHeld.2.2.2.2.2.2.2.2.2.2.2.2.2.1))).trans (hHeld.2.2.2.2.2.2.2.2.2.2.2.2.2.1)
             have HS14_ := (hb.cell (World.block_lt_of_cell? _ _ (hHeld.2.2.2.2.2.2.2.2.2.2.2.2.2.2.1))).trans (hHeld.2.2.2.2.2.2.2.2.2.2.2.2.2.2.1)
             have HS15_ := (hb.cell (World.block_lt_of_cell? _ _ (hHeld.2.2.2.2.2.2.2.2.2.2.2.2.2.2.2.1))).trans (hHeld.2.2.2.2.2.2.2.2.2.2.2.2.2.2.2.1)
             have HS16_ := (hb.cell (World.block_lt_of_cell? _ _ (hHeld.2.2.2.2.2.2.2.2.2.2.2.2.2.2.2.2.1))).trans (hHeld.2.2.2.2.2.2.2.2.2.2.2.2.2.2.2.2.1)
             have HS17_ := (hb.cell (World.block_lt_of_cell? _ _ (hHeld.2.2.2.2.2.2.2.2.2.2.2.2.2.2.2.2.2.1))).trans (hHeld.2.2.2.2.2.2.2.2.2.2.2.2.2.2.2.2.2.1)
             have HS18_ := (hb.cell (World.block_lt_of_cell? _ _ (hHeld.2.2.2.2.2.2.2.2.2.2.2.2.2.2.2.2.2.2.1))).trans (hHeld.2.2.2.2.2.2.2.2.2.2.2.2.2.2.2.2.2.2.1)
             have HS19_ := (hb.cell (World.block_lt_of_cell? _ _ (hHeld.2.2.2.2.2.2.2.2.2.2.2.2.2.2.2.2.2.2.2.1))).trans (hHeld.2.2.2.2.2.2.2.2.2.2.2.2.2.2.2.2.2.2.2.1)
             have HS20_ := (hb.cell (World.block_lt_of_cell? _ _ (hHeld.2.2.2.2.2.2.2.2.2.2.2.2.2.2.2.2.2.2.2.2.1))).trans (hHeld.2.2.2.2.2.2.2.2.2.2.2.2.2.2.2.2.2.2.2.2.1)
             have HS21_ := (hb.cell (World.block_lt_of_cell? _ _ (hHeld.2.2.2.2.2.2.2.2.2.2.2.2.2.2.2.2.2.2.2.2.2))).trans (hHeld.2.2.2.2.2.2.2.2.2.2.2.2.2.2.2.2.2.2.2.2.2)
             refine ⟨_, rfl, ?_⟩
             have n0_ := Aside0.mk (Kd.R_below (by (with_reducible repeat (first | apply Kd.R_alloc | apply Kd.R_drewN | apply Kd.R_drew)); exact HO_8.out) hb)
             have n1_ := Aside0.mk (below_step (by repeat (first | (with_reducible first | exact HB.out | apply below_alloc | apply pw_below_drewN | apply below_drew1) | exact HB.out)) hb)
             clear HO_8
             clear HB
             have HO_8 := n0_
             have HB := n1_
             clear n0_ n1_
             (try clear hb)
             (try clear hb2)
             (try clear hk)
             (try clear hi)
             refine hK.out _ _ ⟨HS0_, HS1_, HS2_, HS3_, HS4_, HS5_, HS6_, HS7_, HS8_, HS9_, HS10_, HS11_, HS12_, HS13_, HS14_, HS15_, HS16_, HS17_, HS18_, HS19_, HS20_, HS21_⟩ (fun hHeld => ?_)
             clear hK K
             refine norm_ (a' := ?_) ?_ ?_
             rotate_left
             ·show Act.put _ (some 76) _ = _
              simp only [Act.put, List.setIfInBounds_toArray, List.set_cons_zero, List.set_cons_succ, i64_w, i32_w]
              rfl
             refine done_ (done_of HT_.out (by kernel_rfl)) ?_
             try go_wp2
             go_roundg k2
             case measure => have := HJ5.out; have := HK2.out; omega
             case rel => exact ⟨(wrap64 (x9_2 + 1)), (by first | rfl | (simp; done) | (simp [*]; done)), H', ⟨by have := HJ5.out; have := HK2.out; omega⟩, ⟨by (with_reducible repeat (first | apply Kd.R_alloc | apply Kd.R_drewN | apply Kd.R_drew)); exact HO_8.out⟩, ⟨by repeat (first | (with_reducible first | exact HB.out | apply below_alloc | apply pw_below_drewN | apply below_drew1) | exact HB.out)⟩⟩
           ·rw [if_neg c33] at H
            exact absurd H (by simp)
          ·rw [if_neg c32] at H
           exact absurd H (by simp)
         ·rw [if_neg c30] at H
          exact absurd H (by simp)
        ·rw [if_neg c29] at H
         have c29b0 : decide (x9_2 < (t114.length : Int)) = false := decide_eq_false c29
         clear c29
         replace H := Option.bind_eq_some_iff.mp H
         obtain ⟨t120, A400, H⟩ := H
         replace H : (if t120 = 0 then (remoralaw20_FlistSorts.l2 k2 l0 t114 0) else ((remoralaw20_awake.f k2).bind fun t121 => (some t121))) = some r := H
         have A40 := Aside0.mk A400
         clear A400
         by_cases c41 : t120 = 0
         ·rw [if_pos c41] at H
          have c41b0 : (t120 == 0) = true := beq_iff_eq.mpr c41
          have c41b1 : (t120 != 0) = false := bne_eq_false_iff_eq.mpr c41
          clear c41
          have H' := Aside0.mk H
          clear H
          go_wp2_with (first | ((with_reducible refine gate_callee (f := 12) rfl ?_); refine goesL_ (some 78) rfl rfl Tryd.func12 (by kernel_rfl) rfl #[.slice A0 l0.length c0] rfl (by (try simp only [List.map_toArray, List.map_cons, List.map_nil]); first | done | rfl | (simp only [List.length_drop, List.length_take]; rfl)) ?_; (with_reducible refine (flist_Check.calls _ _ l0 t120 _ ?side1 ?side2 A40.out).mono ?_); (case side1 => repeat (first | exact (Kd.C_below HR0.out HB.out) | (with_reducible refine Kd.C_alloc ?_ _) | (with_reducible refine Kd.C_drewN ?_ _) | (with_reducible refine Kd.C_drew ?_))); (case side2 => exact HC0.out); rintro e w42 ⟨rfl, hb⟩; refine ⟨_, rfl, ?_⟩; have n0_ := Aside0.mk (Kd.R_below (by (with_reducible repeat (first | apply Kd.R_alloc | apply Kd.R_drewN | apply Kd.R_drew)); exact HO_8.out) hb); have n1_ := Aside0.mk (below_step (by repeat (first | (with_reducible first | exact HB.out | apply below_alloc | apply pw_below_drewN | apply below_drew1) | exact HB.out)) hb); clear HO_8; clear HB; have HO_8 := n0_; have HB := n1_; clear n0_ n1_; (try clear hb); (try clear hb2); (try clear hk); (try clear hi)))
          go_loopg [10] k2 (fun kq v10 w' => ∃ (x10_3 : Int), v10 = .int .i64 x10_3 ∧ Aside0 (remoralaw20_FlistSorts.l2 kq l0 t114 x10_3 = some r) ∧ Aside0 (kq ≤ k2) ∧ Aside0 (Kd.R k35 35 w' w.heap.size (fun _ => True) (.slice Ao28 t114.length co28) t114) ∧ Aside0 (Below w.heap.size w w'))
          case atStart => exact ⟨(0), (by first | rfl | (simp; done) | (simp [*]; done)), H', ⟨Nat.le_refl _⟩, ⟨by (with_reducible repeat (first | apply Kd.R_alloc | apply Kd.R_drewN | apply Kd.R_drew)); exact HO_8.out⟩, ⟨by repeat (first | (with_reducible first | exact HB.out | apply below_alloc | apply pw_below_drewN | apply below_drew1) | exact HB.out)⟩⟩
          case round =>
           clear H'
           try clear c1
           try clear p1
           try clear q1
           try clear hx1
           try clear c2
           try clear p2
           try clear c3
           try clear c4
           try clear c5
           try clear p6
           try clear c8
           try clear c10
           try clear c10b0
           try clear p10
           try clear q10
           try clear hx10
           try clear c11
           try clear c11b0
           try clear p11
           try clear q11
           try clear hx11
           try clear c12
           try clear c12b0
           try clear c13
           try clear c13b0
           try clear c13b1
           try clear c13b2
           try clear c15
           try clear c15b0
           try clear c16
           try clear c16b0
           try clear c17
           try clear p17
           try clear q17
           try clear hx17
           try clear hf17
           try clear c18
           try clear p18
           try clear q18
           try clear hx18
           try clear hf18
           try clear c21
           try clear c22
           try clear c23
           try clear c24
           try clear c25
           try clear c25b0
           try clear c25b1
           try clear c25b2
           try clear c29
           try clear c29b0
           try clear c30
           try clear c30b0
           try clear c32
           try clear c32b0
           try clear c33
           try clear c33b0
           try clear c35
           try clear c41
           try clear c41b0
           try clear c41b1
           try clear hx109_0
           try clear hx110_0
           try clear hx110_1
           try clear hx110_10
           try clear hx110_2
           try clear hx110_3
           try clear hx110_4
           try clear hx110_5
           try clear hx110_6
           try clear hx110_7
           try clear hx110_8
           try clear hx110_9
           try clear hx111_0
           try clear hx111_1
           try clear hx111_10
           try clear hx111_2
           try clear hx111_3
           try clear hx111_4
           try clear hx111_5
           try clear hx111_6
           try clear hx111_7
           try clear hx111_8
           try clear hx111_9
           try clear hx117_0
           try clear hx117_1
           try clear hx117_10
           try clear hx117_2
           try clear hx117_3
           try clear hx117_4
           try clear hx117_5
           try clear hx117_6
           try clear hx117_7
           try clear hx117_8
           try clear hx117_9
           try clear hx118_0
           try clear hx118_1
           try clear hx118_10
           try clear hx118_2
           try clear hx118_3
           try clear hx118_4
           try clear hx118_5
           try clear hx118_6
           try clear hx118_7
           try clear hx118_8
           try clear hx118_9
           try clear hx17_0
           try clear hx17_1
           try clear hx17_10
           try clear hx17_2
           try clear hx17_3
           try clear hx17_4
           try clear hx17_5
           try clear hx17_6
           try clear hx17_7
           try clear hx17_8
           try clear hx17_9
           try clear hx18_0
           try clear hx18_1
           try clear hx18_10
           try clear hx18_2
           try clear hx18_3
           try clear hx18_4
           try clear hx18_5
           try clear hx18_6
           try clear hx18_7
           try clear hx18_8
           try clear hx18_9
           try clear p1
           try clear p10
           try clear p109
           try clear p11
           try clear p110
           try clear p111
           try clear p117
           try clear p118
           try clear p17
           try clear p18
           try clear p2
           try clear p6
           try clear q1
           try clear q10
           try clear q109
           try clear q11
           try clear q110
           try clear q111
           try clear q117
           try clear q118
           try clear q17
           try clear q18
           obtain ⟨x10_3, rfl, HA, HK3, HO_8, HB⟩ := hrel
           cases gk with
           | zero => exact absurd HA.out (by simp [remoralaw20_FlistSorts.l2])
           | succ k3 =>
            have H := HA.out
            clear HA
            simp only [remoralaw20_FlistSorts.l2] at H
            by_cases c43 : x10_3 ≤ (l0.length : Int)
            ·rw [if_pos c43] at H
             have c43b0 : decide (x10_3 ≤ (l0.length : Int)) = true := decide_eq_true c43
             clear c43
             by_cases c44 : 0 ≤ x10_3
             ·rw [if_pos c44] at H
              have c44b0 := eq_true c44
              have c44b1 : decide (0 ≤ x10_3) = true := decide_eq_true c44
              clear c44
              have c45b0 := eq_true (of_decide_eq_true (by first | (with_reducible assumption) | assumption) : x10_3 ≤ (l0.length : Int))
              obtain ⟨y122, hy122⟩ : ∃ y_ : List (S35), y_ = (l0.take (x10_3 : Int).toNat) := ⟨_, rfl⟩
              replace H : ((flist_Check.f y122).bind fun t126 => (if t126 = 0 then (remoralaw20_FlistSorts.l2 k3 l0 t114 (wrap64 (x10_3 + 1))) else (some false))) = some r := by first | (rw [hy122]; with_reducible exact H) | (have H2_ := (Option.bind_some _ _).symm.trans H; rw [hy122]; with_reducible exact H2_) | (have H2_ := (Option.bind_some _ _).symm.trans H; with_reducible exact H2_) | with_reducible exact H | (rw [hy122]; exact H) | exact H
              have Ny122 := Aside0.mk hy122
              clear hy122
              replace H := Option.bind_eq_some_iff.mp H
              obtain ⟨t126, A460, H⟩ := H
              replace H : (if t126 = 0 then (remoralaw20_FlistSorts.l2 k3 l0 t114 (wrap64 (x10_3 + 1))) else (some false)) = some r := H
              have A46 := Aside0.mk A460
              clear A460
              by_cases c47 : t126 = 0
              ·rw [if_pos c47] at H
               have c47b0 : (t126 == 0) = true := beq_iff_eq.mpr c47
               have c47b1 : (t126 != 0) = false := bne_eq_false_iff_eq.mpr c47
               clear c47
               have H' := Aside0.mk H
               clear H
               have q48 : (x10_3 : Int) ≤ ((l0.length : Int) : Int) := of_decide_eq_true (by first | (with_reducible assumption) | assumption)
               obtain ⟨i048, hi048, _, hsz48, _⟩ := info_parts info35
               have hroom48 : l0.length ≤ c0 := HC0.out
               have hC48 : Kd.C k35 _ A0 l0.length l0 := HR0.out
               have hcut48 := cut_to (P := Tryd.prog) 22 35 .i64 Tryd.underlying22 hi048 A0 l0.length c0 x10_3 (of_decide_eq_true (by first | (with_reducible assumption) | assumption)) q48 hroom48
               have hr48 := Kd.C_take (m := (x10_3 : Int).toNat) hC48 (by omega)
               have hy48 : y122.length = (x10_3 : Int).toNat := (by rw [Ny122.out, List.length_take]; omega)
               rw [← Ny122.out] at hr48
               rw [← hy48] at hcut48
               have HR125 := Aside0.mk hr48
               have HC125 := Aside0.mk (show y122.length ≤ c0 from by omega)
               clear hr48 hC48 hroom48 hi048 hsz48
               have KY48 := Aside0.mk hy48
               clear hy48
               replace q48 := eq_true q48
               go_wp2_with (first | ((with_reducible refine gate_callee (f := 12) rfl ?_); refine goesL_ (some 90) rfl rfl Tryd.func12 (by kernel_rfl) rfl #[.slice A0 y122.length c0] rfl (by (try simp only [List.map_toArray, List.map_cons, List.map_nil]); first | done | rfl | (simp only [List.length_drop, List.length_take]; rfl)) ?_; (with_reducible refine (flist_Check.calls _ _ y122 t126 _ ?side1 ?side2 A46.out).mono ?_); (case side1 => repeat (first | exact (Kd.C_below HR125.out HB.out) | (with_reducible refine Kd.C_alloc ?_ _) | (with_reducible refine Kd.C_drewN ?_ _) | (with_reducible refine Kd.C_drew ?_))); (case side2 => exact HC125.out); rintro e w49 ⟨rfl, hb⟩; refine ⟨_, rfl, ?_⟩; have n0_ := Aside0.mk (Kd.R_below (by (with_reducible repeat (first | apply Kd.R_alloc | apply Kd.R_drewN | apply Kd.R_drew)); exact HO_8.out) hb); have n1_ := Aside0.mk (below_step (by repeat (first | (with_reducible first | exact HB.out | apply below_alloc | apply pw_below_drewN | apply below_drew1) | exact HB.out)) hb); clear HO_8; clear HB; have HO_8 := n0_; have HB := n1_; clear n0_ n1_; (try clear hb); (try clear hb2); (try clear hk); (try clear hi)))
               go_roundg k3
               case measure => have := HJ5.out; have := HK2.out; have := HK3.out; omega
               case rel => exact ⟨(wrap64 (x10_3 + 1)), (by first | rfl | (simp; done) | (simp [*]; done)), H', ⟨by have := HJ5.out; have := HK2.out; have := HK3.out; omega⟩, ⟨by (with_reducible repeat (first | apply Kd.R_alloc | apply Kd.R_drewN | apply Kd.R_drew)); exact HO_8.out⟩, ⟨by repeat (first | (with_reducible first | exact HB.out | apply below_alloc | apply pw_below_drewN | apply below_drew1) | exact HB.out)⟩⟩
              ·rw [if_neg c47] at H
               have c47b0 : (t126 == 0) = false := beq_eq_false_iff_ne.mpr c47
               have c47b1 : (t126 != 0) = true := bne_iff_ne.mpr c47
               obtain rfl := Option.some.inj H
               have q50 : (x10_3 : Int) ≤ ((l0.length : Int) : Int) := of_decide_eq_true (by first | (with_reducible assumption) | assumption)
               obtain ⟨i050, hi050, _, hsz50, _⟩ := info_parts info35
               have hroom50 : l0.length ≤ c0 := HC0.out
               have hC50 : Kd.C k35 _ A0 l0.length l0 := HR0.out
               have hcut50 := cut_to (P := Tryd.prog) 22 35 .i64 Tryd.underlying22 hi050 A0 l0.length c0 x10_3 (of_decide_eq_true (by first | (with_reducible assumption) | assumption)) q50 hroom50
               have hr50 := Kd.C_take (m := (x10_3 : Int).toNat) hC50 (by omega)
               have hy50 : y122.length = (x10_3 : Int).toNat := (by rw [Ny122.out, List.length_take]; omega)
               rw [← Ny122.out] at hr50
               rw [← hy50] at hcut50
               have HR125 := Aside0.mk hr50
               have HC125 := Aside0.mk (show y122.length ≤ c0 from by omega)
               clear hr50 hC50 hroom50 hi050 hsz50
               have KY50 := Aside0.mk hy50
               clear hy50
               replace q50 := eq_true q50
               go_wp2_with (first | ((with_reducible refine gate_callee (f := 12) rfl ?_); refine goesL_ (some 90) rfl rfl Tryd.func12 (by kernel_rfl) rfl #[.slice A0 y122.length c0] rfl (by (try simp only [List.map_toArray, List.map_cons, List.map_nil]); first | done | rfl | (simp only [List.length_drop, List.length_take]; rfl)) ?_; (with_reducible refine (flist_Check.calls _ _ y122 t126 _ ?side1 ?side2 A46.out).mono ?_); (case side1 => repeat (first | exact (Kd.C_below HR125.out HB.out) | (with_reducible refine Kd.C_alloc ?_ _) | (with_reducible refine Kd.C_drewN ?_ _) | (with_reducible refine Kd.C_drew ?_))); (case side2 => exact HC125.out); rintro e w51 ⟨rfl, hb⟩; refine ⟨_, rfl, ?_⟩; have n0_ := Aside0.mk (Kd.R_below (by (with_reducible repeat (first | apply Kd.R_alloc | apply Kd.R_drewN | apply Kd.R_drew)); exact HO_8.out) hb); have n1_ := Aside0.mk (below_step (by repeat (first | (with_reducible first | exact HB.out | apply below_alloc | apply pw_below_drewN | apply below_drew1) | exact HB.out)) hb); clear HO_8; clear HB; have HO_8 := n0_; have HB := n1_; clear n0_ n1_; (try clear hb); (try clear hb2); (try clear hk); (try clear hi)))
               go_ret
               exact ⟨by first | rfl | (simp [errW_none, errW_some] <;> rfl) | (simp [*, errW_none, errW_some] <;> rfl), by repeat (first | (with_reducible first | exact HB.out | apply below_alloc | apply pw_below_drewN | apply below_drew1) | exact HB.out)⟩
             ·rw [if_neg c44] at H
              exact absurd H (by simp)
            ·rw [if_neg c43] at H
             have c43b0 : decide (x10_3 ≤ (l0.length : Int)) = false := decide_eq_false c43
             clear c43
             replace H := Option.bind_eq_some_iff.mp H
             obtain ⟨t127, A520, H⟩ := H
             replace H : (if t127 = true then ((remoralaw20_awake.f k3).bind fun t128 => (some t128)) else (some false)) = some r := H
             have A52 := Aside0.mk A520
             clear A520
             by_cases c53 : t127 = true
             ·subst c53
              have H1 : ((remoralaw20_awake.f k3).bind fun t128 => (some t128)) = some r := by rw [if_pos rfl] at H; exact H
              clear H
              have H := H1
              clear H1
              replace H := Option.bind_eq_some_iff.mp H
              obtain ⟨t128, A540, H⟩ := H
              replace H : (some t128) = some r := H
              have A54 := Aside0.mk A540
              clear A540
              obtain rfl := Option.some.inj H
              go_wp2_with (first | ((with_reducible refine gate_callee (f := 18) rfl ?_); refine goesL_ (some 94) rfl rfl Tryd.func18 (by kernel_rfl) rfl #[.slice Ao28 t114.length co28, .slice A0 l0.length c0] rfl (by (try simp only [List.map_toArray, List.map_cons, List.map_nil]); first | done | rfl | (simp only [List.length_drop, List.length_take]; rfl)) ?_; (with_reducible refine (flist_Same.calls k3 _ _ t114 _ _ l0 true _ ?side1 ?side2 ?side3 ?side4 A52.out).mono ?_); (case side1 => repeat (first | exact (Kd.R_reads' HO_8.out).2.2 | (with_reducible refine Kd.C_alloc ?_ _) | (with_reducible refine Kd.C_drewN ?_ _) | (with_reducible refine Kd.C_drew ?_))); (case side2 => exact (Kd.R_reads' HO_8.out).2.1); (case side3 => repeat (first | exact (Kd.C_below HR0.out HB.out) | (with_reducible refine Kd.C_alloc ?_ _) | (with_reducible refine Kd.C_drewN ?_ _) | (with_reducible refine Kd.C_drew ?_))); (case side4 => exact HC0.out); rintro e w' ⟨rfl, ⟨nd, rfl⟩⟩; refine ⟨_, rfl, ?_⟩) | (go_at_call 11; (with_reducible refine (remoralaw20_awake.calls k3  t128 _ A54.out ?sideT).mono ?_); (case sideT => exact HT.out.step (by repeat (first | (with_reducible first | exact HB.out | apply below_alloc | apply pw_below_drewN | apply below_drew1) | exact HB.out))); rintro e w55 ⟨rfl, hb⟩; have n0_ := Aside0.mk (Kd.R_below (by (with_reducible repeat (first | apply Kd.R_alloc | apply Kd.R_drewN | apply Kd.R_drew)); exact HO_8.out) hb); have n1_ := Aside0.mk (below_step (by repeat (first | (with_reducible first | exact HB.out | apply below_alloc | apply pw_below_drewN | apply below_drew1) | exact HB.out)) hb); clear HO_8; clear HB; have HO_8 := n0_; have HB := n1_; clear n0_ n1_; (try clear hb); (try clear hb2); (try clear hk); (try clear hi)))
              go_ret
              exact ⟨by first | rfl | (simp [errW_none, errW_some] <;> rfl) | (simp [*, errW_none, errW_some] <;> rfl), by repeat (first | (with_reducible first | exact HB.out | apply below_alloc | apply pw_below_drewN | apply below_drew1) | exact HB.out)⟩
             ·replace c53 := Bool.eq_false_iff.mpr c53
              subst c53
              have H1 : (some false) = some r := by rw [if_neg (show ¬ (false = true) by decide)] at H; exact H
              clear H
              have H := H1
              clear H1
              obtain rfl := Option.some.inj H
              go_wp2_with (first | ((with_reducible refine gate_callee (f := 18) rfl ?_); refine goesL_ (some 94) rfl rfl Tryd.func18 (by kernel_rfl) rfl #[.slice Ao28 t114.length co28, .slice A0 l0.length c0] rfl (by (try simp only [List.map_toArray, List.map_cons, List.map_nil]); first | done | rfl | (simp only [List.length_drop, List.length_take]; rfl)) ?_; (with_reducible refine (flist_Same.calls k3 _ _ t114 _ _ l0 false _ ?side1 ?side2 ?side3 ?side4 A52.out).mono ?_); (case side1 => repeat (first | exact (Kd.R_reads' HO_8.out).2.2 | (with_reducible refine Kd.C_alloc ?_ _) | (with_reducible refine Kd.C_drewN ?_ _) | (with_reducible refine Kd.C_drew ?_))); (case side2 => exact (Kd.R_reads' HO_8.out).2.1); (case side3 => repeat (first | exact (Kd.C_below HR0.out HB.out) | (with_reducible refine Kd.C_alloc ?_ _) | (with_reducible refine Kd.C_drewN ?_ _) | (with_reducible refine Kd.C_drew ?_))); (case side4 => exact HC0.out); rintro e w' ⟨rfl, ⟨nd, rfl⟩⟩; refine ⟨_, rfl, ?_⟩))
              go_ret
              exact ⟨by first | rfl | (simp [errW_none, errW_some] <;> rfl) | (simp [*, errW_none, errW_some] <;> rfl), by repeat (first | (with_reducible first | exact HB.out | apply below_alloc | apply pw_below_drewN | apply below_drew1) | exact HB.out)⟩
         ·rw [if_neg c41] at H
          have c41b0 : (t120 == 0) = false := beq_eq_false_iff_ne.mpr c41
          have c41b1 : (t120 != 0) = true := bne_iff_ne.mpr c41
          replace H := Option.bind_eq_some_iff.mp H
          obtain ⟨t121, A560, H⟩ := H
          replace H : (some t121) = some r := H
          have A56 := Aside0.mk A560
          clear A560
          obtain rfl := Option.some.inj H
          go_wp2_with (first | ((with_reducible refine gate_callee (f := 12) rfl ?_); refine goesL_ (some 78) rfl rfl Tryd.func12 (by kernel_rfl) rfl #[.slice A0 l0.length c0] rfl (by (try simp only [List.map_toArray, List.map_cons, List.map_nil]); first | done | rfl | (simp only [List.length_drop, List.length_take]; rfl)) ?_; (with_reducible refine (flist_Check.calls _ _ l0 t120 _ ?side1 ?side2 A40.out).mono ?_); (case side1 => repeat (first | exact (Kd.C_below HR0.out HB.out) | (with_reducible refine Kd.C_alloc ?_ _) | (with_reducible refine Kd.C_drewN ?_ _) | (with_reducible refine Kd.C_drew ?_))); (case side2 => exact HC0.out); rintro e w57 ⟨rfl, hb⟩; refine ⟨_, rfl, ?_⟩; have n0_ := Aside0.mk (Kd.R_below (by (with_reducible repeat (first | apply Kd.R_alloc | apply Kd.R_drewN | apply Kd.R_drew)); exact HO_8.out) hb); have n1_ := Aside0.mk (below_step (by repeat (first | (with_reducible first | exact HB.out | apply below_alloc | apply pw_below_drewN | apply below_drew1) | exact HB.out)) hb); clear HO_8; clear HB; have HO_8 := n0_; have HB := n1_; clear n0_ n1_; (try clear hb); (try clear hb2); (try clear hk); (try clear hi)) | ((with_reducible refine gate_callee (f := 11) rfl ?_); refine goesL_ (some 80) rfl rfl Tryd.func11 (by kernel_rfl) rfl #[] rfl (by (try simp only [List.map_toArray, List.map_cons, List.map_nil]); first | done | rfl | (simp only [List.length_drop, List.length_take]; rfl)) ?_; (with_reducible refine (remoralaw20_awake.calls k2  t121 _ A56.out ?sideT).mono ?_); (case sideT => exact HT.out.step (by repeat (first | (with_reducible first | exact HB.out | apply below_alloc | apply pw_below_drewN | apply below_drew1) | exact HB.out))); rintro e w58 ⟨rfl, hb⟩; refine ⟨_, rfl, ?_⟩; have n0_ := Aside0.mk (Kd.R_below (by (with_reducible repeat (first | apply Kd.R_alloc | apply Kd.R_drewN | apply Kd.R_drew)); exact HO_8.out) hb); have n1_ := Aside0.mk (below_step (by repeat (first | (with_reducible first | exact HB.out | apply below_alloc | apply pw_below_drewN | apply below_drew1) | exact HB.out)) hb); clear HO_8; clear HB; have HO_8 := n0_; have HB := n1_; clear n0_ n1_; (try clear hb); (try clear hb2); (try clear hk); (try clear hi)))
          go_ret
          exact ⟨by first | rfl | (simp [errW_none, errW_some] <;> rfl) | (simp [*, errW_none, errW_some] <;> rfl), by repeat (first | (with_reducible first | exact HB.out | apply below_alloc | apply pw_below_drewN | apply below_drew1) | exact HB.out)⟩
     ·rw [if_neg c25] at H
      have c25b0 : ((t114.length : Int) == (l0.length : Int)) = false := beq_eq_false_iff_ne.mpr c25
      have c25b1 : ((t114.length : Int) != (l0.length : Int)) = true := bne_iff_ne.mpr c25
      have c25b2 : (t114.length == l0.length) = false := by first | simpa using c25 | (simp at c25 ⊢; omega)
      obtain rfl := Option.some.inj H
      obtain ⟨Ao59, co59, eo59⟩ := Kd.R_slice HO_5.out
      subst eo59
      go_wp2_with (first | ((with_reducible refine gate_callee (f := 23) rfl ?_); refine goesL_ (some 53) rfl rfl Tryd.func23 (by kernel_rfl) rfl #[.slice Ao59 x5_5.length co59] rfl (by (try simp only [List.map_toArray, List.map_cons, List.map_nil]); first | done | rfl | (simp only [List.length_drop, List.length_take]; rfl)) ?_; (with_reducible refine (flist_Sort.calls _ _ x5_5 t114 _ ?side1 ?side2 A24.out).mono ?_); (case side1 => repeat (first | exact (Kd.R_reads' HO_5.out).2.2 | (with_reducible refine Kd.C_alloc ?_ _) | (with_reducible refine Kd.C_drewN ?_ _) | (with_reducible refine Kd.C_drew ?_))); (case side2 => exact (Kd.R_reads' HO_5.out).2.1); rintro e w60 ⟨v115, rfl, ho0, hb⟩; refine ⟨_, rfl, ?_⟩; have n0_ := Aside0.mk (Kd.R_elder' (by (with_reducible repeat (first | apply Kd.R_alloc | apply Kd.R_drewN | apply Kd.R_drew)); exact HO_5.out) (Kd.R_base ho0) hb); have n1_ := Aside0.mk (Kd.R_lower (Kd.R_new' ho0 (Kd.R_lt (by (with_reducible repeat (first | apply Kd.R_alloc | apply Kd.R_drewN | apply Kd.R_drew)); exact HO_5.out))) (below_size (by repeat (first | (with_reducible first | exact HB.out | apply below_alloc | apply pw_below_drewN | apply below_drew1) | exact HB.out)))); have n2_ := Aside0.mk (below_step (by repeat (first | (with_reducible first | exact HB.out | apply below_alloc | apply pw_below_drewN | apply below_drew1) | exact HB.out)) hb); clear HO_5; clear HB; have HO_5 := n0_; have HO116 := n1_; have HB := n2_; clear n0_ n1_ n2_; (try clear hb); (try clear hb2); (try clear hk); (try clear hi); (try clear ho0); obtain ⟨Ao61, co61, eo61⟩ := Kd.R_slice HO116.out; subst eo61))
      go_ret
      exact ⟨by first | rfl | (simp [errW_none, errW_some] <;> rfl) | (simp [*, errW_none, errW_some] <;> rfl), by repeat (first | (with_reducible first | exact HB.out | apply below_alloc | apply pw_below_drewN | apply below_drew1) | exact HB.out)⟩
  ·rw [if_neg c5] at H
   exact absurd H (by simp)
 ·replace c4 := Bool.eq_false_iff.mpr c4
  subst c4
  have H1 : ((remoralaw20_awake.f k).bind fun t102 => (some t102)) = some r := by rw [if_neg (show ¬ (false = true) by decide)] at H; exact H
  clear H
  have H := H1
  clear H1
  replace H := Option.bind_eq_some_iff.mp H
  obtain ⟨t102, A620, H⟩ := H
  replace H : (some t102) = some r := H
  have A62 := Aside0.mk A620
  clear A620
  obtain rfl := Option.some.inj H
  go_enter Tryd.func8, Tryd.ntmps8
  go_wp2_with (first | ((with_reducible refine gate_callee (f := 10) rfl ?_); refine goesL_ (some 12) rfl rfl Tryd.func10 (by kernel_rfl) rfl #[.slice A0 l0.length c0] rfl (by (try simp only [List.map_toArray, List.map_cons, List.map_nil]); first | done | rfl | (simp only [List.length_drop, List.length_take]; rfl)) ?_; (with_reducible refine (remoraref20_Small.calls k _ _ l0 false _ ?side1 ?side2 A3.out).mono ?_); (case side1 => repeat (first | exact HR0.out | (with_reducible refine Kd.C_alloc ?_ _) | (with_reducible refine Kd.C_drewN ?_ _) | (with_reducible refine Kd.C_drew ?_))); (case side2 => exact HC0.out); rintro e w' ⟨rfl, ⟨nd, rfl⟩⟩; refine ⟨_, rfl, ?_⟩) | ((with_reducible refine gate_callee (f := 11) rfl ?_); refine goesL_ (some 14) rfl rfl Tryd.func11 (by kernel_rfl) rfl #[] rfl (by (try simp only [List.map_toArray, List.map_cons, List.map_nil]); first | done | rfl | (simp only [List.length_drop, List.length_take]; rfl)) ?_; (with_reducible refine (remoralaw20_awake.calls k  t102 _ A62.out ?sideT).mono ?_); (case sideT => exact HT.out.step (by repeat (first | (with_reducible first | exact HB.out | apply below_alloc | apply pw_below_drewN | apply below_drew1) | exact HB.out))); rintro e w63 ⟨rfl, hb⟩; refine ⟨_, rfl, ?_⟩; have n0_ := Aside0.mk (below_step (by repeat (first | (with_reducible first | exact HB.out | apply below_alloc | apply pw_below_drewN | apply below_drew1) | exact HB.out)) hb); clear HB; have HB := n0_; clear n0_; (try clear hb); (try clear hb2); (try clear hk); (try clear hi)))
  go_ret
  exact ⟨by first | rfl | (simp [errW_none, errW_some] <;> rfl) | (simp [*, errW_none, errW_some] <;> rfl), by repeat (first | (with_reducible first | exact HB.out | apply below_alloc | apply pw_below_drewN | apply below_drew1) | exact HB.out)⟩
end Go.Proofs.YtcdmgdegohcmhaaDoor.PA
namespace Go.Proofs.YtcdmgdegohcmhaaDoor.PA
open Go.RowKit Go.Proofs.YtcdmgdegohcmhaaDoorW.PrintWords Go.Proofs.YtcdmgdegohcmhaaDoorW.PrintLast Go.Proofs.YtcdmgdegohcmhaaDoorW.PrintMore
attribute [local go_sem] max2_int min2_int max_two min_two max_three min_three max_four min_four   -- for this text's walks alone
set_option linter.unusedVariables false
set_option linter.unusedSimpArgs false
end Go.Proofs.YtcdmgdegohcmhaaDoor.PA
namespace Go.Proofs.YtcdmgdegohcmhaaDoor.PA
open Go.RowKit Go.Proofs.YtcdmgdegohcmhaaDoorW.PrintWords Go.Proofs.YtcdmgdegohcmhaaDoorW.PrintLast Go.Proofs.YtcdmgdegohcmhaaDoorW.PrintMore
attribute [local go_sem] max2_int min2_int max_two min_two max_three min_three max_four min_four
set_option linter.unusedVariables false
set_option linter.unusedSimpArgs false
theorem wrapS35 (i : Nat) (h : i < 9223372036854775807) : wrap64 ((i : Int) + 1) = ((i + 1 : Nat) : Int) := by
 rw [wr64 _ (by omega) (by omega)]
 rfl
end Go.Proofs.YtcdmgdegohcmhaaDoor.PA
namespace Go.Proofs.YtcdmgdegohcmhaaDoor.PA
open Go.RowKit Go.Proofs.YtcdmgdegohcmhaaDoorW.PrintWords Go.Proofs.YtcdmgdegohcmhaaDoorW.PrintLast Go.Proofs.YtcdmgdegohcmhaaDoorW.PrintMore
attribute [local go_sem] max2_int min2_int max_two min_two max_three min_three max_four min_four   -- for this text's walks alone
set_option linter.unusedVariables false
set_option linter.unusedSimpArgs false
end Go.Proofs.YtcdmgdegohcmhaaDoor.PA
namespace Go.Proofs.YtcdmgdegohcmhaaDoor.PA
open Go.RowKit Go.Proofs.YtcdmgdegohcmhaaDoorW.PrintWords Go.Proofs.YtcdmgdegohcmhaaDoorW.PrintLast Go.Proofs.YtcdmgdegohcmhaaDoorW.PrintMore
attribute [local go_sem] max2_int min2_int max_two min_two max_three min_three max_four min_four   -- for this text's walks alone
set_option linter.unusedVariables false
set_option linter.unusedSimpArgs false
end Go.Proofs.YtcdmgdegohcmhaaDoor.PA
namespace Go.Proofs.YtcdmgdegohcmhaaDoor.PA
open Go.RowKit Go.Proofs.YtcdmgdegohcmhaaDoorW.PrintWords Go.Proofs.YtcdmgdegohcmhaaDoorW.PrintLast Go.Proofs.YtcdmgdegohcmhaaDoorW.PrintMore
attribute [local go_sem] max2_int min2_int max_two min_two max_three min_three max_four min_four   -- for this text's walks alone
set_option linter.unusedVariables false
set_option linter.unusedSimpArgs false
end Go.Proofs.YtcdmgdegohcmhaaDoor.PA
namespace Go.Proofs.YtcdmgdegohcmhaaDoor.PA
open Go.RowKit Go.Proofs.YtcdmgdegohcmhaaDoorW.PrintWords Go.Proofs.YtcdmgdegohcmhaaDoorW.PrintLast Go.Proofs.YtcdmgdegohcmhaaDoorW.PrintMore
attribute [local go_sem] max2_int min2_int max_two min_two max_three min_three max_four min_four   -- for this text's walks alone
set_option linter.unusedVariables false
set_option linter.unusedSimpArgs false
end Go.Proofs.YtcdmgdegohcmhaaDoor.PA
namespace Go.Proofs.YtcdmgdegohcmhaaDoor.PA
open Go.RowKit Go.Proofs.YtcdmgdegohcmhaaDoorW.PrintWords Go.Proofs.YtcdmgdegohcmhaaDoorW.PrintLast Go.Proofs.YtcdmgdegohcmhaaDoorW.PrintMore
attribute [local go_sem] max2_int min2_int max_two min_two max_three min_three max_four min_four   -- for this text's walks alone
set_option linter.unusedVariables false
set_option linter.unusedSimpArgs false
end Go.Proofs.YtcdmgdegohcmhaaDoor.PA
namespace Go.Proofs.YtcdmgdegohcmhaaDoor.PA
open Go.RowKit Go.Proofs.YtcdmgdegohcmhaaDoorW.PrintWords Go.Proofs.YtcdmgdegohcmhaaDoorW.PrintLast Go.Proofs.YtcdmgdegohcmhaaDoorW.PrintMore
attribute [local go_sem] max2_int min2_int max_two min_two max_three min_three max_four min_four   -- for this text's walks alone
set_option linter.unusedVariables false
set_option linter.unusedSimpArgs false
end Go.Proofs.YtcdmgdegohcmhaaDoor.PA
namespace Go.Proofs.YtcdmgdegohcmhaaDoor.PA
open Go.RowKit Go.Proofs.YtcdmgdegohcmhaaDoorW.PrintWords Go.Proofs.YtcdmgdegohcmhaaDoorW.PrintLast Go.Proofs.YtcdmgdegohcmhaaDoorW.PrintMore
attribute [local go_sem] max2_int min2_int max_two min_two max_three min_three max_four min_four   -- for this text's walks alone
set_option linter.unusedVariables false
set_option linter.unusedSimpArgs false
end Go.Proofs.YtcdmgdegohcmhaaDoor.PA
namespace Go.Proofs.YtcdmgdegohcmhaaDoor.PA
open Go.RowKit Go.Proofs.YtcdmgdegohcmhaaDoorW.PrintWords Go.Proofs.YtcdmgdegohcmhaaDoorW.PrintLast Go.Proofs.YtcdmgdegohcmhaaDoorW.PrintMore
attribute [local go_sem] max2_int min2_int max_two min_two max_three min_three max_four min_four   -- for this text's walks alone
set_option linter.unusedVariables false
set_option linter.unusedSimpArgs false
end Go.Proofs.YtcdmgdegohcmhaaDoor.PA
namespace Go.Proofs.YtcdmgdegohcmhaaDoor.PA
open Go.RowKit Go.Proofs.YtcdmgdegohcmhaaDoorW.PrintWords Go.Proofs.YtcdmgdegohcmhaaDoorW.PrintLast Go.Proofs.YtcdmgdegohcmhaaDoorW.PrintMore
attribute [local go_sem] max2_int min2_int max_two min_two max_three min_three max_four min_four   -- for this text's walks alone
set_option linter.unusedVariables false
set_option linter.unusedSimpArgs false
end Go.Proofs.YtcdmgdegohcmhaaDoor.PA
namespace Go.Proofs.YtcdmgdegohcmhaaDoor.PA
open Go.RowKit Go.Proofs.YtcdmgdegohcmhaaDoorW.PrintWords Go.Proofs.YtcdmgdegohcmhaaDoorW.PrintLast Go.Proofs.YtcdmgdegohcmhaaDoorW.PrintMore
attribute [local go_sem] max2_int min2_int max_two min_two max_three min_three max_four min_four   -- for this text's walks alone
set_option linter.unusedVariables false
set_option linter.unusedSimpArgs false
end Go.Proofs.YtcdmgdegohcmhaaDoor.PA
namespace Go.Proofs.YtcdmgdegohcmhaaDoor.PA
open Go.RowKit Go.Proofs.YtcdmgdegohcmhaaDoorW.PrintWords Go.Proofs.YtcdmgdegohcmhaaDoorW.PrintLast Go.Proofs.YtcdmgdegohcmhaaDoorW.PrintMore
attribute [local go_sem] max2_int min2_int max_two min_two max_three min_three max_four min_four   -- for this text's walks alone
set_option linter.unusedVariables false
set_option linter.unusedSimpArgs false
end Go.Proofs.YtcdmgdegohcmhaaDoor.PA
namespace Go.Proofs.YtcdmgdegohcmhaaDoor.PA
open Go.RowKit Go.Proofs.YtcdmgdegohcmhaaDoorW.PrintWords Go.Proofs.YtcdmgdegohcmhaaDoorW.PrintLast Go.Proofs.YtcdmgdegohcmhaaDoorW.PrintMore
attribute [local go_sem] max2_int min2_int max_two min_two max_three min_three max_four min_four
set_option linter.unusedVariables false
set_option linter.unusedSimpArgs false
theorem putL_len (n : Int) : (putL n).length ≤ 9 := by
 have : ∀ k x, (putN k x).length ≤ k + 1 := by
  intro k
  induction k with
  | zero => intro x; simp [putN]
  | succ k ih =>
   intro x
   unfold putN
   split
   ·have := ih (x / 128)
    simp
    omega
   ·simp
 exact this 8 (clampN n)
end Go.Proofs.YtcdmgdegohcmhaaDoor.PA
namespace Go.Proofs.YtcdmgdegohcmhaaDoor.PA
open Go.RowKit Go.Proofs.YtcdmgdegohcmhaaDoorW.PrintWords Go.Proofs.YtcdmgdegohcmhaaDoorW.PrintLast Go.Proofs.YtcdmgdegohcmhaaDoorW.PrintMore
attribute [local go_sem] max2_int min2_int max_two min_two max_three min_three max_four min_four   -- for this text's walks alone
set_option linter.unusedVariables false
set_option linter.unusedSimpArgs false
end Go.Proofs.YtcdmgdegohcmhaaDoor.PA
namespace Go.Proofs.YtcdmgdegohcmhaaDoor.PA
open Go.RowKit Go.Proofs.YtcdmgdegohcmhaaDoorW.PrintWords Go.Proofs.YtcdmgdegohcmhaaDoorW.PrintLast Go.Proofs.YtcdmgdegohcmhaaDoorW.PrintMore
attribute [local go_sem] max2_int min2_int max_two min_two max_three min_three max_four min_four   -- for this text's walks alone
set_option linter.unusedVariables false
set_option linter.unusedSimpArgs false
end Go.Proofs.YtcdmgdegohcmhaaDoor.PA
namespace Go.Proofs.YtcdmgdegohcmhaaDoor.PA
open Go.RowKit Go.Proofs.YtcdmgdegohcmhaaDoorW.PrintWords Go.Proofs.YtcdmgdegohcmhaaDoorW.PrintLast Go.Proofs.YtcdmgdegohcmhaaDoorW.PrintMore
attribute [local go_sem] max2_int min2_int max_two min_two max_three min_three max_four min_four   -- for this text's walks alone
set_option linter.unusedVariables false
set_option linter.unusedSimpArgs false
end Go.Proofs.YtcdmgdegohcmhaaDoor.PA
namespace Go.Proofs.YtcdmgdegohcmhaaDoor.PA
open Go.RowKit Go.Proofs.YtcdmgdegohcmhaaDoorW.PrintWords Go.Proofs.YtcdmgdegohcmhaaDoorW.PrintLast Go.Proofs.YtcdmgdegohcmhaaDoorW.PrintMore
attribute [local go_sem] max2_int min2_int max_two min_two max_three min_three max_four min_four
set_option linter.unusedVariables false
set_option linter.unusedSimpArgs false
def okL (l : List Int) : Prop := ∀ c ∈ l, 0 ≤ c ∧ c < 256
theorem okL_app {a b : List Int} (ha : okL a) (hb : okL b) : okL (a ++ b) := fun c hc => by
 rcases List.mem_append.1 hc with h | h
 ·exact ha c h
 ·exact hb c h
theorem okL_nil : okL [] := fun c hc => absurd hc (by simp)
end Go.Proofs.YtcdmgdegohcmhaaDoor.PA
namespace Go.Proofs.YtcdmgdegohcmhaaDoor.PA
open Go.RowKit Go.Proofs.YtcdmgdegohcmhaaDoorW.PrintWords Go.Proofs.YtcdmgdegohcmhaaDoorW.PrintLast Go.Proofs.YtcdmgdegohcmhaaDoorW.PrintMore
attribute [local go_sem] max2_int min2_int max_two min_two max_three min_three max_four min_four
set_option linter.unusedVariables false
set_option linter.unusedSimpArgs false
theorem wrap_succ (i : Nat) (h : i < 9223372036854775807) : wrap64 ((i : Int) + 1) = ((i + 1 : Nat) : Int) := by
 rw [wr64 _ (by omega) (by omega)]
 rfl
def putS (n : Int) : List Int := if mn (mx n (-2305843009213693952)) 2305843009213693951 < 0 then putL ((-2) * mn (mx n (-2305843009213693952)) 2305843009213693951 - 1) else putL (2 * mn (mx n (-2305843009213693952)) 2305843009213693951)
theorem put_ok (l : List Int) (n : Int) (h : l.length < 1000000000) : num_Put.f l n = some (l ++ putL n) := if_pos h
theorem putint_f (l : List Int) (n : Int) (h : l.length < 1000000000) : num_PutInt.f l n = some (l ++ putS n) := by
 unfold num_PutInt.f putS
 split
 ·rw [put_ok _ _ h]
  rfl
 ·rw [put_ok _ _ h]
  rfl
theorem putS_len (n : Int) : (putS n).length ≤ 9 := by
 unfold putS
 split <;> exact putL_len _
def metaL (a b c d e : Int) : List Int := if metaOk a b c d e = true then putL a ++ putS b ++ putL c ++ putL d ++ putL e else []
theorem metaL_len (a b c d e : Int) : (metaL a b c d e).length ≤ 45 := by
 have h1 := putL_len a
 have h2 := putS_len b
 have h3 := putL_len c
 have h4 := putL_len d
 have h5 := putL_len e
 unfold metaL
 split
 ·simp only [List.length_append]
  omega
 ·simp
theorem metab_f (a b c d e : Int) : meta_Bytes.f a b c d e = some (metaL a b c d e, if metaOk a b c d e = true then 0 else 2) := by
 have h1 := putL_len a
 have h2 := putS_len b
 have h3 := putL_len c
 have h4 := putL_len d
 rw [meta_Bytes.f, meta_Check.f, Option.bind_some]
 unfold metaL
 by_cases h : metaOk a b c d e = true
 ·rw [if_pos h, if_pos rfl, if_pos h, put_ok _ _ (by simp), Option.bind_some, putint_f _ _ (by simp; omega), Option.bind_some, put_ok _ _ (by simp; omega), Option.bind_some, put_ok _ _ (by simp; omega), Option.bind_some, put_ok _ _ (by simp; omega), Option.bind_some]
  rfl
 ·rw [if_neg h, if_neg (by decide), if_neg h]
theorem puttext_ok (l : List Int) (s : ByteArray) (h : l.length + 9 + s.size < 1000000000) : num_PutText.f l s = some (l ++ putL (s.size : Int) ++ bytesOf s) := by
 have h1 := putL_len (s.size : Int)
 rw [num_PutText.f, put_ok _ _ (by omega), Option.bind_some, if_pos (by simp; omega)]
def kindE (x : S35) : Int := if x.f5.toList = ([] : List UInt8) then x.f1 else wrap64 (x.f1 + 4)
def tailE (last : ByteArray) (x : S35) : ByteArray := x.f0.extract (likeN x.f0 last) x.f0.size
def entL (last : ByteArray) (x : S35) : List Int :=
 putL (likeN x.f0 last : Int) ++ putL ((tailE last x).size : Int) ++ bytesOf (tailE last x) ++ putL (kindE x) ++ putL x.f2 ++ metaL x.f3.f0 x.f3.f1 x.f3.f2 x.f3.f3 x.f3.f4 ++ (if x.f1 = 3 then putL (x.f4.size : Int) ++ bytesOf x.f4 else []) ++ bytesOf x.f5 ++ (if x.f1 = 1 then putL x.f6 else [])
def encG : ByteArray → List S35 → List Int
 | _, [] => []
 | last, x :: l => entL last x ++ encG x.f0 l
def encL (L : List S35) : List Int := putL (L.length : Int) ++ encG ⟨#[]⟩ L
def sealB (l : List Int) : List Int := l ++ sealL l
def bnd35 (x : S35) : Prop := x.f0.size ≤ 100000 ∧ x.f4.size ≤ 100000 ∧ x.f5.size ≤ 100000
theorem tailE_size (last : ByteArray) (x : S35) : (tailE last x).size ≤ x.f0.size := by
 unfold tailE
 rw [ByteArray.size_extract]
 omega
theorem entL_len (last : ByteArray) (x : S35) (h : bnd35 x) : (entL last x).length ≤ 300200 := by
 obtain ⟨h1, h2, h3⟩ := h
 have a1 := putL_len (likeN x.f0 last : Int)
 have a2 := putL_len ((tailE last x).size : Int)
 have a3 := putL_len (kindE x)
 have a4 := putL_len x.f2
 have a5 := metaL_len x.f3.f0 x.f3.f1 x.f3.f2 x.f3.f3 x.f3.f4
 have a6 := putL_len (x.f4.size : Int)
 have a7 := putL_len x.f6
 have a8 := tailE_size last x
 have b1 : (if x.f1 = 3 then putL (x.f4.size : Int) ++ bytesOf x.f4 else []).length ≤ 100009 := by
  split
  ·rw [List.length_append, bytesOf_length]
   omega
  ·simp
 have b2 : (if x.f1 = 1 then putL x.f6 else []).length ≤ 9 := by
  split
  ·exact a7
  ·simp
 unfold entL
 simp only [List.length_append, bytesOf_length] at *
 omega
theorem putL_ok (n : Int) : okL (putL n) := by
 have : ∀ (k : Nat) (x : Int), 0 ≤ x → x < 128 ^ (k + 1) → okL (putN k x) := by
  intro k
  induction k with
  | zero =>
   intro x h0 h1 c hc
   rw [putN_last 0 x (by simp at h1; omega)] at hc
   simp at hc h1
   omega
  | succ k ih =>
   intro x h0 h1 c hc
   by_cases h : x > 127
   ·rw [putN_more k x h] at hc
    rcases List.mem_cons.1 hc with e | hc
    ·omega
    ·refine ih (x / 128) (by omega) ?_ c hc
     rw [Int.pow_succ] at h1
     omega
   ·rw [putN_last _ x h] at hc
    simp at hc
    omega
 have hc := clampN_range n
 exact this 8 (clampN n) hc.1 (by have e9 : (128 : Int) ^ (8 + 1) = 9223372036854775808 := rfl; omega)
theorem putS_ok (n : Int) : okL (putS n) := by
 unfold putS
 split <;> exact putL_ok _
theorem bytesOf_ok (s : ByteArray) : okL (bytesOf s) := fun c hc => by
 simp [bytesOf] at hc
 obtain ⟨b, _, rfl⟩ := hc
 have := b.toNat_lt
 omega
theorem if_ok {p : Prop} [Decidable p] {a b : List Int} (ha : okL a) (hb : okL b) : okL (if p then a else b) := by
 split
 ·exact ha
 ·exact hb
theorem metaL_ok (a b c d e : Int) : okL (metaL a b c d e) := if_ok (okL_app (okL_app (okL_app (okL_app (putL_ok _) (putS_ok _)) (putL_ok _)) (putL_ok _)) (putL_ok _)) okL_nil
theorem entL_ok (last : ByteArray) (x : S35) : okL (entL last x) :=
 okL_app (okL_app (okL_app (okL_app (okL_app (okL_app (okL_app (okL_app (putL_ok _) (putL_ok _)) (bytesOf_ok _)) (putL_ok _)) (putL_ok _)) (metaL_ok _ _ _ _ _)) (if_ok (okL_app (putL_ok _) (bytesOf_ok _)) okL_nil)) (bytesOf_ok _)) (if_ok (putL_ok _) okL_nil)
theorem seal_ok (l : List Int) (h : l.length < 1000000000) (hu : okL l) : crc_Seal.f l = some (sealB l) := if_pos ⟨h, hu⟩
set_option maxHeartbeats 2000000 in
theorem fb_step (L : List S35) (i : Nat) (hi : i < L.length) (hL : L.length ≤ 2500) (b : List Int) (last : ByteArray) (hb : b.length + 300200 < 1000000000) (hx : bnd35 L[i]) (hlast : last.size ≤ 100000) (k : Nat) :
  flist_Bytes.l0 (k + 2) b last L (L.length : Int) (i : Int) = flist_Bytes.l0 k (b ++ entL last L[i]) L[i].f0 L (L.length : Int) ((i + 1 : Nat) : Int) := by
 obtain ⟨x, ex⟩ : ∃ x, L[i] = x := ⟨_, rfl⟩
 rw [ex] at hx
 obtain ⟨h1, h2, h3⟩ := hx
 have a1 := putL_len (likeN x.f0 last : Int)
 have a2 := putL_len ((tailE last x).size : Int)
 have a3 := putL_len (kindE x)
 have a4 := putL_len x.f2
 have a5 := metaL_len x.f3.f0 x.f3.f1 x.f3.f2 x.f3.f3 x.f3.f4
 have a6 := putL_len (x.f4.size : Int)
 have a8 := tailE_size last x
 have hn := likeN_le x.f0 last
 have hj : flist_Bytes.l0 (k + 2) b last L (L.length : Int) (i : Int) = flist_Bytes.j1 (k + 1) b x.f0 (likeN x.f0 last : Int) (kindE x) L (L.length : Int) (i : Int) x.f0 x.f1 x.f2 x.f3.f0 x.f3.f1 x.f3.f2 x.f3.f3 x.f3.f4 x.f4 x.f5 x.f6 := by
  rw [flist_Bytes.l0, if_pos (by omega), if_pos (by omega), if_pos (by omega), rd35_get L i hi, ex, flist_like.f, if_pos ⟨by omega, by omega⟩, Option.bind_some]
  unfold kindE
  by_cases h5 : x.f5.toList = ([] : List UInt8)
  ·rw [if_pos h5, if_pos h5]
  ·rw [if_neg h5, if_neg h5]
 have hte : x.f0.extract ((likeN x.f0 last : Nat) : Int).toNat x.f0.size = tailE last x := by
  rw [Int.toNat_natCast]
  rfl
 rw [hj, ex, flist_Bytes.j1, put_ok _ _ (by omega), Option.bind_some, if_pos (by omega), if_pos (by omega), hte]
 rw [puttext_ok _ _ (by simp only [List.length_append]; omega), Option.bind_some]
 rw [put_ok _ _ (by simp only [List.length_append, bytesOf_length]; omega), Option.bind_some]
 rw [put_ok _ _ (by simp only [List.length_append, bytesOf_length]; omega), Option.bind_some]
 rw [metab_f, Option.bind_some, if_pos (by simp only [List.length_append, bytesOf_length]; omega), Option.bind_some, wrap_succ i (by omega)]
 unfold entL
 by_cases c3 : x.f1 = 3
 ·have c1 : ¬ x.f1 = 1 := by omega
  rw [if_pos c3, if_pos c3, if_neg c1, puttext_ok _ _ (by simp only [List.length_append, bytesOf_length]; omega), Option.bind_some, if_pos (by simp only [List.length_append, bytesOf_length]; omega), Option.bind_some, if_neg c1]
  simp only [List.append_assoc, List.append_nil]
 ·rw [if_neg c3, if_neg c3, if_pos (by simp only [List.length_append, bytesOf_length]; omega), Option.bind_some]
  by_cases c1 : x.f1 = 1
  ·rw [if_pos c1, if_pos c1, put_ok _ _ (by simp only [List.length_append, bytesOf_length]; omega), Option.bind_some]
   simp only [List.append_assoc, List.nil_append]
  ·rw [if_neg c1, if_neg c1]
   simp only [List.append_assoc, List.append_nil, List.nil_append]
theorem fb_all (L : List S35) (hL : L.length ≤ 2500) (hx : ∀ x ∈ L, bnd35 x) : ∀ (m i : Nat) (b : List Int) (last : ByteArray) (k : Nat), L.length - i = m → i ≤ L.length → b.length + m * 300200 < 999000000 → last.size ≤ 100000 → okL b → 2 * m + 1 ≤ k →
  flist_Bytes.l0 k b last L (L.length : Int) (i : Int) = some (sealB (b ++ encG last (L.drop i)), 0) := by
 intro m
 induction m with
 | zero =>
  intro i b last k hm hi hb hl ho hk
  obtain ⟨k, rfl⟩ : ∃ j, k = j + 1 := ⟨k - 1, by omega⟩
  rw [flist_Bytes.l0, if_neg (by omega), seal_ok b (by omega) ho, Option.bind_some, List.drop_eq_nil_of_le (by omega), encG, List.append_nil]
 | succ m ih =>
  intro i b last k hm hi hb hl ho hk
  obtain ⟨k, rfl⟩ : ∃ j, k = j + 2 := ⟨k - 2, by omega⟩
  have hlt : i < L.length := by omega
  have hxi := hx L[i] (List.getElem_mem hlt)
  have he := entL_len last L[i] hxi
  obtain ⟨z, hz⟩ : ∃ z : Nat, z = (entL last L[i]).length := ⟨_, rfl⟩
  rw [← hz] at he
  have HZ := Aside0.mk hz
  clear hz
  have hb3 : b.length + 300200 < 1000000000 := by omega
  have hb4 : b.length + z + m * 300200 < 999000000 := by omega
  rw [fb_step L i hlt hL b last hb3 hxi hl k, ih (i + 1) _ _ k (by omega) (by omega) (by rw [List.length_append, ← HZ.out]; exact hb4) hxi.1 (okL_app ho (entL_ok _ _)) (by omega), List.drop_eq_getElem_cons hlt, encG, List.append_assoc]
theorem bytes20_f (L : List S35) (hl : light20 L) (hx : ∀ x ∈ L, bnd35 x) (k : Nat) (hk : 6000 ≤ k) : flist_Bytes.f k L = some (if checkL20 L = 0 then (sealB (encL L), 0) else ([], checkL20 L)) := by
 have hln := hl.1
 obtain ⟨z, hz⟩ : ∃ z : Nat, z = (putL (L.length : Int)).length := ⟨_, rfl⟩
 have h2 : z ≤ 9 := hz ▸ putL_len (L.length : Int)
 have HZ := Aside0.mk hz
 clear hz
 have hb4 : z + L.length * 300200 < 999000000 := by omega
 rw [flist_Bytes.f, flist_Check.f, if_pos hl, Option.bind_some]
 by_cases hc : checkL20 L = 0
 ·rw [if_pos hc, if_pos hc, put_ok _ _ (by simp), Option.bind_some]
  have := fb_all L hl.1 hx L.length 0 (putL (L.length : Int)) ⟨#[]⟩ k (by omega) (by omega) (by rw [← HZ.out]; exact hb4) (Nat.zero_le _) (putL_ok _) (by omega)
  rw [List.drop_zero] at this
  exact this
 ·rw [if_neg hc, if_neg hc]
end Go.Proofs.YtcdmgdegohcmhaaDoor.PA
namespace Go.Proofs.YtcdmgdegohcmhaaDoor.PA
open Go.RowKit Go.Proofs.YtcdmgdegohcmhaaDoorW.PrintWords Go.Proofs.YtcdmgdegohcmhaaDoorW.PrintLast Go.Proofs.YtcdmgdegohcmhaaDoorW.PrintMore
attribute [local go_sem] max2_int min2_int max_two min_two max_three min_three max_four min_four
set_option linter.unusedVariables false
set_option linter.unusedSimpArgs false
def smallX (x : S35) : Bool := decide (x.f0.size ≤ 600) && decide (x.f4.size ≤ 600) && decide (x.f5.size ≤ 100)
def smallB (L : List S35) : Bool := L.all smallX && decide (L.length ≤ 60)
theorem small_l (L : List S35) (hL : L.length ≤ 9223372036854775807) : ∀ (m i k : Nat), L.length - i = m → i ≤ L.length → m + 1 ≤ k → remoraref20_Small.l0 k L (i : Int) = some ((L.drop i).all smallX && decide (L.length ≤ 60)) := by
 intro m
 induction m with
 | zero =>
  intro i k hm hi hk
  obtain ⟨k, rfl⟩ : ∃ j, k = j + 1 := ⟨k - 1, by omega⟩
  rw [remoraref20_Small.l0, if_neg (by omega), List.drop_eq_nil_of_le (by omega), List.all_nil, Bool.true_and]
  congr 1
  exact decide_eq_decide.2 (by omega)
 | succ m ih =>
  intro i k hm hi hk
  obtain ⟨k, rfl⟩ : ∃ j, k = j + 1 := ⟨k - 1, by omega⟩
  have hlt : i < L.length := by omega
  rw [remoraref20_Small.l0, if_pos (by omega), if_pos (by omega), rd35_get L i hlt, wrap_succ i (by omega), ih (i + 1) k (by omega) (by omega) (by omega), List.drop_eq_getElem_cons hlt, List.all_cons]
  unfold smallX
  by_cases h1 : L[i].f0.size ≤ 600
  ·by_cases h2 : L[i].f4.size ≤ 600
   ·by_cases h3 : L[i].f5.size ≤ 100
    ·rw [if_neg (by omega), if_neg (by omega), if_neg (by omega)]
     simp [h1, h2, h3]
    ·rw [if_neg (by omega), if_neg (by omega), if_pos (by omega)]
     simp [h3]
   ·rw [if_neg (by omega), if_pos (by omega)]
    simp [h2]
  ·rw [if_pos (by omega)]
   simp [h1]
theorem small_f (L : List S35) (hL : L.length ≤ 9223372036854775807) (k : Nat) (hk : L.length + 1 ≤ k) : remoraref20_Small.f k L = some (smallB L) := small_l L hL L.length 0 k (by omega) (by omega) (by omega)
theorem smallB_facts {L : List S35} (h : smallB L = true) : L.length ≤ 60 ∧ ∀ x ∈ L, x.f0.size ≤ 600 ∧ x.f4.size ≤ 600 ∧ x.f5.size ≤ 100 := by
 unfold smallB at h
 simp only [Bool.and_eq_true, decide_eq_true_eq, List.all_eq_true] at h
 refine ⟨h.2, fun x hx => ?_⟩
 have := h.1 x hx
 unfold smallX at this
 simp only [Bool.and_eq_true, decide_eq_true_eq] at this
 exact ⟨this.1.1, this.1.2, this.2⟩
theorem light_small {L : List S35} (h : smallB L = true) : light20 L := ⟨by have := (smallB_facts h).1; omega, fun x hx => by have := (smallB_facts h).2 x hx; omega⟩
def exA : S35 := ⟨(⟨#[97]⟩ : ByteArray), 1, 3, (⟨0, 0, 0, 0, 0⟩ : S33), (⟨#[]⟩ : ByteArray), (⟨#[]⟩ : ByteArray), 0⟩
def exB : S35 := ⟨(⟨#[97, 47, 98]⟩ : ByteArray), 1, 0, (⟨0, 0, 0, 0, 0⟩ : S33), (⟨#[]⟩ : ByteArray), (⟨#[]⟩ : ByteArray), 0⟩
theorem exA_check : checkL20 [exA] = 0 := by kernel_rfl
theorem exB_check : checkL20 [exB] = 12 := by kernel_rfl
theorem exA_enc : encL [exA] = [1, 0, 1, 97, 1, 3, 0, 0, 0, 0, 0, 0] := by kernel_rfl
theorem awake20 (k : Nat) (hk : 6000 ≤ k) : remoralaw20_awake.f k = some true := by
 have lA : light20 [exA] := ⟨by decide, fun x hx => by rw [List.mem_singleton.1 hx]; decide⟩
 have lB : light20 [exB] := ⟨by decide, fun x hx => by rw [List.mem_singleton.1 hx]; decide⟩
 have bA : ∀ x ∈ [exA], bnd35 x := fun x hx => by rw [List.mem_singleton.1 hx]; exact ⟨by decide, by decide, by decide⟩
 have hB := bytes20_f [exA] lA bA k hk
 rw [exA_check, if_pos rfl, exA_enc] at hB
 have hC : flist_Check.f [exB] = some 12 := by rw [flist_Check.f, if_pos lB, exB_check]
 unfold remoralaw20_awake.f
 rw [show ([(⟨(⟨#[97]⟩ : ByteArray), 1, 3, (⟨0, 0, 0, 0, 0⟩ : S33), (⟨#[]⟩ : ByteArray), (⟨#[]⟩ : ByteArray), 0⟩ : S35)] : List S35) = [exA] from rfl, hB, Option.bind_some, if_pos rfl, if_pos (by rfl), if_pos (by decide), if_pos (by kernel_rfl), show ([(⟨(⟨#[97, 47, 98]⟩ : ByteArray), 1, 0, (⟨0, 0, 0, 0, 0⟩ : S33), (⟨#[]⟩ : ByteArray), (⟨#[]⟩ : ByteArray), 0⟩ : S35)] : List S35) = [exB] from rfl, hC]
 rfl
end Go.Proofs.YtcdmgdegohcmhaaDoor.PA
namespace Go.Proofs.YtcdmgdegohcmhaaDoor.PA
open Go.RowKit Go.Proofs.YtcdmgdegohcmhaaDoorW.PrintWords Go.Proofs.YtcdmgdegohcmhaaDoorW.PrintLast Go.Proofs.YtcdmgdegohcmhaaDoorW.PrintMore
attribute [local go_sem] max2_int min2_int max_two min_two max_three min_three max_four min_four
set_option linter.unusedVariables false
set_option linter.unusedSimpArgs false
def goodP (L : List S35) (n : Nat) : Prop := srt (L.take n) ∧ (∀ j, ∀ h : j < L.length, j < n → aloneI L[j] = 0) ∧ ∀ j, ∀ h : j < L.length, j < n → dirsB (L.take j) (parB L[j].f0) = true
theorem step_facts20 (P : List S35) (last : Int) (x : S35) (h : stepC P last x = 0) : aloneI x = 0 ∧ ¬ (P ≠ [] ∧ x.f0 = (prev P).f0) ∧ ¬ (P ≠ [] ∧ cmpL (splitL x.f0) (splitL (prev P).f0) < 0) ∧ dirsB P (parB x.f0) = true := by
 unfold stepC at h
 by_cases h1 : aloneI x ≠ 0
 ·rw [if_pos h1] at h
  exact absurd h h1
 ·rw [if_neg h1] at h
  by_cases h2 : P ≠ [] ∧ x.f0 = (prev P).f0
  ·rw [if_pos h2] at h
   exact absurd h (by decide)
  ·rw [if_neg h2] at h
   by_cases h3 : P ≠ [] ∧ cmpL (splitL x.f0) (splitL (prev P).f0) < 0
   ·rw [if_pos h3] at h
    exact absurd h (by decide)
   ·rw [if_neg h3] at h
    by_cases h4 : dirsB P (parB x.f0) = false
    ·rw [if_pos h4] at h
     exact absurd h (by decide)
    ·exact ⟨Classical.not_not.1 h1, h2, h3, by revert h4; cases dirsB P (parB x.f0) <;> simp⟩
theorem good_l (L : List S35) : ∀ (m i : Nat) (last : Int), L.length - i = m → i ≤ L.length → checkG (L.take i) last (L.drop i) = 0 → goodP L i → goodP L L.length := by
 intro m
 induction m with
 | zero =>
  intro i last hm hi hc hg
  obtain rfl : i = L.length := by omega
  exact hg
 | succ m ih =>
  intro i last hm hi hc hg
  have hlt : i < L.length := by omega
  rw [List.drop_eq_getElem_cons hlt, checkG_cons] at hc
  by_cases hs : stepC (L.take i) last L[i] ≠ 0
  ·rw [if_pos hs] at hc
   exact absurd hc hs
  ·rw [if_neg hs, ← List.take_succ_eq_append_getElem hlt] at hc
   obtain ⟨s1, s2, s3, s4⟩ := step_facts20 _ _ _ (Classical.not_not.1 hs)
   refine ih (i + 1) _ (by omega) (by omega) hc ⟨step_srt L i hlt hg.1 s2 s3, fun j h hj => ?_, fun j h hj => ?_⟩
   ·by_cases e : j = i
    ·subst e
     exact s1
    ·exact hg.2.1 j h (by omega)
   ·by_cases e : j = i
    ·subst e
     exact s4
    ·exact hg.2.2 j h (by omega)
theorem good_check (L : List S35) (h : checkL20 L = 0) : goodP L L.length := by
 refine good_l L L.length 0 0 (by omega) (by omega) (by rw [List.take_zero, List.drop_zero]; exact h) ⟨?_, fun j _ hj => by omega, fun j _ hj => by omega⟩
 rw [List.take_zero]
 exact List.Pairwise.nil
theorem good_srt {L : List S35} (h : goodP L L.length) : srt L := by
 have := h.1
 rwa [List.take_length] at this
theorem same_l (L : List S35) (hl : L.length ≤ 1000000) : ∀ (m t k : Nat), L.length - t = m → t ≤ L.length → m + 1 ≤ k → api_Entry_45.l0 k L L (L.length : Int) (t : Int) = some true := by
 intro m
 induction m with
 | zero =>
  intro t k hm ht hk
  obtain ⟨k, rfl⟩ : ∃ j, k = j + 1 := ⟨k - 1, by omega⟩
  rw [api_Entry_45.l0, if_neg (by omega)]
 | succ m ih =>
  intro t k hm ht hk
  obtain ⟨k, rfl⟩ : ∃ j, k = j + 1 := ⟨k - 1, by omega⟩
  rw [api_Entry_45.l0, if_pos (by omega), if_pos (by omega), if_pos (by omega), if_pos (by omega), if_neg (by simp), wrapS35 t (by omega)]
  exact ih (t + 1) k (by omega) (by omega) (by omega)
theorem same_refl (L : List S35) (hl : L.length ≤ 1000000) (k : Nat) (hk : L.length + 1 ≤ k) : flist_Same.f k L L = some true := by
 rw [flist_Same.f, api_Entry_45.f, if_pos rfl]
 have := same_l L hl L.length 0 k (by omega) (by omega) (by omega)
 rw [show ((0 : Nat) : Int) = 0 from rfl] at this
 rw [this]
 rfl
end Go.Proofs.YtcdmgdegohcmhaaDoor.PA
namespace Go.Proofs.YtcdmgdegohcmhaaDoor.PA
open Go.RowKit Go.Proofs.YtcdmgdegohcmhaaDoorW.PrintWords Go.Proofs.YtcdmgdegohcmhaaDoorW.PrintLast Go.Proofs.YtcdmgdegohcmhaaDoorW.PrintMore
attribute [local go_sem] max2_int min2_int max_two min_two max_three min_three max_four min_four
set_option linter.unusedVariables false
set_option linter.unusedSimpArgs false
theorem check_takeG : ∀ (l : List S35) (P : List S35) (last : Int) (i : Nat), checkG P last l = 0 → checkG P last (l.take i) = 0
 | [], _, _, _, h => by rw [List.take_nil]; exact h
 | x :: l, P, last, 0, _ => by rw [List.take_zero]; rfl
 | x :: l, P, last, i + 1, h => by
  rw [checkG_cons] at h
  rw [List.take_succ_cons, checkG_cons]
  by_cases hs : stepC P last x ≠ 0
  ·rw [if_pos hs] at h
   exact absurd h hs
  ·rw [if_neg hs] at h
   rw [if_neg hs]
   exact check_takeG l _ _ i h
theorem check_take (L : List S35) (h : checkL20 L = 0) (i : Nat) : checkL20 (L.take i) = 0 := check_takeG L [] 0 i h
theorem one_class (L : List S35) (h : srt L) (c : S35) : (L.filter (eqvB ltS c)).length ≤ 1 := by
 have hp : (L.filter (eqvB ltS c)).Pairwise (fun a b => cmpL (splitL a.f0) (splitL b.f0) < 0) := List.Pairwise.filter _ h
 cases hq : L.filter (eqvB ltS c) with
 | nil => simp
 | cons a t =>
  cases t with
  | nil => simp
  | cons b t =>
   exfalso
   rw [hq] at hp
   have hab := (List.pairwise_cons.1 hp).1 b (by simp)
   have ha : a ∈ L.filter (eqvB ltS c) := by rw [hq]; simp
   have hb : b ∈ L.filter (eqvB ltS c) := by rw [hq]; simp
   have ha := (List.mem_filter.1 ha).2
   have hb := (List.mem_filter.1 hb).2
   unfold eqvB at ha hb
   simp only [Bool.and_eq_true, Bool.not_eq_true'] at ha hb
   have := swoS.ntrans a c b ha.2 hb.1
   exact absurd hab (of_decide_eq_false this)
theorem perm_small {α : Type} {a b : List α} (h : a.Perm b) (hl : b.length ≤ 1) : a = b := by
 cases b with
 | nil => exact h.eq_nil
 | cons x t =>
  cases t with
  | nil => exact List.perm_singleton.1 h
  | cons y t =>
   simp only [List.length_cons] at hl
   omega
theorem sort_back (L m : List S35) (h : srt L) (hp : m.Perm L) : sortS m = L := by
 have ho := sortS_ok m
 refine stp_unique swoS (sortS m) L ho.2 ?_ ⟨(ho.1.1.trans hp).symm, fun c => ?_⟩
 ·unfold SortedL
  exact List.Pairwise.imp (fun {a b} hab => decide_eq_false (cmp_anti _ _ hab)) h
 ·exact (perm_small ((ho.1.1.trans hp).filter (eqvB ltS c)) (one_class L h c)).symm
theorem set2_perm {α : Type} (m : List α) (i k : Nat) (hi : i < m.length) (hk : k < m.length) : ((m.set i m[k]).set k m[i]).Perm m := by
 have h := Array.swap_perm (xs := m.toArray) (i := i) (j := k) (by simpa using hi) (by simpa using hk)
 rw [Array.perm_iff_toList_perm] at h
 simpa [Array.swap] using h
end Go.Proofs.YtcdmgdegohcmhaaDoor.PA
