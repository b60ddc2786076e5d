/- Two entries of a row of the call's own, exchanged: the loads, the stores and the row behind. -/
import Derived.Test.YtodbmagneaiocaaASG1
import Derived.Test.YtodbmagneaiocaaASG5
import Derived.Test.YtodbmagneaiocaaASG4
import Derived.Test.YtodbmagneaiocaaASG3
import Derived.Test.YtodbmagneaiocaaASG2
import Derived.Shelf.RegionOpenPlain
import Derived.Shelf.SlSortCmp.InsertionK
namespace Go.Proofs.Ytodbmagneaiocaa.PA
open Go.RowKit Go.Proofs.YtodbmagneaiocaaW.PrintWords Go.Proofs.YtodbmagneaiocaaW.PrintLast Go.Proofs.YtodbmagneaiocaaW.PrintMore
attribute [local go_sem] max2_int min2_int max_two min_two max_three min_three max_four min_four
set_option linter.unusedVariables false
set_option linter.unusedSimpArgs false
def ltB (p q : ByteArray) : Bool := decide (cmpL (splitL p) (splitL q) < 0)
theorem ltB_irr (p : ByteArray) : ltB p p = false := decide_eq_false (cmp_irr _)
theorem ltB_trans {p q r : ByteArray} (h : ltB p q = true) (h2 : ltB q r = true) : ltB p r = true := decide_eq_true (cmp_trans _ _ _ (of_decide_eq_true h) (of_decide_eq_true h2))
theorem ltB_tri {p q : ByteArray} (h : ltB p q = false) (h2 : ltB q p = false) : p = q := split_same20 _ _ (cmp_tri _ _ (of_decide_eq_false h) (of_decide_eq_false h2))
theorem ltB_ne {p q : ByteArray} (h : ltB p q = true) : p ≠ q := fun e => by
 subst e
 rw [ltB_irr] at h
 cases h
theorem ltB_of {p q : ByteArray} (h : ltB q p = false) (hne : p ≠ q) : ltB p q = true := by
 cases h2 : ltB p q with
 | true => rfl
 | false => exact absurd (ltB_tri h2 h) hne
theorem ltS_ltB (x y : S43) : ltS x y = ltB x.f0 y.f0 := rfl
def SS (l : List S43) : Prop := l.Pairwise (fun x y => ltB x.f0 y.f0 = true)
def findE (p : ByteArray) (l : List S43) : Option S43 := l.find? (fun x => decide (x.f0 = p))
theorem find_nil (p : ByteArray) : findE p [] = none := rfl
theorem find_same (x : S43) (l : List S43) : findE x.f0 (x :: l) = some x := List.find?_cons_of_pos (by simp)
theorem find_same' {x : S43} {p : ByteArray} (h : x.f0 = p) (l : List S43) : findE p (x :: l) = some x := List.find?_cons_of_pos (by simp [h])
theorem find_other {p : ByteArray} {x : S43} (h : x.f0 ≠ p) (l : List S43) : findE p (x :: l) = findE p l := List.find?_cons_of_neg (by simp [h])
theorem find_app (p : ByteArray) (l m : List S43) : findE p (l ++ m) = (findE p l).or (findE p m) := List.find?_append
theorem find_path {p : ByteArray} {l : List S43} {x : S43} (h : findE p l = some x) : x.f0 = p := by simpa using List.find?_some h
theorem find_mem {p : ByteArray} {l : List S43} {x : S43} (h : findE p l = some x) : x ∈ l := List.mem_of_find?_eq_some h
theorem find_none {p : ByteArray} {l : List S43} (h : ∀ x ∈ l, x.f0 ≠ p) : findE p l = none := List.find?_eq_none.2 (fun x hx => by simpa using h x hx)
theorem find_some {p : ByteArray} {l : List S43} (h : ∃ x ∈ l, x.f0 = p) : ∃ x, findE p l = some x := by
 cases hf : findE p l with
 | some x => exact ⟨x, rfl⟩
 | none =>
  obtain ⟨x, hx, e⟩ := h
  have := List.find?_eq_none.1 hf x hx
  simp [e] at this
theorem find_sort (p : ByteArray) (l : List S43) : findE p (sortS l) = findE p l := by
 have h := (sortS_ok l).1.2 (⟨p, 0, 0, ⟨0, 0, 0, 0, 0⟩, p, p, 0⟩ : S43)
 have e : (fun x : S43 => decide (x.f0 = p)) = eqvB ltS (⟨p, 0, 0, ⟨0, 0, 0, 0, 0⟩, p, p, 0⟩ : S43) := by
  funext x
  unfold eqvB
  rw [ltS_ltB, ltS_ltB]
  show decide (x.f0 = p) = (!ltB p x.f0 && !ltB x.f0 p)
  by_cases hx : x.f0 = p
  ·rw [hx, ltB_irr]
   simp
  ·rw [decide_eq_false hx]
   cases h1 : ltB p x.f0 with
   | true => rfl
   | false =>
    cases h2 : ltB x.f0 p with
    | true => rfl
    | false => exact absurd (ltB_tri h2 h1) hx
 unfold findE
 rw [← List.head?_filter, ← List.head?_filter, e, h]
theorem ss_last {F : List S43} (h : SS F) (hn : F ≠ []) : ∀ x ∈ F, x.f0 = (F.getLastD z43).f0 ∨ ltB x.f0 (F.getLastD z43).f0 = true := by
 obtain ⟨I, z, rfl⟩ : ∃ I z, F = I ++ [z] := ⟨F.dropLast, F.getLast hn, (List.dropLast_concat_getLast hn).symm⟩
 intro x hx
 have e : (I ++ [z]).getLastD z43 = z := by simp [List.getLastD_eq_getLast?]
 rw [e]
 rcases List.mem_append.1 hx with hx | hx
 ·exact Or.inr ((List.pairwise_append.1 h).2.2 x hx z (by simp))
 ·exact Or.inl (by rw [List.mem_singleton.1 hx])
theorem last_mem {F : List S43} (hn : F ≠ []) : F.getLastD z43 ∈ F := by
 obtain ⟨I, z, rfl⟩ : ∃ I z, F = I ++ [z] := ⟨F.dropLast, F.getLast hn, (List.dropLast_concat_getLast hn).symm⟩
 have e : (I ++ [z]).getLastD z43 = z := by simp [List.getLastD_eq_getLast?]
 rw [e]
 simp
theorem first_take (S : List S43) (h : SortedL ltS S) : ∀ i, i ≤ S.length → SS (firstL (S.take i)) ∧ (∀ p, findE p (firstL (S.take i)) = findE p (S.take i)) ∧ (∀ (h0 : 0 < i) (hi : i ≤ S.length), firstL (S.take i) ≠ [] ∧ ((firstL (S.take i)).getLastD z43).f0 = (S[i - 1]'(by omega)).f0) := by
 intro i
 induction i with
 | zero => exact fun _ => ⟨List.Pairwise.nil, fun p => rfl, fun h0 _ => absurd h0 (by omega)⟩
 | succ i ih =>
  intro hi
  obtain ⟨h1, h2, h3⟩ := ih (by omega)
  have hlt : i < S.length := by omega
  rw [firstL_step S i hlt, List.take_succ_eq_append_getElem hlt]
  obtain ⟨F, hF⟩ : ∃ F, firstL (S.take i) = F := ⟨_, rfl⟩
  obtain ⟨y, hy⟩ : ∃ y, S[i] = y := ⟨_, rfl⟩
  rw [hF] at h1 h2 h3
  rw [hF, hy]
  by_cases hn : F = []
  ·have i0 : i = 0 := by
    apply Classical.byContradiction
    intro hz
    exact (h3 (by omega) (by omega)).1 hn
   subst i0
   subst hn
   have hg : firstG [] y = [y] := if_pos (Or.inl rfl)
   rw [hg]
   refine ⟨List.pairwise_singleton _ _, fun p => rfl, fun _ _ => ⟨by simp, ?_⟩⟩
   show y.f0 = _
   subst hy
   rfl
  ·have i0 : 0 < i := by
    apply Classical.byContradiction
    intro hz
    obtain rfl : i = 0 := by omega
    exact hn (by rw [← hF]; rfl)
   obtain ⟨_, hl⟩ := h3 i0 (by omega)
   have hord : ltB y.f0 (F.getLastD z43).f0 = false := by
    rw [hl, ← hy]
    exact List.pairwise_iff_getElem.1 h (i - 1) i (by omega) hlt (by omega)
   by_cases hq : (F.getLastD z43).f0 = y.f0
   ·have hg : firstG F y = F := if_neg (fun h => h.elim hn (fun h => h hq))
    rw [hg]
    refine ⟨h1, fun p => ?_, fun _ _ => ⟨hn, ?_⟩⟩
    ·rw [find_app, ← h2 p]
     by_cases hp : y.f0 = p
     ·obtain ⟨x, hx⟩ := find_some ⟨_, last_mem hn, hq.trans hp⟩
      rw [hx]
      rfl
     ·rw [find_other hp, find_nil]
      cases findE p F <;> rfl
    ·rw [hq, ← hy]
     rfl
   ·have hg : firstG F y = F ++ [y] := if_pos (Or.inr hq)
    rw [hg]
    refine ⟨?_, fun p => by rw [find_app, find_app, h2 p], fun _ _ => ⟨by simp, ?_⟩⟩
    ·refine List.pairwise_append.2 ⟨h1, List.pairwise_singleton _ _, fun x hx z hz => ?_⟩
     rw [List.mem_singleton.1 hz]
     have hly := ltB_of hord hq
     rcases ss_last h1 hn x hx with e | e
     ·rw [e]
      exact hly
     ·exact ltB_trans e hly
    ·have e : (F ++ [y]).getLastD z43 = y := by simp [List.getLastD_eq_getLast?]
     rw [e, ← hy]
     rfl
def fstL (l : List S43) : List S43 := firstL (sortS l)
theorem fst_ss (l : List S43) : SS (fstL l) := by
 have := (first_take (sortS l) (sortS_ok l).2 _ (Nat.le_refl _)).1
 rwa [List.take_length] at this
theorem fst_find (p : ByteArray) (l : List S43) : findE p (fstL l) = findE p l := by
 have := (first_take (sortS l) (sortS_ok l).2 _ (Nat.le_refl _)).2.1 p
 rw [List.take_length] at this
 exact this.trans (find_sort p l)
theorem bothP_nil : bothL [] [] = [] := by rw [bothL]
theorem bothP_a (x : S43) (a : List S43) : bothL (x :: a) [] = (some x, none) :: bothL a [] := by rw [bothL]
theorem bothP_b (y : S43) (b : List S43) : bothL [] (y :: b) = (none, some y) :: bothL [] b := by rw [bothL]
theorem bothP_two (x y : S43) (a b : List S43) : bothL (x :: a) (y :: b) = if ltS x y = true then (some x, none) :: bothL a (y :: b) else if x.f0 ≠ y.f0 then (none, some y) :: bothL (x :: a) b else (some x, some y) :: bothL a b := by rw [bothL]
def keysL (a b : List S43) : List ByteArray := (bothL a b).map pathE
def hasK (p : ByteArray) (a b : List S43) : Prop := (∃ x ∈ a, x.f0 = p) ∨ ∃ y ∈ b, y.f0 = p
def BothOk (E : List (Option S43 × Option S43)) (a b : List S43) : Prop :=
 (E.map pathE).Pairwise (fun p q => ltB p q = true) ∧ (∀ e ∈ E, e = (findE (pathE e) a, findE (pathE e) b)) ∧ ∀ p, p ∈ E.map pathE ↔ hasK p a b
theorem both_step {e : Option S43 × Option S43} {E : List (Option S43 × Option S43)} {a b a' b' : List S43} (h : BothOk E a' b') (he : e = (findE (pathE e) a, findE (pathE e) b)) (ha : ∀ q, q ≠ pathE e → findE q a = findE q a') (hb : ∀ q, q ≠ pathE e → findE q b = findE q b')
  (hlt : ∀ q, hasK q a' b' → ltB (pathE e) q = true) (hm : ∀ q, hasK q a b ↔ q = pathE e ∨ hasK q a' b') : BothOk (e :: E) a b := by
 obtain ⟨h1, h2, h3⟩ := h
 have hl : ∀ q ∈ E.map pathE, ltB (pathE e) q = true := fun q hq => hlt q ((h3 q).1 hq)
 refine ⟨List.pairwise_cons.2 ⟨hl, h1⟩, fun x hx => ?_, fun p => ?_⟩
 ·rcases List.mem_cons.1 hx with rfl | hx
  ·exact he
  ·have hne : pathE x ≠ pathE e := fun h => ltB_ne (hl (pathE x) (List.mem_map_of_mem hx)) h.symm
   rw [ha _ hne, hb _ hne]
   exact h2 x hx
 ·rw [List.map_cons, List.mem_cons, h3, hm]
theorem ss_cons {x : S43} {a : List S43} (h : SS (x :: a)) : (∀ z ∈ a, ltB x.f0 z.f0 = true) ∧ SS a := List.pairwise_cons.1 h
theorem both_ok : ∀ (n : Nat) (a b : List S43), a.length + b.length ≤ n → SS a → SS b → BothOk (bothL a b) a b := by
 intro n
 induction n with
 | zero =>
  intro a b hn _ _
  obtain rfl : a = [] := List.eq_nil_of_length_eq_zero (by omega)
  obtain rfl : b = [] := List.eq_nil_of_length_eq_zero (by omega)
  rw [bothP_nil]
  exact ⟨List.Pairwise.nil, fun _ h => (by cases h), fun p => by simp [hasK]⟩
 | succ n ih =>
  intro a b hn ha hb
  cases a with
  | nil =>
   cases b with
   | nil =>
    rw [bothP_nil]
    exact ⟨List.Pairwise.nil, fun _ h => (by cases h), fun p => by simp [hasK]⟩
   | cons y b =>
    obtain ⟨hy, hb⟩ := ss_cons hb
    rw [bothP_b]
    refine both_step (ih [] b (by simp at hn ⊢; omega) ha hb) ?_ (fun _ _ => rfl) (fun q hq => find_other (fun h => hq h.symm) b) ?_ ?_
    ·show (none, some y) = (findE y.f0 [], findE y.f0 (y :: b))
     rw [find_same]
     rfl
    ·rintro q (⟨x, hx, _⟩ | ⟨z, hz, rfl⟩)
     ·cases hx
     ·exact hy z hz
    ·intro q
     simp [hasK, pathE, eq_comm]
  | cons x a =>
   obtain ⟨hx, hsa⟩ := ss_cons ha
   cases b with
   | nil =>
    rw [bothP_a]
    refine both_step (ih a [] (by simp at hn ⊢; omega) hsa hb) ?_ (fun q hq => find_other (fun h => hq h.symm) a) (fun _ _ => rfl) ?_ ?_
    ·show (some x, none) = (findE x.f0 (x :: a), findE x.f0 [])
     rw [find_same]
     rfl
    ·rintro q (⟨z, hz, rfl⟩ | ⟨z, hz, _⟩)
     ·exact hx z hz
     ·cases hz
    ·intro q
     simp [hasK, pathE, eq_comm]
   | cons y b =>
    obtain ⟨hy, hsb⟩ := ss_cons hb
    rw [bothP_two]
    by_cases h1 : ltS x y = true
    ·rw [if_pos h1]
     have hxy : ltB x.f0 y.f0 = true := h1
     have hall : ∀ z ∈ y :: b, ltB x.f0 z.f0 = true := fun z hz => by
      rcases List.mem_cons.1 hz with rfl | hz
      ·exact hxy
      ·exact ltB_trans hxy (hy z hz)
     refine both_step (ih a (y :: b) (by simp at hn ⊢; omega) hsa hb) ?_ (fun q hq => find_other (fun h => hq h.symm) a) (fun _ _ => rfl) ?_ ?_
     ·show (some x, none) = (findE x.f0 (x :: a), findE x.f0 (y :: b))
      rw [find_same, find_none (fun z hz e => ltB_ne (hall z hz) e.symm)]
     ·rintro q (⟨z, hz, rfl⟩ | ⟨z, hz, rfl⟩)
      ·exact hx z hz
      ·exact hall z hz
     ·intro q
      simp [hasK, pathE, eq_comm, or_assoc]
    ·rw [if_neg h1]
     have h1' : ltB x.f0 y.f0 = false := by
      cases hh : ltB x.f0 y.f0 with
      | false => rfl
      | true => exact absurd hh h1
     by_cases h2 : x.f0 ≠ y.f0
     ·rw [if_pos h2]
      have hyx : ltB y.f0 x.f0 = true := ltB_of h1' (fun e => h2 e.symm)
      have hall : ∀ z ∈ x :: a, ltB y.f0 z.f0 = true := fun z hz => by
       rcases List.mem_cons.1 hz with rfl | hz
       ·exact hyx
       ·exact ltB_trans hyx (hx z hz)
      refine both_step (ih (x :: a) b (by simp at hn ⊢; omega) ha hsb) ?_ (fun _ _ => rfl) (fun q hq => find_other (fun h => hq h.symm) b) ?_ ?_
      ·show (none, some y) = (findE y.f0 (x :: a), findE y.f0 (y :: b))
       rw [find_same, find_none (fun z hz e => ltB_ne (hall z hz) e.symm)]
      ·rintro q (⟨z, hz, rfl⟩ | ⟨z, hz, rfl⟩)
       ·exact hall z hz
       ·exact hy z hz
      ·intro q
       unfold hasK pathE
       constructor
       ·rintro (h | ⟨z, hz, rfl⟩)
        ·exact Or.inr (Or.inl h)
        ·rcases List.mem_cons.1 hz with rfl | hz
         ·exact Or.inl rfl
         ·exact Or.inr (Or.inr ⟨z, hz, rfl⟩)
       ·rintro (rfl | h | ⟨z, hz, rfl⟩)
        ·exact Or.inr ⟨y, by simp, rfl⟩
        ·exact Or.inl h
        ·exact Or.inr ⟨z, by simp [hz], rfl⟩
     ·rw [if_neg h2]
      have h3 : x.f0 = y.f0 := Classical.byContradiction h2
      refine both_step (ih a b (by simp at hn ⊢; omega) hsa hsb) ?_ (fun q hq => find_other (fun h => hq h.symm) a) (fun q hq => find_other (fun h => hq (by show q = x.f0; rw [h3, h])) b) ?_ ?_
      ·show (some x, some y) = (findE x.f0 (x :: a), findE x.f0 (y :: b))
       rw [find_same, find_same' h3.symm]
      ·rintro q (⟨z, hz, rfl⟩ | ⟨z, hz, rfl⟩)
       ·exact hx z hz
       ·show ltB x.f0 z.f0 = true
        rw [h3]
        exact hy z hz
      ·intro q
       unfold hasK pathE
       constructor
       ·rintro (⟨z, hz, rfl⟩ | ⟨z, hz, rfl⟩)
        ·rcases List.mem_cons.1 hz with rfl | hz
         ·exact Or.inl rfl
         ·exact Or.inr (Or.inl ⟨z, hz, rfl⟩)
        ·rcases List.mem_cons.1 hz with rfl | hz
         ·exact Or.inl h3.symm
         ·exact Or.inr (Or.inr ⟨z, hz, rfl⟩)
       ·rintro (rfl | ⟨z, hz, rfl⟩ | ⟨z, hz, rfl⟩)
        ·exact Or.inl ⟨x, by simp, rfl⟩
        ·exact Or.inl ⟨z, by simp [hz], rfl⟩
        ·exact Or.inr ⟨z, by simp [hz], rfl⟩
theorem keys_sort {a b : List S43} (ha : SS a) (hb : SS b) : (keysL a b).Pairwise (fun p q => ltB p q = true) := (both_ok _ a b (Nat.le_refl _) ha hb).1
theorem keys_mem {a b : List S43} (ha : SS a) (hb : SS b) (p : ByteArray) : p ∈ keysL a b ↔ hasK p a b := (both_ok _ a b (Nat.le_refl _) ha hb).2.2 p
theorem both_flat {β : Type} {a b : List S43} (ha : SS a) (hb : SS b) (f : Option S43 × Option S43 → List β) : (bothL a b).flatMap f = (keysL a b).flatMap (fun p => f (findE p a, findE p b)) := by
 have h := (both_ok _ a b (Nat.le_refl _) ha hb).2.1
 unfold keysL
 rw [List.flatMap_map]
 have : ∀ E : List (Option S43 × Option S43), (∀ e ∈ E, e = (findE (pathE e) a, findE (pathE e) b)) → E.flatMap f = E.flatMap (fun e => f (findE (pathE e) a, findE (pathE e) b)) := by
  intro E
  induction E with
  | nil => intro _; rfl
  | cons e E ih =>
   intro hE
   rw [List.flatMap_cons, List.flatMap_cons, ih (fun x hx => hE x (List.mem_cons_of_mem _ hx)), ← hE e (by simp)]
 exact this _ h
theorem keys_unique : ∀ (k l : List ByteArray), k.Pairwise (fun p q => ltB p q = true) → l.Pairwise (fun p q => ltB p q = true) → (∀ p, p ∈ k ↔ p ∈ l) → k = l
 | [], [], _, _, _ => rfl
 | [], q :: l, _, _, h => by have := (h q).2 (by simp); cases this
 | p :: k, [], _, _, h => by have := (h p).1 (by simp); cases this
 | p :: k, q :: l, hk, hl, h => by
  obtain ⟨hp, hk2⟩ := List.pairwise_cons.1 hk
  obtain ⟨hq, hl2⟩ := List.pairwise_cons.1 hl
  have e : p = q := by
   rcases List.mem_cons.1 ((h p).1 (by simp)) with e | h1
   ·exact e
   ·rcases List.mem_cons.1 ((h q).2 (by simp)) with e | h2
    ·exact e.symm
    ·have := ltB_trans (hp q h2) (hq p h1)
     rw [ltB_irr] at this
     cases this
  subst e
  rw [keys_unique k l hk2 hl2 (fun r => ?_)]
  constructor
  ·intro hr
   rcases List.mem_cons.1 ((h r).1 (List.mem_cons_of_mem _ hr)) with e | h1
   ·subst e
    have := hp r hr
    rw [ltB_irr] at this
    cases this
   ·exact h1
  ·intro hr
   rcases List.mem_cons.1 ((h r).2 (List.mem_cons_of_mem _ hr)) with e | h1
   ·subst e
    have := hq r hr
    rw [ltB_irr] at this
    cases this
   ·exact h1
theorem flat_find {k : List ByteArray} (hk : k.Pairwise (fun p q => ltB p q = true)) {g : ByteArray → Option S43} (hg : ∀ p x, g p = some x → x.f0 = p) (q : ByteArray) (hq : q ∉ k → g q = none) : findE q (k.flatMap (fun p => (g p).toList)) = g q := by
 have h0 : ∀ k : List ByteArray, q ∉ k → findE q (k.flatMap (fun p => (g p).toList)) = none := fun k hk => find_none (fun x hx => by
  obtain ⟨p, hp, hx⟩ := List.mem_flatMap.1 hx
  cases hgp : g p with
  | none => rw [hgp] at hx; cases hx
  | some z =>
   rw [hgp] at hx
   rw [List.mem_singleton.1 hx, hg p z hgp]
   exact fun e => hk (e ▸ hp))
 induction k with
 | nil => exact (hq (by simp)).symm
 | cons p k ih =>
  obtain ⟨hp, hk⟩ := List.pairwise_cons.1 hk
  rw [List.flatMap_cons, find_app]
  by_cases e : q = p
  ·subst e
   rw [h0 k (fun h => ltB_ne (hp q h) rfl)]
   cases hgq : g q with
   | none => rfl
   | some x =>
    rw [show (some x).toList = [x] from rfl, find_same' (hg q x hgq)]
    rfl
  ·rw [ih hk (fun h => hq (fun h2 => (List.mem_cons.1 h2).elim e h))]
   have h1 := h0 [p] (fun h => e (List.mem_singleton.1 h))
   rw [List.flatMap_singleton] at h1
   rw [h1]
   rfl
theorem flat_ss {k : List ByteArray} (hk : k.Pairwise (fun p q => ltB p q = true)) {g : ByteArray → Option S43} (hg : ∀ p x, g p = some x → x.f0 = p) : SS (k.flatMap (fun p => (g p).toList)) := by
 induction k with
 | nil => exact List.Pairwise.nil
 | cons p k ih =>
  obtain ⟨hp, hk⟩ := List.pairwise_cons.1 hk
  rw [List.flatMap_cons]
  refine List.pairwise_append.2 ⟨?_, ih hk, fun x hx y hy => ?_⟩
  ·cases g p with
   | none => exact List.Pairwise.nil
   | some x => exact List.pairwise_singleton _ _
  ·obtain ⟨q, hq, hy⟩ := List.mem_flatMap.1 hy
   cases hgp : g p with
   | none => rw [hgp] at hx; cases hx
   | some z =>
    cases hgq : g q with
    | none => rw [hgq] at hy; cases hy
    | some u =>
     rw [hgp] at hx
     rw [hgq] at hy
     rw [List.mem_singleton.1 hx, List.mem_singleton.1 hy, hg p z hgp, hg q u hgq]
     exact hp q hq
theorem ss_ext : ∀ (l m : List S43), SS l → SS m → (∀ p, findE p l = findE p m) → l = m
 | [], [], _, _, _ => rfl
 | [], y :: m, _, _, h => by have := h y.f0; rw [find_same, find_nil] at this; cases this
 | x :: l, [], _, _, h => by have := h x.f0; rw [find_same, find_nil] at this; cases this
 | x :: l, y :: m, hl, hm, h => by
  obtain ⟨hx, hl2⟩ := ss_cons hl
  obtain ⟨hy, hm2⟩ := ss_cons hm
  have e0 : x.f0 = y.f0 := by
   have h1 := h x.f0
   rw [find_same] at h1
   have h2 := h y.f0
   rw [find_same] at h2
   have m1 := find_mem h1.symm
   have m2 := find_mem h2
   rcases List.mem_cons.1 m1 with e | m1
   ·rw [e]
   ·rcases List.mem_cons.1 m2 with e | m2
    ·rw [e]
    ·have := ltB_trans (hx y m2) (hy x m1)
     rw [ltB_irr] at this
     cases this
  have e : x = y := by
   have h1 := h x.f0
   rw [find_same, find_same' e0.symm] at h1
   exact Option.some.inj h1
  subst e
  rw [ss_ext l m hl2 hm2 (fun p => ?_)]
  by_cases hp : x.f0 = p
  ·rw [find_none (fun z hz e => ltB_ne (hx z hz) (hp.trans e.symm)), find_none (fun z hz e => ltB_ne (hy z hz) (hp.trans e.symm))]
  ·have := h p
   rwa [find_other hp, find_other hp] at this
theorem both_first : ∀ (n : Nat) (a b : List S43), a.length + b.length ≤ n → (bothL a b).flatMap (fun e => e.1.toList) = a := by
 intro n
 induction n with
 | zero =>
  intro a b hn
  obtain rfl : a = [] := List.eq_nil_of_length_eq_zero (by omega)
  obtain rfl : b = [] := List.eq_nil_of_length_eq_zero (by omega)
  rw [bothP_nil]
  rfl
 | succ n ih =>
  intro a b hn
  cases a with
  | nil =>
   cases b with
   | nil => rw [bothP_nil]; rfl
   | cons y b => rw [bothP_b, List.flatMap_cons, ih [] b (by simp at hn ⊢; omega)]; rfl
  | cons x a =>
   cases b with
   | nil => rw [bothP_a, List.flatMap_cons, ih a [] (by simp at hn ⊢; omega)]; rfl
   | cons y b =>
    rw [bothP_two]
    split
    ·rw [List.flatMap_cons, ih a (y :: b) (by simp at hn ⊢; omega)]; rfl
    ·split
     ·rw [List.flatMap_cons, ih (x :: a) b (by simp at hn ⊢; omega)]; rfl
     ·rw [List.flatMap_cons, ih a b (by simp at hn ⊢; omega)]; rfl
end Go.Proofs.Ytodbmagneaiocaa.PA
namespace Go.Proofs.Ytodbmagneaiocaa.PA
open Go.RowKit Go.Proofs.YtodbmagneaiocaaW.PrintWords Go.Proofs.YtodbmagneaiocaaW.PrintLast Go.Proofs.YtodbmagneaiocaaW.PrintMore
attribute [local go_sem] max2_int min2_int max_two min_two max_three min_three max_four min_four
set_option linter.unusedVariables false
set_option linter.unusedSimpArgs false
def KL (u v : List S43) : List ByteArray := keysL (fstL u) (fstL v)
def bec (u v : List S43) (p : ByteArray) : Int := becameI (findE p u) (findE p v)
def chg (l : List S28) (p : ByteArray) : Bool := l.any (fun c => decide (c.f0 = p))
theorem K_sort (u v : List S43) : (KL u v).Pairwise (fun p q => ltB p q = true) := keys_sort (fst_ss u) (fst_ss v)
theorem has_find (p : ByteArray) (l : List S43) : (∃ x ∈ fstL l, x.f0 = p) ↔ findE p l ≠ none := by
 rw [← fst_find p l]
 constructor
 ·intro h e
  obtain ⟨x, hx⟩ := find_some h
  rw [hx] at e
  cases e
 ·intro h
  cases hf : findE p (fstL l) with
  | none => exact absurd hf h
  | some x => exact ⟨x, find_mem hf, find_path hf⟩
theorem inK (u v : List S43) (p : ByteArray) : p ∈ KL u v ↔ findE p u ≠ none ∨ findE p v ≠ none := by
 unfold KL
 rw [keys_mem (fst_ss u) (fst_ss v)]
 unfold hasK
 rw [has_find, has_find]
theorem flat_congr {α β : Type} {f g : α → List β} : ∀ {l : List α}, (∀ x ∈ l, f x = g x) → l.flatMap f = l.flatMap g
 | [], _ => rfl
 | x :: l, h => by rw [List.flatMap_cons, List.flatMap_cons, h x (by simp), flat_congr (fun y hy => h y (List.mem_cons_of_mem _ hy))]
theorem both_form {β : Type} (u v : List S43) (f : Option S43 × Option S43 → List β) : (bothL (firstL (sortS u)) (firstL (sortS v))).flatMap f = (KL u v).flatMap (fun p => f (findE p u, findE p v)) := by
 refine (both_flat (fst_ss u) (fst_ss v) f).trans (flat_congr (fun p _ => ?_))
 rw [fst_find, fst_find]
theorem path_key {u v : List S43} {p : ByteArray} (h : p ∈ KL u v) : pathE (findE p u, findE p v) = p := by
 cases hu : findE p u with
 | some x => exact find_path hu
 | none =>
  cases hv : findE p v with
  | some y => exact find_path hv
  | none =>
   rw [inK, hu, hv] at h
   simp at h
theorem since_form (u v : List S43) : sinceL u v = (KL u v).flatMap (fun p => if bec u v p = 0 then [] else [(⟨p, bec u v p⟩ : S28)]) := by
 refine (both_form u v sinceE).trans (flat_congr (fun p hp => ?_))
 unfold sinceE bec
 rw [path_key hp]
def gC (u v : List S43) (p : ByteArray) : Option S43 := if bec u v p = 0 then findE p u else none
theorem common_form (u v : List S43) : commonL u v = (KL u v).flatMap (fun p => (gC u v p).toList) := by
 refine (both_form u v commonE).trans (flat_congr (fun p hp => ?_))
 unfold commonE gC bec
 by_cases h : becameI (findE p u) (findE p v) = 0
 ·rw [if_pos h, if_pos h]
 ·rw [if_neg h, if_neg h]
  rfl
def gA (u v : List S43) (l : List S28) (p : ByteArray) : Option S43 := if chg l p = true then findE p v else findE p u
theorem apply_form (u v : List S43) (l : List S28) : applyL u v l = (KL u v).flatMap (fun p => (gA u v l p).toList) := by
 refine (both_form u v (applyE l)).trans (flat_congr (fun p hp => ?_))
 unfold applyE gA chg
 rw [path_key hp]
 split <;> rfl
theorem gA_path (u v : List S43) (l : List S28) (p : ByteArray) (x : S43) (h : gA u v l p = some x) : x.f0 = p := by
 unfold gA at h
 split at h
 ·exact find_path h
 ·exact find_path h
theorem gC_path (u v : List S43) (p : ByteArray) (x : S43) (h : gC u v p = some x) : x.f0 = p := by
 unfold gC at h
 split at h
 ·exact find_path h
 ·cases h
theorem apply_ss (u v : List S43) (l : List S28) : SS (applyL u v l) := by
 rw [apply_form]
 exact flat_ss (K_sort u v) (gA_path u v l)
theorem common_ss (u v : List S43) : SS (commonL u v) := by
 rw [common_form]
 exact flat_ss (K_sort u v) (gC_path u v)
theorem apply_find (u v : List S43) (l : List S28) (q : ByteArray) : findE q (applyL u v l) = if chg l q = true then findE q v else findE q u := by
 rw [apply_form]
 refine flat_find (K_sort u v) (gA_path u v l) q (fun hq => ?_)
 have h1 : findE q u = none := Classical.byContradiction fun h => hq ((inK u v q).2 (Or.inl h))
 have h2 : findE q v = none := Classical.byContradiction fun h => hq ((inK u v q).2 (Or.inr h))
 unfold gA
 rw [h1, h2]
 split <;> rfl
theorem both_len : ∀ (n : Nat) (a b : List S43), a.length + b.length ≤ n → (bothL a b).length ≤ a.length + b.length := by
 intro n
 induction n with
 | zero =>
  intro a b hn
  obtain rfl : a = [] := List.eq_nil_of_length_eq_zero (by omega)
  obtain rfl : b = [] := List.eq_nil_of_length_eq_zero (by omega)
  rw [bothP_nil]
  exact Nat.le_refl _
 | succ n ih =>
  intro a b hn
  cases a with
  | nil =>
   cases b with
   | nil => rw [bothP_nil]; exact Nat.le_refl _
   | cons y b =>
    have := ih [] b (by simp at hn ⊢; omega)
    rw [bothP_b]
    simp at this ⊢
    omega
  | cons x a =>
   cases b with
   | nil =>
    have := ih a [] (by simp at hn ⊢; omega)
    rw [bothP_a]
    simp at this ⊢
    omega
   | cons y b =>
    rw [bothP_two]
    split
    ·have := ih a (y :: b) (by simp at hn ⊢; omega)
     simp at this ⊢
     omega
    ·split
     ·have := ih (x :: a) b (by simp at hn ⊢; omega)
      simp at this ⊢
      omega
     ·have := ih a b (by simp at hn ⊢; omega)
      simp at this ⊢
      omega
theorem fst_len (l : List S43) : (fstL l).length ≤ l.length := by
 have := firstL_len (sortS l)
 rw [(sortS_ok l).1.len] at this
 exact this
theorem K_len (u v : List S43) : (KL u v).length ≤ u.length + v.length := by
 unfold KL keysL
 rw [List.length_map]
 have := both_len _ (fstL u) (fstL v) (Nat.le_refl _)
 have h1 := fst_len u
 have h2 := fst_len v
 omega
theorem flat_len1 {α β : Type} {f : α → List β} (hf : ∀ x, (f x).length ≤ 1) : ∀ l : List α, (l.flatMap f).length ≤ l.length
 | [] => Nat.le_refl _
 | x :: l => by
  rw [List.flatMap_cons, List.length_append, List.length_cons]
  have := hf x
  have := flat_len1 hf l
  omega
theorem opt_len (o : Option S43) : o.toList.length ≤ 1 := by cases o <;> simp
theorem key_size {u v : List S43} (hu : ∀ y ∈ u, y.f0.size ≤ 1048576) (hv : ∀ y ∈ v, y.f0.size ≤ 1048576) {p : ByteArray} (h : p ∈ KL u v) : p.size ≤ 1048576 := by
 rcases (inK u v p).1 h with h | h
 ·cases hf : findE p u with
  | none => exact absurd hf h
  | some x =>
   have := hu x (find_mem hf)
   rwa [find_path hf] at this
 ·cases hf : findE p v with
  | none => exact absurd hf h
  | some x =>
   have := hv x (find_mem hf)
   rwa [find_path hf] at this
theorem since_mem {u v : List S43} {x : S28} (h : x ∈ sinceL u v) : x.f0 ∈ KL u v ∧ x.f1 = bec u v x.f0 ∧ x.f1 ≠ 0 := by
 rw [since_form] at h
 obtain ⟨p, hp, hx⟩ := List.mem_flatMap.1 h
 by_cases h0 : bec u v p = 0
 ·rw [if_pos h0] at hx
  cases hx
 ·rw [if_neg h0] at hx
  rw [List.mem_singleton.1 hx]
  exact ⟨hp, rfl, h0⟩
theorem since_ok {u v : List S43} (hu : ∀ y ∈ u, y.f0.size ≤ 1048576) (hv : ∀ y ∈ v, y.f0.size ≤ 1048576) : (sinceL u v).length ≤ u.length + v.length ∧ ∀ y ∈ sinceL u v, y.f0.size ≤ 1048576 := by
 refine ⟨?_, fun y hy => key_size hu hv (since_mem hy).1⟩
 rw [since_form]
 refine Nat.le_trans (flat_len1 (fun p => ?_) _) (K_len u v)
 split
 ·exact Nat.zero_le _
 ·exact Nat.le_refl _
theorem apply_ok {u v : List S43} (l : List S28) (hu : ∀ y ∈ u, y.f0.size ≤ 1048576) (hv : ∀ y ∈ v, y.f0.size ≤ 1048576) : (applyL u v l).length ≤ u.length + v.length ∧ ∀ y ∈ applyL u v l, y.f0.size ≤ 1048576 := by
 constructor
 ·rw [apply_form]
  exact Nat.le_trans (flat_len1 (fun p => opt_len _) _) (K_len u v)
 ·intro y hy
  rw [apply_form] at hy
  obtain ⟨p, hp, hx⟩ := List.mem_flatMap.1 hy
  cases hg : gA u v l p with
  | none => rw [hg] at hx; cases hx
  | some z =>
   rw [hg] at hx
   rw [List.mem_singleton.1 hx, gA_path u v l p z hg]
   exact key_size hu hv hp
theorem common_len (u v : List S43) : (commonL u v).length ≤ u.length + v.length := by
 rw [common_form]
 exact Nat.le_trans (flat_len1 (fun p => opt_len _) _) (K_len u v)
theorem mEq_comm (a b : S41) : mEq a b = mEq b a := by
 unfold mEq
 rw [Bool.beq_comm (a := a.f0), Bool.beq_comm (a := a.f1), Bool.beq_comm (a := a.f2), Bool.beq_comm (a := a.f3), Bool.beq_comm (a := a.f4)]
theorem mEq_self (a : S41) : mEq a a = true := by simp [mEq]
theorem bec_self (x : S43) : becameI (some x) (some x) = 0 := by
 rw [became_eq, if_neg (by simp), if_pos (mEq_self _)]
theorem bec_range (x y : Option S43) : 0 ≤ becameI x y ∧ becameI x y ≤ 4 := by
 cases x with
 | none => exact ⟨show (0 : Int) ≤ 1 by decide, show (1 : Int) ≤ 4 by decide⟩
 | some x =>
  cases y with
  | none => exact ⟨show (0 : Int) ≤ 2 by decide, show (2 : Int) ≤ 4 by decide⟩
  | some y =>
   rw [became_eq]
   split
   ·exact ⟨by decide, by decide⟩
   ·split <;> exact ⟨by decide, by decide⟩
theorem bec_comm (x y : S43) : becameI (some x) (some y) = becameI (some y) (some x) ∧ becameI (some x) (some y) ≠ 1 ∧ becameI (some x) (some y) ≠ 2 := by
 rw [became_eq, became_eq, mEq_comm]
 refine ⟨?_, ?_, ?_⟩
 ·have hc : (x.f1 ≠ y.f1 ∨ (x.f1 = 1 ∧ (x.f2 ≠ y.f2 ∨ x.f5 ≠ y.f5)) ∨ (x.f1 = 3 ∧ x.f4 ≠ y.f4)) ↔ (y.f1 ≠ x.f1 ∨ (y.f1 = 1 ∧ (y.f2 ≠ x.f2 ∨ y.f5 ≠ x.f5)) ∨ (y.f1 = 3 ∧ y.f4 ≠ x.f4)) := by
   by_cases h : x.f1 = y.f1
   ·rw [h, ne_comm (a := x.f2), ne_comm (a := x.f5), ne_comm (a := x.f4)]
   ·exact ⟨fun _ => Or.inl (fun e => h e.symm), fun _ => Or.inl h⟩
  by_cases h : (x.f1 ≠ y.f1 ∨ (x.f1 = 1 ∧ (x.f2 ≠ y.f2 ∨ x.f5 ≠ y.f5)) ∨ (x.f1 = 3 ∧ x.f4 ≠ y.f4))
  ·rw [if_pos h, if_pos (hc.1 h)]
  ·rw [if_neg h, if_neg (fun e => h (hc.2 e))]
 ·split
  ·decide
  ·split <;> decide
 ·split
  ·decide
  ·split <;> decide
theorem rd28 (L : List S28) (i : Nat) (h : i < L.length) : rd_T28 L (i : Int) = L[i] := by simp [rd_T28, rdOf, h]
theorem same_l (L : List S43) (hL : L.length ≤ 1000000) : ∀ (m i k : Nat), L.length - i = m → i ≤ L.length → m + 1 ≤ k → remoralaw43_same.l0 k L L (i : Int) = some true := by
 intro m
 induction m with
 | zero =>
  intro i k hm hi hk
  obtain ⟨k, rfl⟩ : ∃ j, k = j + 1 := ⟨k - 1, by omega⟩
  rw [remoralaw43_same.l0, if_neg (by omega)]
 | succ m ih =>
  intro i k hm hi hk
  obtain ⟨k, rfl⟩ : ∃ j, k = j + 1 := ⟨k - 1, by omega⟩
  rw [remoralaw43_same.l0, if_pos (by omega), if_pos (by omega), if_pos (by omega), if_neg (by simp only [beq_self_eq_true, Bool.not_true, Bool.or_false]; decide), wrapE i (by omega)]
  exact ih (i + 1) k (by omega) (by omega) (by omega)
theorem same43 (L : List S43) (hL : L.length ≤ 1000000) (k : Nat) (hk : 1000001 ≤ k) : remoralaw43_same.f k L L = some true := by
 unfold remoralaw43_same.f
 rw [if_pos rfl]
 exact same_l L hL L.length 0 k (by omega) (by omega) (by omega)
end Go.Proofs.Ytodbmagneaiocaa.PA
namespace Go.Proofs.Ytodbmagneaiocaa.PA
open Go.RowKit Go.Proofs.YtodbmagneaiocaaW.PrintWords Go.Proofs.YtodbmagneaiocaaW.PrintLast Go.Proofs.YtodbmagneaiocaaW.PrintMore
attribute [local go_sem] max2_int min2_int max_two min_two max_three min_three max_four min_four   -- for this text's walks alone
set_option linter.unusedVariables false
set_option linter.unusedSimpArgs false
end Go.Proofs.Ytodbmagneaiocaa.PA
namespace Go.Proofs.Ytodbmagneaiocaa.PA
open Go.RowKit Go.Proofs.YtodbmagneaiocaaW.PrintWords Go.Proofs.YtodbmagneaiocaaW.PrintLast Go.Proofs.YtodbmagneaiocaaW.PrintMore
attribute [local go_sem] max2_int min2_int max_two min_two max_three min_three max_four min_four   -- for this text's walks alone
set_option linter.unusedVariables false
set_option linter.unusedSimpArgs false
end Go.Proofs.Ytodbmagneaiocaa.PA
namespace Go.Proofs.Ytodbmagneaiocaa.PA
open Go.RowKit Go.Proofs.YtodbmagneaiocaaW.PrintWords Go.Proofs.YtodbmagneaiocaaW.PrintLast Go.Proofs.YtodbmagneaiocaaW.PrintMore
attribute [local go_sem] max2_int min2_int max_two min_two max_three min_three max_four min_four
set_option linter.unusedVariables false
set_option linter.unusedSimpArgs false
def Srt (l : List ByteArray) : Prop := l.Pairwise (fun p q => ltB q p = false)
theorem leB_trans {p q r : ByteArray} (h : ltB q p = false) (h2 : ltB r q = false) : ltB r p = false := by
 cases h3 : ltB r p with
 | false => rfl
 | true =>
  cases h4 : ltB q r with
  | true =>
   have := ltB_trans h4 h3
   rw [h] at this
   cases this
  | false =>
   obtain rfl := ltB_tri h4 h2
   rw [h] at h3
   cases h3
def smlB (l : List ByteArray) : Prop := ∀ p ∈ l, p.size ≤ 1048576
theorem rdB (l : List ByteArray) (i : Nat) (h : i < l.length) : rdOf ByteArray.empty l (i : Int) = l[i] := by simp [rdOf, h]
theorem rlessB (p q : ByteArray) (hp : p.size ≤ 1048576) (hq : q.size ≤ 1048576) (k : Nat) (hk : 3000000 ≤ k) : remoraref13_Less.f k p q = some (ltB p q) := rless_f p q hp hq k hk
theorem merge_l : ∀ (m k : Nat) (a b acc : List ByteArray), a.length + b.length ≤ m → 3000002 + 2 * m ≤ k → acc.length + a.length + b.length ≤ 100000 → smlB a → smlB b → Srt acc → Srt a → Srt b → (∀ x ∈ acc, ∀ y ∈ a, ltB y x = false) → (∀ x ∈ acc, ∀ y ∈ b, ltB y x = false) →
  ∃ r, remoraref13_Sort.l0 k a b acc = some r ∧ r.Perm (acc ++ (a ++ b)) ∧ Srt r := by
 intro m
 induction m with
 | zero =>
  intro k a b acc hm hk hl _ _ hs _ _ _ _
  obtain ⟨k, rfl⟩ : ∃ j, k = j + 2 := ⟨k - 2, by omega⟩
  obtain rfl : a = [] := List.eq_nil_of_length_eq_zero (by omega)
  obtain rfl : b = [] := List.eq_nil_of_length_eq_zero (by omega)
  refine ⟨acc, ?_, by simp, hs⟩
  rw [remoraref13_Sort.l0, if_neg (by simp), remoraref13_Sort.j1, if_neg (by decide), if_pos (by simp at hl ⊢; omega), Option.bind_some, if_pos (by simp at hl ⊢; omega)]
  simp
 | succ m ih =>
  intro k a b acc hm hk hl za zb hs hsa hsb hxa hxb
  obtain ⟨k, rfl⟩ : ∃ j, k = j + 2 := ⟨k - 2, by omega⟩
  have fin : remoraref13_Sort.j1 (k + 1) a b acc false = some (acc ++ a ++ b) := by
   rw [remoraref13_Sort.j1, if_neg (by decide), if_pos (by omega), Option.bind_some, if_pos (by rw [List.length_append]; omega)]
  cases a with
  | nil =>
   refine ⟨acc ++ [] ++ b, ?_, by simp, ?_⟩
   ·rw [remoraref13_Sort.l0, if_neg (by simp)]
    exact fin
   ·rw [List.append_nil]
    exact List.pairwise_append.2 ⟨hs, hsb, fun x hx y hy => hxb x hx y hy⟩
  | cons p a =>
   cases b with
   | nil =>
    refine ⟨acc ++ (p :: a) ++ [], ?_, by simp, ?_⟩
    ·rw [remoraref13_Sort.l0, if_pos (by simp <;> omega), decide_eq_false (by simp)]
     exact fin
    ·rw [List.append_nil]
     exact List.pairwise_append.2 ⟨hs, hsa, fun x hx y hy => hxa x hx y hy⟩
   | cons q b =>
    obtain ⟨hp, hsa2⟩ := List.pairwise_cons.1 hsa
    obtain ⟨hq, hsb2⟩ := List.pairwise_cons.1 hsb
    have sp := za p (by simp)
    have sq := zb q (by simp)
    rw [remoraref13_Sort.l0, if_pos (by simp <;> omega), decide_eq_true (by simp <;> omega), remoraref13_Sort.j1, if_pos rfl, if_pos (by simp <;> omega), if_pos (by simp <;> omega)]
    have e1 : rdOf ByteArray.empty (q :: b) 0 = q := rdB (q :: b) 0 (by simp)
    have e2 : rdOf ByteArray.empty (p :: a) 0 = p := rdB (p :: a) 0 (by simp)
    rw [e1, e2, rlessB q p sq sp k (by omega), Option.bind_some]
    simp only [List.length_cons] at hl hm
    cases hlt : ltB q p with
    | true =>
     rw [if_pos rfl, if_pos (by omega), if_pos (by simp <;> omega)]
     obtain ⟨r, hr, hperm, hsr⟩ := ih k (p :: a) b (acc ++ [q]) (by simp <;> omega) (by omega) (by simp <;> omega) za (fun x hx => zb x (List.mem_cons_of_mem _ hx))
      (List.pairwise_append.2 ⟨hs, List.pairwise_singleton _ _, fun x hx y hy => by rw [List.mem_singleton.1 hy]; exact hxb x hx q (by simp)⟩) hsa hsb2
      (fun x hx y hy => by
       have hqp : ltB p q = false := by
        cases h : ltB p q with
        | false => rfl
        | true =>
         have := ltB_trans hlt h
         rw [ltB_irr] at this
         cases this
       rcases List.mem_append.1 hx with hx | hx
       ·exact hxa x hx y hy
       ·rw [List.mem_singleton.1 hx]
        rcases List.mem_cons.1 hy with rfl | hy
        ·exact hqp
        ·exact leB_trans hqp (hp y hy))
      (fun x hx y hy => by
       rcases List.mem_append.1 hx with hx | hx
       ·exact hxb x hx y (List.mem_cons_of_mem _ hy)
       ·rw [List.mem_singleton.1 hx]
        exact hq y hy)
     refine ⟨r, hr, hperm.trans ?_, hsr⟩
     rw [List.append_assoc]
     refine List.Perm.append_left acc ?_
     exact (List.perm_middle (a := q) (l₁ := p :: a) (l₂ := b)).symm
    | false =>
     rw [if_neg (by decide), if_pos (by omega), if_pos (by simp <;> omega)]
     obtain ⟨r, hr, hperm, hsr⟩ := ih k a (q :: b) (acc ++ [p]) (by simp <;> omega) (by omega) (by simp <;> omega) (fun x hx => za x (List.mem_cons_of_mem _ hx)) zb
      (List.pairwise_append.2 ⟨hs, List.pairwise_singleton _ _, fun x hx y hy => by rw [List.mem_singleton.1 hy]; exact hxa x hx p (by simp)⟩) hsa2 hsb
      (fun x hx y hy => by
       rcases List.mem_append.1 hx with hx | hx
       ·exact hxa x hx y (List.mem_cons_of_mem _ hy)
       ·rw [List.mem_singleton.1 hx]
        exact hp y hy)
      (fun x hx y hy => by
       rcases List.mem_append.1 hx with hx | hx
       ·exact hxb x hx y hy
       ·rw [List.mem_singleton.1 hx]
        rcases List.mem_cons.1 hy with rfl | hy
        ·exact hlt
        ·exact leB_trans hlt (hq y hy))
     refine ⟨r, hr, hperm.trans ?_, hsr⟩
     rw [List.append_assoc]
     exact List.Perm.refl _
theorem rsort13_f : ∀ (n : Nat) (l : List ByteArray) (k : Nat), l.length ≤ n → n ≤ 10000 → 3020010 + 2 * n ≤ k → smlB l → ∃ r, remoraref13_Sort.f k l = some r ∧ r.Perm l ∧ Srt r := by
 intro n
 induction n with
 | zero =>
  intro l k hl hn hk hz
  obtain ⟨k, rfl⟩ : ∃ j, k = j + 1 := ⟨k - 1, by omega⟩
  obtain rfl : l = [] := List.eq_nil_of_length_eq_zero (by omega)
  exact ⟨[], by rw [remoraref13_Sort.f, if_pos (by simp), if_pos (by simp)]; rfl, List.Perm.refl _, List.Pairwise.nil⟩
 | succ n ih =>
  intro l k hl hn hk hz
  obtain ⟨k, rfl⟩ : ∃ j, k = j + 1 := ⟨k - 1, by omega⟩
  by_cases h2 : l.length < 2
  ·refine ⟨l, by rw [remoraref13_Sort.f, if_pos (by omega), if_pos (by simp <;> omega)]; rfl, List.Perm.refl _, ?_⟩
   cases l with
   | nil => exact List.Pairwise.nil
   | cons x t =>
    cases t with
    | nil => exact List.pairwise_singleton _ _
    | cons y t => simp at h2; omega
  ·have hw : wrap64 ((l.length : Int) / 2) = ((l.length / 2 : Nat) : Int) := by rw [wr64 _ (by omega) (by omega)]; omega
   obtain ⟨a, ea, pa, sa⟩ := ih (l.take (l.length / 2)) k (by rw [List.length_take]; omega) (by omega) (by omega) (fun p hp => hz p (List.mem_of_mem_take hp))
   obtain ⟨b, eb, pb, sb⟩ := ih (l.drop (l.length / 2)) k (by rw [List.length_drop]; omega) (by omega) (by omega) (fun p hp => hz p (List.mem_of_mem_drop hp))
   have la := pa.length_eq
   have lb := pb.length_eq
   rw [List.length_take] at la
   rw [List.length_drop] at lb
   obtain ⟨r, hr, hp, hs⟩ := merge_l (a.length + b.length) k a b [] (Nat.le_refl _) (by omega) (by simp <;> omega) (fun p hp => hz p (List.mem_of_mem_take (pa.mem_iff.1 hp))) (fun p hp => hz p (List.mem_of_mem_drop (pb.mem_iff.1 hp))) List.Pairwise.nil sa sb (fun x hx => by cases hx) (fun x hx => by cases hx)
   refine ⟨r, ?_, ?_, hs⟩
   ·rw [remoraref13_Sort.f, if_neg (by omega), hw, if_pos (by omega), if_pos (by omega), Int.toNat_natCast, ea, Option.bind_some, eb, Option.bind_some]
    exact hr
   ·rw [List.nil_append] at hp
    have h := hp.trans (List.Perm.append pa pb)
    rwa [List.take_append_drop] at h
theorem collect_l1 (b : List S43) : ∀ (n i k : Nat) (acc : List ByteArray), b.length - i = n → i ≤ b.length → n + 1 ≤ k → acc.length ≤ 10000 + i → b.length ≤ 10000 → remoraref43_paths.l1 k b acc (i : Int) = ((remoraref13_Sort.f (k - n - 1) (acc ++ (b.drop i).map (·.f0))).bind fun t => remoraref43_paths.l2 (k - n - 1) t [] 0) := by
 intro n
 induction n with
 | zero =>
  intro i k acc hn hi hk ha hb
  obtain ⟨k, rfl⟩ : ∃ j, k = j + 1 := ⟨k - 1, by omega⟩
  rw [remoraref43_paths.l1, if_neg (by omega), List.drop_eq_nil_of_le (by omega), List.map_nil, List.append_nil, show k + 1 - 0 - 1 = k by omega]
 | succ n ih =>
  intro i k acc hn hi hk ha hb
  obtain ⟨k, rfl⟩ : ∃ j, k = j + 1 := ⟨k - 1, by omega⟩
  have hlt : i < b.length := by omega
  rw [remoraref43_paths.l1, if_pos (by omega), if_pos (by omega), if_pos (by omega), rdE_get b i hlt, wrapE i (by omega), ih (i + 1) k _ (by omega) (by omega) (by omega) (by rw [List.length_append]; simp; omega) hb, show k + 1 - (n + 1) - 1 = k - n - 1 by omega, List.drop_eq_getElem_cons hlt, List.map_cons, List.append_assoc]
  rfl
theorem collect_l0 (a b : List S43) (hb : b.length ≤ 10000) : ∀ (n i k : Nat) (acc : List ByteArray), a.length - i = n → i ≤ a.length → n + b.length + 2 ≤ k → acc.length ≤ i → a.length ≤ 10000 → remoraref43_paths.l0 k a b acc (i : Int) = ((remoraref13_Sort.f (k - n - b.length - 2) (acc ++ (a.drop i).map (·.f0) ++ b.map (·.f0))).bind fun t => remoraref43_paths.l2 (k - n - b.length - 2) t [] 0) := by
 intro n
 induction n with
 | zero =>
  intro i k acc hn hi hk ha hal
  obtain ⟨k, rfl⟩ : ∃ j, k = j + 1 := ⟨k - 1, by omega⟩
  have h := collect_l1 b b.length 0 k acc (by omega) (Nat.zero_le _) (by omega) (by omega) hb
  rw [List.drop_zero] at h
  rw [remoraref43_paths.l0, if_neg (by omega), List.drop_eq_nil_of_le (by omega), List.map_nil, List.append_nil, show k + 1 - 0 - b.length - 2 = k - b.length - 1 by omega]
  exact h
 | succ n ih =>
  intro i k acc hn hi hk ha hal
  obtain ⟨k, rfl⟩ : ∃ j, k = j + 1 := ⟨k - 1, by omega⟩
  have hlt : i < a.length := by omega
  rw [remoraref43_paths.l0, if_pos (by omega), if_pos (by omega), if_pos (by omega), rdE_get a i hlt, wrapE i (by omega), ih (i + 1) k _ (by omega) (by omega) (by omega) (by rw [List.length_append]; simp; omega) hal, show k + 1 - (n + 1) - b.length - 2 = k - n - b.length - 2 by omega, List.drop_eq_getElem_cons hlt, List.map_cons, List.append_assoc acc [_]]
  rfl
theorem dedup_l2 (S : List ByteArray) (hS : Srt S) (hl : S.length ≤ 100000) : ∀ (n i k : Nat) (out : List ByteArray), S.length - i = n → i ≤ S.length → n + 1 ≤ k → out.length ≤ i → out.Pairwise (fun p q => ltB p q = true) → (∀ p, p ∈ out ↔ p ∈ S.take i) →
  ∃ r, remoraref43_paths.l2 k S out (i : Int) = some r ∧ r.Pairwise (fun p q => ltB p q = true) ∧ ∀ p, p ∈ r ↔ p ∈ S := by
 intro n
 induction n with
 | zero =>
  intro i k out hn hi hk ho hs hm
  obtain ⟨k, rfl⟩ : ∃ j, k = j + 1 := ⟨k - 1, by omega⟩
  refine ⟨out, by rw [remoraref43_paths.l2, if_neg (by omega)], hs, fun p => ?_⟩
  rw [hm, List.take_of_length_le (by omega)]
 | succ n ih =>
  intro i k out hn hi hk ho hs hm
  obtain ⟨k, rfl⟩ : ∃ j, k = j + 1 := ⟨k - 1, by omega⟩
  have hlt : i < S.length := by omega
  have hmem : ∀ p, p ∈ S.take (i + 1) ↔ p ∈ S.take i ∨ p = S[i] := fun p => by rw [List.take_succ_eq_append_getElem hlt, List.mem_append, List.mem_singleton]
  have hle : ∀ p ∈ S.take i, ltB S[i] p = false := fun p hp => by
   obtain ⟨j, hj, e⟩ := List.getElem_of_mem hp
   rw [List.length_take] at hj
   rw [List.getElem_take] at e
   rw [← e]
   exact List.pairwise_iff_getElem.1 hS j i (by omega) hlt (by omega)
  have put : (∀ p ∈ S.take i, p ≠ S[i]) → ∃ r, remoraref43_paths.l2 k S (out ++ [S[i]]) ((i + 1 : Nat) : Int) = some r ∧ r.Pairwise (fun p q => ltB p q = true) ∧ ∀ p, p ∈ r ↔ p ∈ S := fun hne =>
   ih (i + 1) k _ (by omega) (by omega) (by omega) (by rw [List.length_append]; simp; omega) (List.pairwise_append.2 ⟨hs, List.pairwise_singleton _ _, fun x hx y hy => by
    rw [List.mem_singleton.1 hy]
    have hx := (hm x).1 hx
    cases h : ltB x S[i] with
    | true => rfl
    | false => exact absurd (ltB_tri h (hle x hx)) (hne x hx)⟩) (fun p => by rw [hmem, List.mem_append, List.mem_singleton, hm])
  by_cases h0 : i = 0
  ·subst h0
   obtain ⟨r, hr, h1, h2⟩ := put (fun p hp => by simp at hp)
   refine ⟨r, ?_, h1, h2⟩
   rw [remoraref43_paths.l2, if_pos (by omega), if_pos (show ((0 : Nat) : Int) = 0 from rfl), if_pos (by omega), if_pos (by omega), rdB S 0 hlt, wrapE 0 (by omega)]
   exact hr
  ·have hw : wrap64 ((i : Int) - 1) = ((i - 1 : Nat) : Int) := by rw [wr64 _ (by omega) (by omega)]; omega
   rw [remoraref43_paths.l2, if_pos (by omega), if_neg (by omega), if_pos (by omega), hw, if_pos (by omega), if_pos (by omega), rdB S i hlt, rdB S (i - 1) (by omega), wrapE i (by omega)]
   by_cases he : S[i] = S[i - 1]'(by omega)
   ·rw [if_pos (by rw [he])]
    refine ih (i + 1) k _ (by omega) (by omega) (by omega) (by omega) hs (fun p => ?_)
    rw [hmem, hm]
    constructor
    ·exact Or.inl
    ·rintro (h | rfl)
     ·exact h
     ·rw [he]
      exact List.mem_iff_getElem.2 ⟨i - 1, by rw [List.length_take]; omega, by rw [List.getElem_take]⟩
   ·rw [if_neg (fun e => he ((tl_eq _ _).1 e)), if_pos (by omega)]
    refine put (fun p hp e => he ?_)
    have h1 := hle (S[i - 1]'(by omega)) (List.mem_iff_getElem.2 ⟨i - 1, by rw [List.length_take]; omega, by rw [List.getElem_take]⟩)
    obtain ⟨j, hj, e2⟩ := List.getElem_of_mem hp
    rw [List.length_take] at hj
    rw [List.getElem_take] at e2
    by_cases hji : j = i - 1
    ·subst hji
     exact (e2.trans e).symm
    ·have h2 := List.pairwise_iff_getElem.1 hS j (i - 1) (by omega) (by omega) (by omega)
     rw [e2, e] at h2
     exact (ltB_tri h1 h2)
theorem paths_f (a b : List S43) (ha : a.length ≤ 1000) (hb : b.length ≤ 1000) (za : ∀ y ∈ a, y.f0.size ≤ 1048576) (zb : ∀ y ∈ b, y.f0.size ≤ 1048576) (k : Nat) (hk : 4000000 ≤ k) : remoraref43_paths.f k a b = some (KL a b) := by
 unfold remoraref43_paths.f
 have h := collect_l0 a b (by omega) a.length 0 k [] (by omega) (Nat.zero_le _) (by omega) (Nat.zero_le _) (by omega)
 rw [List.drop_zero, List.nil_append] at h
 obtain ⟨S, hS, hp, hs⟩ := rsort13_f 2000 (a.map (·.f0) ++ b.map (·.f0)) (k - a.length - b.length - 2) (by simp <;> omega) (by omega) (by omega) (fun p hp => by
  rcases List.mem_append.1 hp with hp | hp
  ·obtain ⟨y, hy, rfl⟩ := List.mem_map.1 hp
   exact za y hy
  ·obtain ⟨y, hy, rfl⟩ := List.mem_map.1 hp
   exact zb y hy)
 have hl := hp.length_eq
 simp at hl
 obtain ⟨r, hr, h1, h2⟩ := dedup_l2 S hs (by omega) S.length 0 (k - a.length - b.length - 2) [] (by omega) (Nat.zero_le _) (by omega) (Nat.zero_le _) List.Pairwise.nil (fun p => by simp)
 refine h.trans ?_
 rw [hS, Option.bind_some]
 refine hr.trans ?_
 congr 1
 refine keys_unique _ _ h1 (K_sort a b) (fun p => ?_)
 rw [h2, hp.mem_iff, List.mem_append, inK]
 have hf : ∀ l : List S43, p ∈ l.map (·.f0) ↔ findE p l ≠ none := fun l => by
  constructor
  ·intro h e
   obtain ⟨y, hy, hyp⟩ := List.mem_map.1 h
   obtain ⟨x, hx⟩ := find_some ⟨y, hy, hyp⟩
   rw [hx] at e
   cases e
  ·intro h
   cases hx : findE p l with
   | none => exact absurd hx h
   | some x => exact List.mem_map.2 ⟨x, find_mem hx, find_path hx⟩
 rw [hf, hf]
theorem rfind43_l (l : List S43) (p : ByteArray) (hl : l.length ≤ 100000) : ∀ (n i k : Nat), l.length - i = n → i ≤ l.length → n + 1 ≤ k →
  (findE p (l.drop i) = none ∧ remoraref43_find.l0 k l p (i : Int) = some (-1)) ∨ ∃ j, ∃ hj : j < l.length, findE p (l.drop i) = some l[j] ∧ remoraref43_find.l0 k l p (i : Int) = some (j : Int) := by
 intro n
 induction n with
 | zero =>
  intro i k hn hi hk
  obtain ⟨k, rfl⟩ : ∃ j, k = j + 1 := ⟨k - 1, by omega⟩
  left
  rw [List.drop_eq_nil_of_le (by omega), remoraref43_find.l0, if_neg (by omega)]
  exact ⟨rfl, rfl⟩
 | succ n ih =>
  intro i k hn hi hk
  obtain ⟨k, rfl⟩ : ∃ j, k = j + 1 := ⟨k - 1, by omega⟩
  have hlt : i < l.length := by omega
  rw [remoraref43_find.l0, if_pos (by omega), if_pos (by omega), rdE_get l i hlt, wrapE i (by omega), List.drop_eq_getElem_cons hlt]
  by_cases h : (l[i]).f0 = p
  ·right
   rw [if_pos (by rw [h]), find_same' h]
   exact ⟨i, hlt, rfl, rfl⟩
  ·rw [if_neg (fun e => h ((tl_eq _ _).1 e)), find_other h]
   exact ih (i + 1) k (by omega) (by omega) (by omega)
theorem rfind43_f (l : List S43) (p : ByteArray) (hl : l.length ≤ 100000) (k : Nat) (hk : 100001 ≤ k) : (findE p l = none ∧ remoraref43_find.f k l p = some (-1)) ∨ ∃ j, ∃ hj : j < l.length, findE p l = some l[j] ∧ remoraref43_find.f k l p = some (j : Int) := by
 have := rfind43_l l p hl l.length 0 k (by omega) (Nat.zero_le _) (by omega)
 rw [List.drop_zero] at this
 exact this
def toR (x : S28) : S50 := ⟨x.f0, x.f1⟩
end Go.Proofs.Ytodbmagneaiocaa.PA
namespace Go.Proofs.Ytodbmagneaiocaa.PA
open Go.RowKit Go.Proofs.YtodbmagneaiocaaW.PrintWords Go.Proofs.YtodbmagneaiocaaW.PrintLast Go.Proofs.YtodbmagneaiocaaW.PrintMore
attribute [local go_sem] max2_int min2_int max_two min_two max_three min_three max_four min_four
set_option linter.unusedVariables false
set_option linter.unusedSimpArgs false
open Go Go.Shelf Go.Lib Go.Sort
theorem one43 (x : S43) : ∀ v ∈ ([.string x.f0, .int .i64 x.f1, .int .i64 x.f2, .int .i64 x.f3.f0, .int .i64 x.f3.f1, .int .i64 x.f3.f2, .int .i64 x.f3.f3, .int .i64 x.f3.f4, .string x.f4, .string x.f5, .int .i64 x.f6] : List Value), v.oneCell' = true := by
 intro v hv
 simp only [List.mem_cons, List.not_mem_nil, or_false] at hv
 rcases hv with rfl | rfl | rfl | rfl | rfl | rfl | rfl | rfl | rfl | rfl | rfl <;> rfl
theorem storeAt43 {g o : Nat} {cs : List Value} {W W1 : World} (hl : cs.length = 11) (h : Sem.run Try.prog (Go.storeCells ⟨g, o, none⟩ cs 0) W = .ok () W1) : (Instr.storeAt 43 (.pointer (some ⟨g, o, none⟩)) (.agg cs.toArray)).run Try.prog W = .ok () W1 := by
 go_simp
theorem store_next {P : Program} {ρ : Operand → Value} {o : Oper} {ty : TypeId} {x y : Operand} {p v : Value} {w w1 : World} (ho : o.op = .store ty x y) (hx : ρ x = p) (hy : ρ y = v) (h : (Instr.storeAt ty p v).run P w = .ok () w1) : (execOp ρ o).run P w = .ok .skip w1 := by
 unfold execOp
 rw [ho]
 simp only [hx, hy, Sem.run_bind, h, Result.andThen]
 rfl
end Go.Proofs.Ytodbmagneaiocaa.PA
