/- RulesActs: for any rules, path and flags the law returns true and leaves its arguments as they were. No condition. -/
import Derived.Test.YtioehkeocddniaaDoorMRulesActsG3
import Derived.Test.YtioehkeocddniaaDoorMRulesActsG4
import Derived.Test.YtioehkeocddniaaDoorMRulesActsG2
import Derived.Test.YtioehkeocddniaaDoorMRulesActsG1
import Derived.Test.YtioehkeocddniaaDoorMRulesActsG5
import Derived.Below
import Derived.Carry
import Derived.ChangeOld
import Derived.LaidMore
import Derived.Lay
import Derived.OpenShut
import Derived.ProofKit
import Derived.SevenTiedAt
import Derived.ShutString
import Derived.SizedLaws
import Derived.Stop.Joined
import Derived.Test.YtioehkeocddniaaDoorCards
import Derived.Test.YtioehkeocddniaaDoorRows
import Derived.Test.YtioehkeocddniaaDoorTie
import Derived.WalkKit
namespace Go.Proofs.YtioehkeocddniaaDoor.PA
open Go.RowKit Go.Proofs.YtioehkeocddniaaDoorW.PrintWords Go.Proofs.YtioehkeocddniaaDoorW.PrintLast Go.Proofs.YtioehkeocddniaaDoorW.PrintMore
attribute [local go_sem] max2_int min2_int max_two min_two max_three min_three max_four min_four
set_option linter.unusedVariables false
set_option linter.unusedSimpArgs false
theorem idx_step (s : ByteArray) (c : UInt8) (j : Nat) (h : j < s.size) : (0 ≤ Lib.indexByte (s.data.toList.drop j) c) ↔ (bt s (j : Int) = (c.toNat : Int) ∨ 0 ≤ Lib.indexByte (s.data.toList.drop (j + 1)) c) := by
 have hl : j < s.data.toList.length := by rw [Array.length_toList]; exact h
 rw [List.drop_eq_getElem_cons hl]
 have eb : bt s (j : Int) = ((s.data.toList[j]'hl).toNat : Int) := by
  rw [bt, dif_pos (by simpa using h)]
  simp
  rfl
 rw [eb]
 generalize s.data.toList[j]'hl = b
 have hg := index_ge c (s.data.toList.drop (j + 1))
 by_cases hb : b = c
 ·subst hb
  simp [Lib.indexByte]
 ·have hn : ¬ (b.toNat : Int) = (c.toNat : Int) := fun e => hb (UInt8.toNat_inj.1 (by omega))
  have e : Lib.indexByte (b :: s.data.toList.drop (j + 1)) c = if Lib.indexByte (s.data.toList.drop (j + 1)) c == -1 then -1 else Lib.indexByte (s.data.toList.drop (j + 1)) c + 1 := by
   rw [Lib.indexByte, if_neg (by simpa using hb)]
  rw [e]
  generalize Lib.indexByte (s.data.toList.drop (j + 1)) c = x at *
  by_cases hx : x = -1
  ·subst hx
   constructor
   ·intro h; exact absurd h (by decide)
   ·rintro (h | h)
    ·exact absurd h hn
    ·exact absurd h (by decide)
  ·rw [if_neg (show ¬ (x == -1) = true by simpa using hx)]
   constructor
   ·intro _; exact .inr (by omega)
   ·intro _; omega
theorem whole_l (a : Int) (s : ByteArray) (d h : Bool) (hs : s.size < 1000000) : ∀ k j : Nat, j ≤ s.size → s.size - j < k → remoraref15_whole.l0 k (j : Int) a s d h = some (decide (0 ≤ Lib.indexByte (s.data.toList.drop j) 47) || h)
 | 0, j, _, h => by omega
 | k + 1, j, hj, hk => by
  unfold remoraref15_whole.l0
  by_cases hlt : j < s.size
  ·have e2 : wrap64 ((j : Int) + 1) = ((j + 1 : Nat) : Int) := by rw [wr64 _ (by omega) (by omega)]; rfl
   rw [if_pos (show (j : Int) < (s.size : Int) by omega), if_pos (show 0 ≤ (j : Int) by omega), e2, decide_eq_decide.2 (show _ ↔ (bt s (j : Int) = 47 ∨ 0 ≤ Lib.indexByte (s.data.toList.drop (j + 1)) 47) from idx_step s 47 j hlt)]
   by_cases hb : bt s (j : Int) = 47
   ·rw [if_pos hb, decide_eq_true (Or.inl hb)]
    rfl
   ·rw [if_neg hb, whole_l a s d h hs k (j + 1) (by omega) (by omega)]
    congr 2
    exact decide_eq_decide.2 ⟨.inr, fun h => h.elim (fun x => absurd x hb) id⟩
  ·obtain rfl : j = s.size := by omega
   have : s.data.toList.drop s.size = [] := List.drop_eq_nil_of_le (by rw [Array.length_toList]; exact Nat.le_refl _)
   rw [if_neg (by omega), this]
   rfl
theorem whole_f (a : Int) (s : ByteArray) (d h : Bool) (hs : s.size < 1000000) (k : Nat) (hk : s.size < k) : remoraref15_whole.f k a s d h = some (hasB s 47 || h) := by
 unfold remoraref15_whole.f
 rw [show (0 : Int) = ((0 : Nat) : Int) from rfl, whole_l a s d h hs k 0 (by omega) (by omega)]
 rfl
def matB (x : S24) (p : ByteArray) (dir : Bool) : Bool :=
 if chkR x = 0 then if p.size = 0 then false else if rightB p = true then if (x.f2 && !dir) = true then false else
  if (hasB x.f1 47 || x.f3) = true then mO (patO x.f1) p else mO (patO x.f1) (baseB p)
 else false else false
theorem matB_intro (x : S24) (p : ByteArray) (dir : Bool) : matB x p dir = if chkI x.f0 x.f1 = 0 then if p.size = 0 then false else if rightB p = true then if (x.f2 && !dir) = true then false else if (hasB x.f1 47 || x.f3) = true then mO (patO x.f1) p else mO (patO x.f1) (baseB p) else false else false := rfl
theorem matches_f (x : S24) (p : ByteArray) (dir : Bool) (hx : x.f1.size < 1000000) (hp : p.size < 1000000) (k : Nat) (hk : 1048590 ≤ k) : rules_Matches.f k x.f0 x.f1 x.f2 x.f3 p dir = some (matB x p dir) := by
 obtain ⟨k, rfl⟩ : ∃ j, k = j + 2 := ⟨k - 2, by omega⟩
 have hsm : sml p := by unfold sml; omega
 have jt : rules_Matches.j0 (k + 2) p true x.f0 x.f1 x.f2 x.f3 = some false := by rw [rules_Matches.j0, if_pos rfl]
 have j1t : ∀ b, rules_Matches.j1 (k + 1) p b x.f0 x.f1 x.f2 x.f3 = some (if b = true then mO (patO x.f1) p else mO (patO x.f1) (baseB p)) := fun b => by
  rw [rules_Matches.j1]
  cases b with
  | true => rw [if_pos rfl, if_pos rfl, glob_Match.f, if_pos ⟨hx, hp⟩, Option.bind_some]
  | false =>
   have hb : (baseB p).size < 1000000 := by
    have : (baseB p).size ≤ p.size := extract_le p _ _
    omega
   rw [if_neg (by decide), if_neg (by decide), base_f p hsm k (by omega), Option.bind_some, glob_Match.f, if_pos ⟨hx, hb⟩, Option.bind_some]
 have jf : rules_Matches.j0 (k + 2) p false x.f0 x.f1 x.f2 x.f3 = some (if (hasB x.f1 47 || x.f3) = true then mO (patO x.f1) p else mO (patO x.f1) (baseB p)) := by
  rw [rules_Matches.j0, if_neg (by decide)]
  cases h3 : x.f3 with
  | true =>
   rw [if_pos rfl]
   have := j1t true
   rw [h3] at this
   rw [this, Bool.or_true]
  | false =>
   rw [if_neg (by decide), strings_Contains.f, if_pos (show (⟨#[47]⟩ : ByteArray).size = 1 from rfl), Option.bind_some]
   have := j1t (hasB x.f1 ((⟨#[47]⟩ : ByteArray).data.toList.headD 0))
   rw [h3] at this
   rw [this, Bool.or_false]
   rfl
 unfold rules_Matches.f
 rw [check_f _ _ _ _ (by omega), Option.bind_some, matB_intro]
 by_cases hc : chkI x.f0 x.f1 = 0
 ·rw [if_pos hc, if_pos hc]
  by_cases h0 : p.size = 0
  ·rw [if_pos ((size_tl p).2 h0), jt, if_pos h0]
  ·rw [if_neg (fun e => h0 ((size_tl p).1 e)), if_neg h0, right_f p (by omega) (k + 2) (by omega), Option.bind_some]
   by_cases hr : rightB p = true
   ·rw [if_pos hr, if_pos hr]
    cases h2 : x.f2 with
    | true =>
     rw [if_pos rfl]
     cases dir with
     | true =>
      rw [h2] at jf
      exact jf
     | false =>
      rw [h2] at jt
      exact jt
    | false =>
     rw [h2] at jf
     rw [if_neg (by decide), jf]
     rfl
   ·rw [if_neg hr, jt, if_neg hr]
 ·rw [if_neg hc, jt, if_neg hc]
theorem rmatches_f (x : S24) (p : ByteArray) (dir : Bool) (hx : x.f1.size < 1000000) (hp : p.size < 1000000) (k : Nat) (hk : 1048590 ≤ k) : remoraref15_Matches.f k x.f0 x.f1 x.f2 x.f3 p dir = some (matB x p dir) := by
 obtain ⟨k, rfl⟩ : ∃ j, k = j + 1 := ⟨k - 1, by omega⟩
 have hsm : sml p := by unfold sml; omega
 have hb : (baseB p).size < 1000000 := by
  have : (baseB p).size ≤ p.size := extract_le p _ _
  omega
 have jt : remoraref15_Matches.j0 (k + 1) p true x.f0 x.f1 x.f2 x.f3 = some false := by rw [remoraref15_Matches.j0, if_pos rfl]
 have jf : remoraref15_Matches.j0 (k + 1) p false x.f0 x.f1 x.f2 x.f3 = some (if (hasB x.f1 47 || x.f3) = true then mO (patO x.f1) p else mO (patO x.f1) (baseB p)) := by
  rw [remoraref15_Matches.j0, if_neg (by decide), whole_f _ _ _ _ hx k (by omega), Option.bind_some]
  by_cases hw : (hasB x.f1 47 || x.f3) = true
  ·rw [if_pos hw, if_pos hw, remoraref14_Match.f, if_pos ⟨hx, hp⟩, Option.bind_some]
  ·rw [if_neg hw, if_neg hw, rbase_f p hsm k (by omega), Option.bind_some, remoraref14_Match.f, if_pos ⟨hx, hb⟩, Option.bind_some]
 unfold remoraref15_Matches.f
 rw [one_f _ _ _ _ hx _ (by omega), Option.bind_some, matB_intro]
 by_cases hc : chkI x.f0 x.f1 = 0
 ·rw [if_pos hc, if_pos hc, rright_f p (by omega) (k + 1) (by omega), Option.bind_some]
  by_cases hr : rightB p = true
  ·rw [if_pos hr]
   by_cases h0 : p.size = 0
   ·rw [if_pos ((size_tl p).2 h0), jt, if_pos h0]
   ·rw [if_neg (fun e => h0 ((size_tl p).1 e)), if_neg h0, if_pos hr]
    cases h2 : x.f2 with
    | true =>
     rw [if_pos rfl]
     cases dir with
     | true =>
      rw [h2] at jf
      exact jf
     | false =>
      rw [h2] at jt
      exact jt
    | false =>
     rw [h2] at jf
     rw [if_neg (by decide), jf]
     rfl
  ·rw [if_neg hr, jt, if_neg hr]
   by_cases h0 : p.size = 0
   ·rw [if_pos h0]
   ·rw [if_neg h0]
 ·rw [if_neg hc, jt, if_neg hc]
theorem mat_act (x : S24) (p : ByteArray) (dir : Bool) (h : matB x p dir = true) : 1 ≤ x.f0 ∧ x.f0 ≤ 4 := by
 rw [matB_intro] at h
 by_cases hc : chkI x.f0 x.f1 = 0
 ·unfold chkI at hc
  by_cases ha : actB x.f0 = 0
  ·rw [if_pos ha] at hc
   exact absurd hc (by decide)
  ·unfold actB at ha
   by_cases h1 : x.f0 = 1
   ·omega
   ·by_cases h2 : x.f0 = 2
    ·omega
    ·by_cases h3 : x.f0 = 3
     ·omega
     ·by_cases h4 : x.f0 = 4
      ·omega
      ·rw [if_neg h1, if_neg h2, if_neg h3, if_neg h4] at ha
       exact absurd rfl ha
 ·rw [if_neg hc] at h
  cases h
def actR : List S24 → ByteArray → Bool → Bool → Int
 | [], _, _, _ => 0
 | x :: l, p, dir, drop => if (matB x p dir && (drop || decide (x.f0 < 3))) = true then x.f0 else actR l p dir drop
theorem actR_cons (x : S24) (l : List S24) (p : ByteArray) (dir drop : Bool) : actR (x :: l) p dir drop = if (matB x p dir && (drop || decide (x.f0 < 3))) = true then x.f0 else actR l p dir drop := rfl
theorem drop_i {α : Type} (L : List α) (i : Nat) (h : i < L.length) : L.drop i = L[i] :: L.drop (i + 1) := List.drop_eq_getElem_cons h
theorem act_l (L : List S24) (p : ByteArray) (dir drop : Bool) (hL : ∀ x ∈ L, x.f1.size < 1000000) (hp : p.size < 1000000) (hn : L.length < 1000000) : ∀ (m i k : Nat), L.length - i = m → i ≤ L.length → m + 1048600 ≤ k → rules_Act.l0 k p dir drop L (L.length : Int) (i : Int) = some (actR (L.drop i) p dir drop) := by
 intro m
 induction m with
 | zero =>
  intro i k hm hi hk
  obtain ⟨k, rfl⟩ : ∃ j, k = j + 1 := ⟨k - 1, by omega⟩
  obtain rfl : i = L.length := by omega
  rw [rules_Act.l0, if_neg (by omega), List.drop_length]
  rfl
 | succ m ih =>
  intro i k hm hi hk
  obtain ⟨k, rfl⟩ : ∃ j, k = j + 1 := ⟨k - 1, by omega⟩
  have hlt : i < L.length := by omega
  have e1 : wrap64 ((i : Int) + 1) = ((i + 1 : Nat) : Int) := by rw [wr64 _ (by omega) (by omega)]; rfl
  have hx : (L[i]).f1.size < 1000000 := hL _ (List.getElem_mem hlt)
  have hih := ih (i + 1) k (by omega) (by omega) (by omega)
  have hm := matches_f (L[i]) p dir hx hp k (by omega)
  have ha := mat_act (L[i]) p dir
  rw [rules_Act.l0, if_pos (by omega), if_pos (by omega), if_pos (by omega), rd24_get L i hlt, e1, hih, drop_i L i hlt, actR_cons, hm]
  simp only [Option.bind_some]
  cases drop with
  | true =>
   rw [if_pos rfl, Bool.true_or, Bool.and_true]
   by_cases h : matB (L[i]) p dir = true
   ·rw [if_pos h, if_pos h]
   ·rw [if_neg h, if_neg h]
  | false =>
   rw [if_neg (by decide), Bool.false_or]
   by_cases h : matB (L[i]) p dir = true
   ·have hr := ha h
    rw [if_pos h, h, Bool.true_and]
    by_cases h1 : (L[i]).f0 = 1
    ·rw [if_pos h1, decide_eq_true (by omega), if_pos rfl]
    ·rw [if_neg h1]
     by_cases h2 : (L[i]).f0 = 2
     ·rw [if_pos h2, decide_eq_true (by omega), if_pos rfl]
     ·rw [if_neg h2, decide_eq_false (by omega), if_neg (by decide)]
   ·have hf : matB (L[i]) p dir = false := by simpa using h
    rw [if_neg h, hf, Bool.false_and, if_neg (show ¬ (false = true) by decide)]
    by_cases h1 : (L[i]).f0 = 1
    ·rw [if_pos h1]
    ·rw [if_neg h1]
     by_cases h2 : (L[i]).f0 = 2
     ·rw [if_pos h2]
     ·rw [if_neg h2]
theorem act_f (L : List S24) (p : ByteArray) (dir drop : Bool) (hL : ∀ x ∈ L, x.f1.size < 1000000) (hp : p.size < 1000000) (hn : L.length < 1000000) (k : Nat) (hk : 2048600 ≤ k) : rules_Act.f k L p dir drop = some (actR L p dir drop) :=
 act_l L p dir drop hL hp hn L.length 0 k (by omega) (by omega) (by omega)
theorem ract_l (L : List S24) (p : ByteArray) (dir drop : Bool) (hL : ∀ x ∈ L, x.f1.size < 1000000) (hp : p.size < 1000000) (hn : L.length < 1000000) : ∀ (m i k : Nat), L.length - i = m → i ≤ L.length → m + 1048600 ≤ k → remoraref15_Act.l0 k p dir drop L (L.length : Int) (i : Int) = some (actR (L.drop i) p dir drop) := by
 intro m
 induction m with
 | zero =>
  intro i k hm hi hk
  obtain ⟨k, rfl⟩ : ∃ j, k = j + 1 := ⟨k - 1, by omega⟩
  obtain rfl : i = L.length := by omega
  rw [remoraref15_Act.l0, if_neg (by omega), List.drop_length]
  rfl
 | succ m ih =>
  intro i k hm hi hk
  obtain ⟨k, rfl⟩ : ∃ j, k = j + 1 := ⟨k - 1, by omega⟩
  have hlt : i < L.length := by omega
  have e1 : wrap64 ((i : Int) + 1) = ((i + 1 : Nat) : Int) := by rw [wr64 _ (by omega) (by omega)]; rfl
  have hx : (L[i]).f1.size < 1000000 := hL _ (List.getElem_mem hlt)
  have hih := ih (i + 1) k (by omega) (by omega) (by omega)
  have hm := rmatches_f (L[i]) p dir hx hp k (by omega)
  rw [remoraref15_Act.l0, if_pos (by omega), if_pos (by omega), if_pos (by omega), rd24_get L i hlt, e1, hih, drop_i L i hlt, actR_cons, hm]
  simp only [Option.bind_some]
  cases drop with
  | true =>
   rw [if_pos rfl, Bool.true_or, Bool.and_true]
   by_cases h : matB (L[i]) p dir = true
   ·rw [if_pos h, if_pos h]
   ·rw [if_neg h, if_neg h]
  | false =>
   rw [if_neg (by decide), Bool.false_or]
   by_cases h : matB (L[i]) p dir = true
   ·rw [if_pos h, h, Bool.true_and]
    by_cases h1 : (L[i]).f0 < 3
    ·rw [if_pos h1, decide_eq_true h1, if_pos rfl]
    ·rw [if_neg h1, decide_eq_false h1, if_neg (by decide)]
   ·have hf : matB (L[i]) p dir = false := by simpa using h
    rw [if_neg h, hf, Bool.false_and, if_neg (show ¬ (false = true) by decide)]
    by_cases h1 : (L[i]).f0 < 3
    ·rw [if_pos h1]
    ·rw [if_neg h1]
theorem ract_f (L : List S24) (p : ByteArray) (dir drop : Bool) (hL : ∀ x ∈ L, x.f1.size < 1000000) (hp : p.size < 1000000) (hn : L.length < 1000000) (k : Nat) (hk : 2048600 ≤ k) : remoraref15_Act.f k L p dir drop = some (actR L p dir drop) :=
 ract_l L p dir drop hL hp hn L.length 0 k (by omega) (by omega) (by omega)
theorem safe_f (L : List S24) (p : ByteArray) (dir : Bool) (hL : ∀ x ∈ L, x.f1.size < 1000000) (hp : p.size < 1000000) (hn : L.length < 1000000) (k : Nat) (hk : 2048600 ≤ k) : rules_Safe.f k L p dir = some (actR L p dir true == 3) := by
 unfold rules_Safe.f
 rw [act_f L p dir true hL hp hn k hk, Option.bind_some]
theorem rsafe_f (L : List S24) (p : ByteArray) (dir : Bool) (hL : ∀ x ∈ L, x.f1.size < 1000000) (hp : p.size < 1000000) (hn : L.length < 1000000) (k : Nat) (hk : 2048600 ≤ k) : remoraref15_Safe.f k L p dir = some (actR L p dir true == 3) := by
 unfold remoraref15_Safe.f
 rw [ract_f L p dir true hL hp hn k hk, Option.bind_some]
def hidR : Nat → List S24 → ByteArray → Bool → Bool
 | 0, _, _, _ => false
 | n + 1, L, p, dir => if p.size = 0 then false else if actR L p dir false = 2 then true else hidR n L (parB p) true
theorem parB_lt (p : ByteArray) (h : p.size ≠ 0) : (parB p).size < p.size := by
 have h1 := splitTo_le p p.size
 unfold parB
 rw [ByteArray.size_extract]
 omega
theorem hidden_l (L : List S24) (hL : ∀ x ∈ L, x.f1.size < 1000000) (hn : L.length < 1000000) : ∀ (n : Nat) (p : ByteArray) (dir : Bool) (k : Nat), p.size < n → p.size < 1000000 → n + 2048600 ≤ k → rules_Hidden.l0 k L p dir = some (hidR n L p dir) := by
 intro n
 induction n with
 | zero => intro p dir k h; omega
 | succ n ih =>
  intro p dir k h hp hk
  obtain ⟨k, rfl⟩ : ∃ j, k = j + 1 := ⟨k - 1, by omega⟩
  rw [rules_Hidden.l0]
  unfold hidR
  by_cases h0 : p.size = 0
  ·rw [if_pos ((size_tl p).2 h0), if_pos h0]
  ·have hlt := parB_lt p h0
   rw [if_neg (fun e => h0 ((size_tl p).1 e)), if_neg h0, act_f L p dir false hL hp hn k (by omega), Option.bind_some]
   by_cases h2 : actR L p dir false = 2
   ·rw [if_pos h2, if_pos h2]
   ·rw [if_neg h2, if_neg h2, parent_f p (by unfold sml; omega) k (by omega), Option.bind_some]
    exact ih (parB p) true k (by omega) (by omega) (by omega)
theorem rhidden_l (L : List S24) (hL : ∀ x ∈ L, x.f1.size < 1000000) (hn : L.length < 1000000) : ∀ (n : Nat) (p : ByteArray) (dir : Bool) (k : Nat), p.size < n → p.size < 1000000 → n + 2048600 ≤ k → remoraref15_Hidden.l0 k L p dir = some (hidR n L p dir) := by
 intro n
 induction n with
 | zero => intro p dir k h; omega
 | succ n ih =>
  intro p dir k h hp hk
  obtain ⟨k, rfl⟩ : ∃ j, k = j + 1 := ⟨k - 1, by omega⟩
  rw [remoraref15_Hidden.l0]
  unfold hidR
  by_cases h0 : p.size = 0
  ·rw [if_pos ((size_tl p).2 h0), if_pos h0]
  ·have hlt := parB_lt p h0
   rw [if_neg (fun e => h0 ((size_tl p).1 e)), if_neg h0, ract_f L p dir false hL hp hn k (by omega), Option.bind_some]
   by_cases h2 : actR L p dir false = 2
   ·rw [if_pos h2, if_pos h2]
   ·rw [if_neg h2, if_neg h2, rparent_f p (by unfold sml; omega) k (by omega), Option.bind_some]
    exact ih (parB p) true k (by omega) (by omega) (by omega)
theorem hidden_f (L : List S24) (hL : ∀ x ∈ L, x.f1.size < 1000000) (hn : L.length < 1000000) (p : ByteArray) (dir : Bool) (hp : p.size < 1000) (k : Nat) (hk : 2050000 ≤ k) : rules_Hidden.f k L p dir = some (rightB p && hidR 1000 L p dir) := by
 unfold rules_Hidden.f
 rw [right_f p (by omega) k (by omega), Option.bind_some]
 by_cases h : rightB p = true
 ·rw [if_pos h, hidden_l L hL hn 1000 p dir k hp (by omega) (by omega), h, Bool.true_and]
 ·have hf : rightB p = false := by simpa using h
  rw [if_neg h, hf, Bool.false_and]
theorem rhidden_f (L : List S24) (hL : ∀ x ∈ L, x.f1.size < 1000000) (hn : L.length < 1000000) (p : ByteArray) (dir : Bool) (hp : p.size < 1000) (k : Nat) (hk : 2050000 ≤ k) : remoraref15_Hidden.f k L p dir = some (rightB p && hidR 1000 L p dir) := by
 unfold remoraref15_Hidden.f
 rw [rright_f p (by omega) k (by omega), Option.bind_some]
 by_cases h : rightB p = true
 ·rw [if_pos h, rhidden_l L hL hn 1000 p dir k hp (by omega) (by omega), h, Bool.true_and]
 ·have hf : rightB p = false := by simpa using h
  rw [if_neg h, hf, Bool.false_and]
end Go.Proofs.YtioehkeocddniaaDoor.PA
namespace Go.Proofs.YtioehkeocddniaaDoor.PA
open Go.RowKit Go.Proofs.YtioehkeocddniaaDoorW.PrintWords Go.Proofs.YtioehkeocddniaaDoorW.PrintLast Go.Proofs.YtioehkeocddniaaDoorW.PrintMore
attribute [local go_sem] max2_int min2_int max_two min_two max_three min_three max_four min_four   -- for this text's walks alone
set_option linter.unusedVariables false
set_option linter.unusedSimpArgs false
theorem eqA24 (d : Nat) (w : World) (x0 y0 : Int) (x1 y1 : ByteArray) (x2 y2 : Bool) (x3 y3 : Bool) :
  (Op.equalIn (d + 2) 24 (.agg #[.int .i64 x0, .string x1, .bool x2, .bool x3]) (.agg #[.int .i64 y0, .string y1, .bool y2, .bool y3])).run Tryd.prog w = .ok (x0 == y0 && (x1.toList == y1.toList && (x2 == y2 && (x3 == y3)))) w := by
 refine eqA_of Tryd.underlying24 (by kernel_rfl) ?_
 refine eqf_cons (by rfl) (by go_simp; rfl) (by go_simp; rfl) (by go_simp) ?_
 refine eqf_cons (by rfl) (by go_simp; rfl) (by go_simp; rfl) (by go_simp) ?_
 refine eqf_cons (by rfl) (by go_simp; rfl) (by go_simp; rfl) (by go_simp) ?_
 exact eqf_last (by rfl) (by go_simp; rfl) (by go_simp; rfl) (by go_simp)
end Go.Proofs.YtioehkeocddniaaDoor.PA
namespace Go.Proofs.YtioehkeocddniaaDoor.PA
open Go.RowKit Go.Proofs.YtioehkeocddniaaDoorW.PrintWords Go.Proofs.YtioehkeocddniaaDoorW.PrintLast Go.Proofs.YtioehkeocddniaaDoorW.PrintMore
attribute [local go_sem] max2_int min2_int max_two min_two max_three min_three max_four min_four   -- for this text's walks alone
set_option linter.unusedVariables false
set_option linter.unusedSimpArgs false
attribute [local go_sem high] eqA24
end Go.Proofs.YtioehkeocddniaaDoor.PA
namespace Go.Proofs.YtioehkeocddniaaDoor.PA
open Go.RowKit Go.Proofs.YtioehkeocddniaaDoorW.PrintWords Go.Proofs.YtioehkeocddniaaDoorW.PrintLast Go.Proofs.YtioehkeocddniaaDoorW.PrintMore
attribute [local go_sem] max2_int min2_int max_two min_two max_three min_three max_four min_four
set_option linter.unusedVariables false
set_option linter.unusedSimpArgs false
def lightB (L : List S24) : Bool := decide (L.length ≤ 80) && L.all (fun x => decide (x.f1.size ≤ 200))
theorem light15_l (L : List S24) (hn : L.length ≤ 80) : ∀ (m i k : Nat), L.length - i = m → i ≤ L.length → m + 1 ≤ k → remoralaw15_light.l0 k L (L.length : Int) (i : Int) = some ((L.drop i).all (fun x => decide (x.f1.size ≤ 200))) := by
 intro m
 induction m with
 | zero =>
  intro i k hm hi hk
  obtain ⟨k, rfl⟩ : ∃ j, k = j + 1 := ⟨k - 1, by omega⟩
  obtain rfl : i = L.length := by omega
  rw [remoralaw15_light.l0, if_neg (by omega), List.drop_length]
  rfl
 | succ m ih =>
  intro i k hm hi hk
  obtain ⟨k, rfl⟩ : ∃ j, k = j + 1 := ⟨k - 1, by omega⟩
  have hlt : i < L.length := by omega
  have e1 : wrap64 ((i : Int) + 1) = ((i + 1 : Nat) : Int) := by rw [wr64 _ (by omega) (by omega)]; rfl
  rw [remoralaw15_light.l0, if_pos (by omega), if_pos (by omega), if_pos (by omega), rd24_get L i hlt, e1, List.drop_eq_getElem_cons hlt, List.all_cons]
  by_cases h : ((L[i]).f1.size : Int) > 200
  ·rw [if_pos h, decide_eq_false (by omega), Bool.false_and]
  ·rw [if_neg h, decide_eq_true (by omega), Bool.true_and]
   exact ih (i + 1) k (by omega) (by omega) (by omega)
theorem light15_f (L : List S24) (k : Nat) (hk : 82 ≤ k) : remoralaw15_light.f k L = some (lightB L) := by
 unfold remoralaw15_light.f lightB
 by_cases h : (L.length : Int) > 80
 ·rw [if_pos h, decide_eq_false (by omega), Bool.false_and]
 ·rw [if_neg h, decide_eq_true (by omega), Bool.true_and]
  exact light15_l L (by omega) L.length 0 k (by omega) (by omega) (by omega)
theorem lightB_facts {L : List S24} (h : lightB L = true) : L.length ≤ 80 ∧ ∀ x ∈ L, x.f1.size ≤ 200 := by
 unfold lightB at h
 rw [Bool.and_eq_true, decide_eq_true_iff, List.all_eq_true] at h
 exact ⟨h.1, fun x hx => of_decide_eq_true (h.2 x hx)⟩
end Go.Proofs.YtioehkeocddniaaDoor.PA
namespace Go.Proofs.YtioehkeocddniaaDoor.PA
open Go.RowKit Go.Proofs.YtioehkeocddniaaDoorW.PrintWords Go.Proofs.YtioehkeocddniaaDoorW.PrintLast Go.Proofs.YtioehkeocddniaaDoorW.PrintMore
attribute [local go_sem] max2_int min2_int max_two min_two max_three min_three max_four min_four
set_option linter.unusedVariables false
set_option linter.unusedSimpArgs false
def wf24 (n : Nat) (x : S24) : Prop := ((Lit.int .i64 x.f0).wf = true) ∧ (x.f1.size < n ∧ x.f1.size ≤ maxLen) ∧ (True) ∧ (True)
theorem opn24 : Opn Tryd.prog 24 k24 wf24 := opn_struct (fun x : S24 => (x.f0, x.f1, x.f2, x.f3)) (fun a => (⟨a.1, a.2.1, a.2.2.1, a.2.2.2⟩ : S24)) (fun _ => rfl) Tryd.underlying24 (opnF_cons rfl (opn_int Tryd.underlying3 (by kernel_rfl)) rfl (opnF_cons rfl (opn_string Tryd.underlying9 (by kernel_rfl)) rfl (opnF_cons rfl (opn_bool Tryd.underlying4 (by kernel_rfl)) rfl (opnF_one rfl (opn_bool Tryd.underlying4 (by kernel_rfl)))))) (by kernel_rfl)
theorem acts_l (L : List S24) (p : ByteArray) (dir drop : Bool) (hL : ∀ x ∈ L, x.f1.size ≤ 200) (hn : L.length ≤ 80) (hp : p.size ≤ 300) : ∀ (m i k : Nat), L.length - i = m → i ≤ L.length → m + 2060000 ≤ k → remoralaw15_RulesActs.l0 k L p dir drop L (L.length : Int) (i : Int) = some true := by
 have hL' : ∀ x ∈ L, x.f1.size < 1000000 := fun x hx => by have := hL x hx; omega
 intro m
 induction m with
 | zero =>
  intro i k hm hi hk
  obtain ⟨k, rfl⟩ : ∃ j, k = j + 1 := ⟨k - 1, by omega⟩
  obtain rfl : i = L.length := by omega
  rw [remoralaw15_RulesActs.l0, if_neg (by omega), act_f L p dir drop hL' (by omega) (by omega) k (by omega), ract_f L p dir drop hL' (by omega) (by omega) k (by omega), hidden_f L hL' (by omega) p dir (by omega) k (by omega), rhidden_f L hL' (by omega) p dir (by omega) k (by omega), safe_f L p dir hL' (by omega) (by omega) k (by omega), rsafe_f L p dir hL' (by omega) (by omega) k (by omega), awake15]
  simp only [Option.bind_some, beq_self_eq_true, if_true]
 | succ m ih =>
  intro i k hm hi hk
  obtain ⟨k, rfl⟩ : ∃ j, k = j + 1 := ⟨k - 1, by omega⟩
  have hlt : i < L.length := by omega
  have e1 : wrap64 ((i : Int) + 1) = ((i + 1 : Nat) : Int) := by rw [wr64 _ (by omega) (by omega)]; rfl
  have hx := hL' _ (List.getElem_mem hlt)
  rw [remoralaw15_RulesActs.l0, if_pos (by omega), if_pos (by omega), if_pos (by omega), rd24_get L i hlt, e1, matches_f (L[i]) p dir hx (by omega) k (by omega), rmatches_f (L[i]) p dir hx (by omega) k (by omega)]
  simp only [Option.bind_some, bne_self_eq_false]
  rw [if_neg (by decide)]
  exact ih (i + 1) k (by omega) (by omega) (by omega)
theorem rulesActs_f (L : List S24) (p : ByteArray) (dir drop : Bool) : ∃ k, remoralaw15_RulesActs.f k L p dir drop = some true := by
 obtain ⟨k, hk⟩ : ∃ k, k = 3000000 := ⟨_, rfl⟩
 refine ⟨k + 1, ?_⟩
 have jt : remoralaw15_RulesActs.j0 (k + 1) L p dir drop true = some true := by
  rw [remoralaw15_RulesActs.j0, if_pos rfl, awake15, Option.bind_some]
 unfold remoralaw15_RulesActs.f
 rw [light15_f L _ (by omega), Option.bind_some]
 by_cases hl : lightB L = true
 ·rw [if_pos hl]
  by_cases h : (p.size : Int) > 300
  ·rw [decide_eq_true h, jt]
  ·obtain ⟨h1, h2⟩ := lightB_facts hl
   rw [decide_eq_false h, remoralaw15_RulesActs.j0, if_neg (by decide)]
   exact acts_l L p dir drop h2 h1 (by omega) L.length 0 k (by omega) (by omega) (by omega)
 ·rw [if_neg hl, jt]
theorem rulesActs_law (w : World) (A0 : Option Addr) (c0 : Nat) (x0 : List S24) (hC : Kd.C k24 w A0 x0.length x0) (hL : x0.length ≤ c0) (hw : ∃ n, x0.length < n ∧ ∀ a ∈ x0, wf24 n a) (p : ByteArray) (hw1 : ∃ n, p.size < n ∧ p.size ≤ maxLen) (dir : Bool) (hw2 : ∃ n : Nat, True) (drop : Bool) (hw3 : ∃ n : Nat, True) :
  Calls Tryd.prog 4 #[.slice A0 x0.length c0, .string p, .bool dir, .bool drop] w fun e w' => e = .returned (.bool true) ∧ Below w.heap.size w w' := by
 obtain ⟨k, hk⟩ := rulesActs_f x0 p dir drop
 exact remoralaw15_RulesActs.calls k A0 c0 x0 p dir drop true w hC hL hk
end Go.Proofs.YtioehkeocddniaaDoor.PA
namespace Go.Proofs.YtioehkeocddniaaDoor.rulesActsRow
open Go.ChangeShapes Go.WideShapes Go.ChangeAt Go.RowKit Go.Proofs.YtioehkeocddniaaDoor.PA Go.Proofs.YtioehkeocddniaaDoorW.PrintWords Go.Proofs.YtioehkeocddniaaDoorW.PrintLast Go.Proofs.YtioehkeocddniaaDoorW.PrintMore
open Go.ChangeMaps (open_string shut_string)
theorem own : ownKnob Tryd.prog.godebug = none := by kernel_rfl
theorem laidOut : laidOutB Tryd.prog = true := by kernel_rfl
set_option linter.unusedSimpArgs false in
set_option maxHeartbeats 1000000 in
set_option maxRecDepth 100000 in
theorem lifted (os : Os) (started : os.Started) (H : Type) (enc : TypeId × Value → H) :
  ReturnsInHanded {} Tryd.checked os 4 .any (fun w args => (Rows.rulesActsSpec.pre enc Tryd.prog Tryd.f4 Rows.rulesActsRow.domain false w args ∧ laidMetH Tryd.prog Rows.rulesActsRow.laid w) ∧ sizedMet enc Tryd.prog Tryd.f4 (OpenSpec.ofChange Rows.rulesActsSpec) false w args)
   (Rows.rulesActsSpec.post enc Tryd.prog Tryd.f4 false true false false) := by
 refine returnsInHanded_of_change_and (C := Tryd.checked) (X := fun w _ => laidMetH Tryd.prog Rows.rulesActsRow.laid w) (fun _ _ _ hh h => h.of_heap hh) own started (by kernel_rfl) Tryd.func4
  (ChangeSpec.witness_shaped (enc := enc) (C := Tryd.checked) (os := os) (X := fun w _ => laidMetH Tryd.prog Rows.rulesActsRow.laid w) false (World.laidAll Tryd.prog os Rows.rulesActsRow.laid) #[.slice none 0 0, .string ByteArray.empty, .bool false, .bool false] 8 (World.laidAll_os _ _ _)
   (World.shaped_of_ZipB (by kernel_rfl) (by kernel_rfl)) (by kernel_rfl) (by kernel_rfl) (by kernel_rfl)
   (by rw [MakeChecks.laidMetH_plain _ _ _ (by kernel_rfl)]; exact laidMet_laidAll _ (by kernel_rfl) (by kernel_rfl))) ?_
 intro W base args ds gs before hval0 hW hcnd _ hL_ _
 have hval : ∀ (j : Nat) t v, Tryd.f4.params[j]? = some t → args[j]? = some v → Value.okWide Tryd.prog W .any base t v := hval0
 have hW' := hW
 obtain ⟨p, q, hA0, hV, rfl, hfz, hnd⟩ := hW
 have hA : DataW.TrodAll enc Tryd.prog W 0 (fun _ => true) true Tryd.f4.params.toList args.toList ds p := hA0
 rw [Tryd.params4] at hA hval
 obtain ⟨v0, vs0, d0, ds0, p0, q0, hargs, rfl, rfl, h0, r0⟩ := trodAll_cons hA
 obtain ⟨v1, vs1, d1, ds1, p1, q1, rfl, rfl, rfl, h1, r1⟩ := trodAll_cons r0
 obtain ⟨v2, vs2, d2, ds2, p2, q2, rfl, rfl, rfl, h2, r2⟩ := trodAll_cons r1
 obtain ⟨v3, vs3, d3, ds3, p3, q3, rfl, rfl, rfl, h3, r3⟩ := trodAll_cons r2
 obtain ⟨rfl, rfl, rfl⟩ := trodAll_nil r3
 obtain rfl : args = #[v0, v1, v2, v3] := by cases args; simp_all
 obtain ⟨rfl, rfl⟩ := trodVars_none hV
 obtain ⟨A0, l0, c0, rfl⟩ := okWide_slice Tryd.underlying28 (hval 0 28 v0 rfl rfl)
 have k0 := h0
 have lt0 : ∀ x ∈ p0, x.block < W.heap.size := by obtain ⟨m, hm⟩ := k0; exact DataW.trod_lt m _ _ _ hm
 obtain ⟨fu0, hf0⟩ := h0
 obtain ⟨x0, hk0, hw0⟩ := (show Opn Tryd.prog 28 (Kd.slice 24 k24) (fun n x => x.length < n ∧ ∀ a ∈ x, wf24 n a) from (opn_slice Tryd.underlying28 (by kernel_rfl) opn24)).op enc W 0 _ true fu0 _ _ hf0
 obtain ⟨A_, c_, e0, hL0, hC0⟩ := hk0
 simp only [Value.cells, Array.toList, List.cons.injEq, Value.slice.injEq, and_true] at e0
 obtain ⟨rfl, rfl, rfl⟩ := e0
 obtain ⟨y1, rfl⟩ := okWide_string Tryd.underlying9 (hval 1 9 v1 rfl rfl)
 have k1 := h1
 have lt1 : ∀ x ∈ p1, x.block < W.heap.size := by obtain ⟨m, hm⟩ := k1; exact DataW.trod_lt m _ _ _ hm
 obtain ⟨fu1, hf1⟩ := h1
 obtain ⟨x1, hk1, hw1⟩ := (show Opn Tryd.prog 9 Kd.string (fun n x => x.size < n ∧ x.size ≤ maxLen) from (opn_string Tryd.underlying9 (by kernel_rfl))).op enc W 0 _ true fu1 _ _ hf1
 have e1 := (List.cons.inj hk1).1
 injection e1 with e1
 have e1 := e1.symm
 subst e1
 obtain ⟨y2, rfl⟩ := okWide_bool Tryd.underlying4 (hval 2 4 v2 rfl rfl)
 have k2 := h2
 have lt2 : ∀ x ∈ p2, x.block < W.heap.size := by obtain ⟨m, hm⟩ := k2; exact DataW.trod_lt m _ _ _ hm
 obtain ⟨fu2, hf2⟩ := h2
 obtain ⟨x2, hk2, hw2⟩ := (show Opn Tryd.prog 4 Kd.bool (fun n x => True) from (opn_bool Tryd.underlying4 (by kernel_rfl))).op enc W 0 _ true fu2 _ _ hf2
 have e2 := (List.cons.inj hk2).1
 injection e2 with e2
 have e2 := e2.symm
 subst e2
 obtain ⟨y3, rfl⟩ := okWide_bool Tryd.underlying4 (hval 3 4 v3 rfl rfl)
 have k3 := h3
 have lt3 : ∀ x ∈ p3, x.block < W.heap.size := by obtain ⟨m, hm⟩ := k3; exact DataW.trod_lt m _ _ _ hm
 obtain ⟨fu3, hf3⟩ := h3
 obtain ⟨x3, hk3, hw3⟩ := (show Opn Tryd.prog 4 Kd.bool (fun n x => True) from (opn_bool Tryd.underlying4 (by kernel_rfl))).op enc W 0 _ true fu3 _ _ hf3
 have e3 := (List.cons.inj hk3).1
 injection e3 with e3
 have e3 := e3.symm
 subst e3
 refine (rulesActs_law W A0 c0 x0 hC0 hL0 ⟨Rows.uptoBulk d0, hw0⟩ x1 ⟨Rows.uptoBulk d1, hw1⟩ x2 ⟨Rows.uptoBulk d2, hw2⟩ x3 ⟨Rows.uptoBulk d3, hw3⟩).mono fun e W' ⟨he, bel⟩ => ?_
 subst he
 exact ⟨_, rfl, _, _, _, [], _, [], hW', trodAll_mk1 (shut_bool Tryd.underlying4 _), (trodAll_cons_mk (Below.trod laidOut (by kernel_rfl) (of_decide_eq_true (by kernel_rfl)) k0 bel lt0) (trodAll_cons_mk (Below.trod laidOut (by kernel_rfl) (of_decide_eq_true (by kernel_rfl)) k1 bel lt1) (trodAll_cons_mk (Below.trod laidOut (by kernel_rfl) (of_decide_eq_true (by kernel_rfl)) k2 bel lt2) (trodAll_cons_mk (Below.trod laidOut (by kernel_rfl) (of_decide_eq_true (by kernel_rfl)) k3 bel lt3) trodAll_mk0)))), rfl, bel.frame _, fun h => by cases h⟩
theorem over : Rows.rulesActsRow.holds Tryd.pinned (OpenSpec.ofChange Rows.rulesActsSpec) :=
 OpenClaim.holds_of_wide 4 Tryd.f4 rfl rfl rfl rfl rfl rfl rfl ⟨rfl, rfl, rfl, rfl, rfl⟩ rfl rfl rfl rfl rfl (by kernel_rfl) Tryd.func4 (by kernel_rfl)
  (of_decide_eq_true (by kernel_rfl)) (by unfold Func.isWrapper; first | (rw [if_pos (by decide +kernel)]; kernel_rfl) | (rw [if_neg (by decide +kernel)]; exact ⟨rfl, rfl⟩))
  (fun os started H enc _ => lifted os started H enc)
theorem proved : Rows.RulesActsSaid := over
theorem card : Rows.RulesActsCardSaid :=
 Claim7.holds_tied_plain_at .later [] _ _ _ _ proved (fun _ h => by cases h) (by kernel_rfl) (fun _ h => by cases h) rulesActs_row_tie rfl ⟨rfl, rfl⟩ (by kernel_rfl) rfl
  (fun f fn hf hfn => by
   obtain rfl : f = 4 := Option.some.inj ((show Tryd.prog.funcNamed "remora/remoralaw15.RulesActs" = some 4 by kernel_rfl).symm.trans hf) |>.symm
   obtain rfl : fn = Tryd.f4 := (Option.some.inj (Tryd.func4.symm.trans hfn)).symm
   exact ⟨by kernel_rfl, fun j t ht => by
    rw [Tryd.params4] at ht
    have hm : t ∈ [28, 9, 4, 4] := by simpa using Array.mem_of_getElem? ht
    have hall : ([28, 9, 4, 4].all fun u => !Tryd.prog.wantsStandIn u) = true := by kernel_rfl
    exact (show Tryd.prog.wantsStandIn t = false by simpa using List.all_eq_true.1 hall t hm)⟩)
  (by kernel_rfl)
#print axioms card
end Go.Proofs.YtioehkeocddniaaDoor.rulesActsRow
namespace Go.Proofs.YtioehkeocddniaaDoor
theorem rulesActs_holds : Rows.RulesActsCardSaid := rulesActsRow.card
end Go.Proofs.YtioehkeocddniaaDoor
namespace Go.Proofs.YtioehkeocddniaaDoor.PA
end Go.Proofs.YtioehkeocddniaaDoor.PA
