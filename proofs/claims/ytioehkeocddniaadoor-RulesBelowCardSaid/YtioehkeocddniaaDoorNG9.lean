/- Plain: what rules say of a path, by the code and by the reference. -/
import Derived.Test.YtioehkeocddniaaDoorNG1
import Derived.Test.YtioehkeocddniaaDoorNG4
import Derived.Test.YtioehkeocddniaaDoorNG7
import Derived.Test.YtioehkeocddniaaDoorNG3
import Derived.Test.YtioehkeocddniaaDoorNG2
import Derived.Test.YtioehkeocddniaaDoorNG5
namespace Go.Proofs.YtioehkeocddniaaDoor.PA
open Go.RowKit Go.Proofs.YtioehkeocddniaaDoorW.PrintWords Go.Proofs.YtioehkeocddniaaDoorW.PrintLast Go.Proofs.YtioehkeocddniaaDoorW.PrintMore
attribute [local go_sem] max2_int min2_int max_two min_two max_three min_three max_four min_four   -- for this text's walks alone
set_option linter.unusedVariables false
set_option linter.unusedSimpArgs false
end Go.Proofs.YtioehkeocddniaaDoor.PA
namespace Go.Proofs.YtioehkeocddniaaDoor.PA
open Go.RowKit Go.Proofs.YtioehkeocddniaaDoorW.PrintWords Go.Proofs.YtioehkeocddniaaDoorW.PrintLast Go.Proofs.YtioehkeocddniaaDoorW.PrintMore
attribute [local go_sem] max2_int min2_int max_two min_two max_three min_three max_four min_four   -- for this text's walks alone
set_option linter.unusedVariables false
set_option linter.unusedSimpArgs false
end Go.Proofs.YtioehkeocddniaaDoor.PA
namespace Go.Proofs.YtioehkeocddniaaDoor.PA
open Go.RowKit Go.Proofs.YtioehkeocddniaaDoorW.PrintWords Go.Proofs.YtioehkeocddniaaDoorW.PrintLast Go.Proofs.YtioehkeocddniaaDoorW.PrintMore
attribute [local go_sem] max2_int min2_int max_two min_two max_three min_three max_four min_four
set_option linter.unusedVariables false
set_option linter.unusedSimpArgs false
theorem last_l (a : ByteArray) (hs : a.size < 4611686018427387904) : ∀ j k, j ≤ a.size → j + 1 ≤ k → bytealg_LastIndexByteString.l0 k a 47 ((j : Int) - 1) = some (((splitTo a j).2 : Int) - 1)
 | 0, k, _, hk => by
  obtain ⟨k, rfl⟩ : ∃ j, k = j + 1 := ⟨k - 1, by omega⟩
  rw [bytealg_LastIndexByteString.l0, if_neg (by omega)]
  rfl
 | j + 1, k, hj, hk => by
  obtain ⟨k, rfl⟩ : ∃ j, k = j + 1 := ⟨k - 1, by omega⟩
  have e : (((j + 1 : Nat) : Int) - 1) = (j : Int) := by omega
  rw [e, bytealg_LastIndexByteString.l0, if_pos (by omega), if_pos (by omega), if_pos (by omega)]
  by_cases hb : bt a (j : Int) = 47
  ·rw [if_pos hb, splitTo_hit a j hb]
   show some (j : Int) = some (((j + 1 : Nat) : Int) - 1)
   rw [e]
  ·rw [if_neg hb, splitTo_miss a j hb, wr64 _ (by omega) (by omega)]
   exact last_l a hs j k (by omega) (by omega)
theorem last_f (a : ByteArray) (ha : sml a) (k : Nat) (hk : 1048580 ≤ k) : strings_LastIndexByte.f k a 47 = some (((splitTo a a.size).2 : Int) - 1) := by
 unfold sml at ha
 rw [strings_LastIndexByte.f, bytealg_LastIndexByteString.f, wr64 _ (by omega) (by omega), last_l a (by omega) a.size k (by omega) (by omega), Option.bind_some]
def baseB (a : ByteArray) : ByteArray := a.extract (splitTo a a.size).2 a.size
def parB (a : ByteArray) : ByteArray := a.extract 0 ((splitTo a a.size).2 - 1)
theorem base_f (a : ByteArray) (ha : sml a) (k : Nat) (hk : 1048580 ≤ k) : path_Base.f k a = some (baseB a) := by
 have h1 := splitTo_le a a.size
 have ha' := ha
 unfold sml at ha'
 rw [path_Base.f, last_f a ha k hk, Option.bind_some]
 have e : wrap64 ((((splitTo a a.size).2 : Int) - 1) + 1) = ((splitTo a a.size).2 : Int) := by rw [wr64 _ (by omega) (by omega)]; omega
 rw [e, if_pos (by omega), if_pos (by omega), Int.toNat_natCast]
 rfl
theorem parent_f (a : ByteArray) (ha : sml a) (k : Nat) (hk : 1048580 ≤ k) : path_Parent.f k a = some (parB a) := by
 have h1 := splitTo_le a a.size
 rw [path_Parent.f, last_f a ha k hk, Option.bind_some]
 have e : mx (((splitTo a a.size).2 : Int) - 1) 0 = (((splitTo a a.size).2 - 1 : Nat) : Int) := by
  unfold mx
  split <;> omega
 rw [e, if_pos (by omega), if_pos (by omega), Int.toNat_natCast]
 rfl
theorem from_zero (a : ByteArray) : ∀ k, (splitTo a k).1.length = 0 ↔ (splitTo a k).2 = 0
 | 0 => ⟨fun _ => rfl, fun _ => rfl⟩
 | k + 1 => by
  by_cases hb : bt a (k : Int) = 47
  ·rw [splitTo_hit a k hb]; simp
  ·rw [splitTo_miss a k hb]; exact from_zero a k
end Go.Proofs.YtioehkeocddniaaDoor.PA
namespace Go.Proofs.YtioehkeocddniaaDoor.PA
open Go.RowKit Go.Proofs.YtioehkeocddniaaDoorW.PrintWords Go.Proofs.YtioehkeocddniaaDoorW.PrintLast Go.Proofs.YtioehkeocddniaaDoorW.PrintMore
attribute [local go_sem] max2_int min2_int max_two min_two max_three min_three max_four min_four   -- for this text's walks alone
set_option linter.unusedVariables false
set_option linter.unusedSimpArgs false
end Go.Proofs.YtioehkeocddniaaDoor.PA
namespace Go.Proofs.YtioehkeocddniaaDoor.PA
open Go.RowKit Go.Proofs.YtioehkeocddniaaDoorW.PrintWords Go.Proofs.YtioehkeocddniaaDoorW.PrintLast Go.Proofs.YtioehkeocddniaaDoorW.PrintMore
attribute [local go_sem] max2_int min2_int max_two min_two max_three min_three max_four min_four
set_option linter.unusedVariables false
set_option linter.unusedSimpArgs false
theorem extract_le (s : ByteArray) (a b : Nat) : (s.extract a b).size ≤ s.size := by
 rw [ByteArray.size_extract]
 omega
end Go.Proofs.YtioehkeocddniaaDoor.PA
namespace Go.Proofs.YtioehkeocddniaaDoor.PA
open Go.RowKit Go.Proofs.YtioehkeocddniaaDoorW.PrintWords Go.Proofs.YtioehkeocddniaaDoorW.PrintLast Go.Proofs.YtioehkeocddniaaDoorW.PrintMore
attribute [local go_sem] max2_int min2_int max_two min_two max_three min_three max_four min_four   -- for this text's walks alone
set_option linter.unusedVariables false
set_option linter.unusedSimpArgs false
end Go.Proofs.YtioehkeocddniaaDoor.PA
namespace Go.Proofs.YtioehkeocddniaaDoor.PA
open Go.RowKit Go.Proofs.YtioehkeocddniaaDoorW.PrintWords Go.Proofs.YtioehkeocddniaaDoorW.PrintLast Go.Proofs.YtioehkeocddniaaDoorW.PrintMore
attribute [local go_sem] max2_int min2_int max_two min_two max_three min_three max_four min_four
set_option linter.unusedVariables false
set_option linter.unusedSimpArgs false
end Go.Proofs.YtioehkeocddniaaDoor.PA
namespace Go.Proofs.YtioehkeocddniaaDoor.PA
open Go.RowKit Go.Proofs.YtioehkeocddniaaDoorW.PrintWords Go.Proofs.YtioehkeocddniaaDoorW.PrintLast Go.Proofs.YtioehkeocddniaaDoorW.PrintMore
attribute [local go_sem] max2_int min2_int max_two min_two max_three min_three max_four min_four   -- for this text's walks alone
set_option linter.unusedVariables false
set_option linter.unusedSimpArgs false
end Go.Proofs.YtioehkeocddniaaDoor.PA
namespace Go.Proofs.YtioehkeocddniaaDoor.PA
open Go.RowKit Go.Proofs.YtioehkeocddniaaDoorW.PrintWords Go.Proofs.YtioehkeocddniaaDoorW.PrintLast Go.Proofs.YtioehkeocddniaaDoorW.PrintMore
attribute [local go_sem] max2_int min2_int max_two min_two max_three min_three max_four min_four   -- for this text's walks alone
set_option linter.unusedVariables false
set_option linter.unusedSimpArgs false
end Go.Proofs.YtioehkeocddniaaDoor.PA
namespace Go.Proofs.YtioehkeocddniaaDoor.PA
open Go.RowKit Go.Proofs.YtioehkeocddniaaDoorW.PrintWords Go.Proofs.YtioehkeocddniaaDoorW.PrintLast Go.Proofs.YtioehkeocddniaaDoorW.PrintMore
attribute [local go_sem] max2_int min2_int max_two min_two max_three min_three max_four min_four   -- for this text's walks alone
set_option linter.unusedVariables false
set_option linter.unusedSimpArgs false
end Go.Proofs.YtioehkeocddniaaDoor.PA
namespace Go.Proofs.YtioehkeocddniaaDoor.PA
open Go.RowKit Go.Proofs.YtioehkeocddniaaDoorW.PrintWords Go.Proofs.YtioehkeocddniaaDoorW.PrintLast Go.Proofs.YtioehkeocddniaaDoorW.PrintMore
attribute [local go_sem] max2_int min2_int max_two min_two max_three min_three max_four min_four   -- for this text's walks alone
set_option linter.unusedVariables false
set_option linter.unusedSimpArgs false
end Go.Proofs.YtioehkeocddniaaDoor.PA
namespace Go.Proofs.YtioehkeocddniaaDoor.PA
open Go.RowKit Go.Proofs.YtioehkeocddniaaDoorW.PrintWords Go.Proofs.YtioehkeocddniaaDoorW.PrintLast Go.Proofs.YtioehkeocddniaaDoorW.PrintMore
attribute [local go_sem] max2_int min2_int max_two min_two max_three min_three max_four min_four
set_option linter.unusedVariables false
set_option linter.unusedSimpArgs false
theorem idx_step (s : ByteArray) (c : UInt8) (j : Nat) (h : j < s.size) : (0 ≤ Lib.indexByte (s.data.toList.drop j) c) ↔ (bt s (j : Int) = (c.toNat : Int) ∨ 0 ≤ Lib.indexByte (s.data.toList.drop (j + 1)) c) := by
 have hl : j < s.data.toList.length := by rw [Array.length_toList]; exact h
 rw [List.drop_eq_getElem_cons hl]
 have eb : bt s (j : Int) = ((s.data.toList[j]'hl).toNat : Int) := by
  rw [bt, dif_pos (by simpa using h)]
  simp
  rfl
 rw [eb]
 generalize s.data.toList[j]'hl = b
 have hg := index_ge c (s.data.toList.drop (j + 1))
 by_cases hb : b = c
 ·subst hb
  simp [Lib.indexByte]
 ·have hn : ¬ (b.toNat : Int) = (c.toNat : Int) := fun e => hb (UInt8.toNat_inj.1 (by omega))
  have e : Lib.indexByte (b :: s.data.toList.drop (j + 1)) c = if Lib.indexByte (s.data.toList.drop (j + 1)) c == -1 then -1 else Lib.indexByte (s.data.toList.drop (j + 1)) c + 1 := by
   rw [Lib.indexByte, if_neg (by simpa using hb)]
  rw [e]
  generalize Lib.indexByte (s.data.toList.drop (j + 1)) c = x at *
  by_cases hx : x = -1
  ·subst hx
   constructor
   ·intro h; exact absurd h (by decide)
   ·rintro (h | h)
    ·exact absurd h hn
    ·exact absurd h (by decide)
  ·rw [if_neg (show ¬ (x == -1) = true by simpa using hx)]
   constructor
   ·intro _; exact .inr (by omega)
   ·intro _; omega
def matB (x : S24) (p : ByteArray) (dir : Bool) : Bool :=
 if chkR x = 0 then if p.size = 0 then false else if rightB p = true then if (x.f2 && !dir) = true then false else
  if (hasB x.f1 47 || x.f3) = true then mO (patO x.f1) p else mO (patO x.f1) (baseB p)
 else false else false
theorem matB_intro (x : S24) (p : ByteArray) (dir : Bool) : matB x p dir = if chkI x.f0 x.f1 = 0 then if p.size = 0 then false else if rightB p = true then if (x.f2 && !dir) = true then false else if (hasB x.f1 47 || x.f3) = true then mO (patO x.f1) p else mO (patO x.f1) (baseB p) else false else false := rfl
theorem matches_e (x : S24) (p : ByteArray) (dir : Bool) (hx : x.f1.size ≤ 9223372036854775807) (hp : p.size = 0) (k : Nat) (hk : 1 ≤ k) : rules_Matches.f k x.f0 x.f1 x.f2 x.f3 p dir = some false := by
 obtain ⟨k, rfl⟩ : ∃ j, k = j + 1 := ⟨k - 1, by omega⟩
 have jt : rules_Matches.j0 (k + 1) p true x.f0 x.f1 x.f2 x.f3 = some false := by rw [rules_Matches.j0, if_pos rfl]
 unfold rules_Matches.f
 rw [check_f _ _ _ _ hx, Option.bind_some]
 by_cases hc : chkI x.f0 x.f1 = 0
 ·rw [if_pos hc, if_pos ((size_tl p).2 hp), jt]
 ·rw [if_neg hc, jt]
theorem matches_f (x : S24) (p : ByteArray) (dir : Bool) (hx : x.f1.size < 1000000) (hp : p.size < 1000000) (k : Nat) (hk : 1048590 ≤ k) : rules_Matches.f k x.f0 x.f1 x.f2 x.f3 p dir = some (matB x p dir) := by
 obtain ⟨k, rfl⟩ : ∃ j, k = j + 2 := ⟨k - 2, by omega⟩
 have hsm : sml p := by unfold sml; omega
 have jt : rules_Matches.j0 (k + 2) p true x.f0 x.f1 x.f2 x.f3 = some false := by rw [rules_Matches.j0, if_pos rfl]
 have j1t : ∀ b, rules_Matches.j1 (k + 1) p b x.f0 x.f1 x.f2 x.f3 = some (if b = true then mO (patO x.f1) p else mO (patO x.f1) (baseB p)) := fun b => by
  rw [rules_Matches.j1]
  cases b with
  | true => rw [if_pos rfl, if_pos rfl, glob_Match.f, if_pos ⟨hx, hp⟩, Option.bind_some]
  | false =>
   have hb : (baseB p).size < 1000000 := by
    have : (baseB p).size ≤ p.size := extract_le p _ _
    omega
   rw [if_neg (by decide), if_neg (by decide), base_f p hsm k (by omega), Option.bind_some, glob_Match.f, if_pos ⟨hx, hb⟩, Option.bind_some]
 have jf : rules_Matches.j0 (k + 2) p false x.f0 x.f1 x.f2 x.f3 = some (if (hasB x.f1 47 || x.f3) = true then mO (patO x.f1) p else mO (patO x.f1) (baseB p)) := by
  rw [rules_Matches.j0, if_neg (by decide)]
  cases h3 : x.f3 with
  | true =>
   rw [if_pos rfl]
   have := j1t true
   rw [h3] at this
   rw [this, Bool.or_true]
  | false =>
   rw [if_neg (by decide), strings_Contains.f, if_pos (show (⟨#[47]⟩ : ByteArray).size = 1 from rfl), Option.bind_some]
   have := j1t (hasB x.f1 ((⟨#[47]⟩ : ByteArray).data.toList.headD 0))
   rw [h3] at this
   rw [this, Bool.or_false]
   rfl
 unfold rules_Matches.f
 rw [check_f _ _ _ _ (by omega), Option.bind_some, matB_intro]
 by_cases hc : chkI x.f0 x.f1 = 0
 ·rw [if_pos hc, if_pos hc]
  by_cases h0 : p.size = 0
  ·rw [if_pos ((size_tl p).2 h0), jt, if_pos h0]
  ·rw [if_neg (fun e => h0 ((size_tl p).1 e)), if_neg h0, right_f p (by omega) (k + 2) (by omega), Option.bind_some]
   by_cases hr : rightB p = true
   ·rw [if_pos hr, if_pos hr]
    cases h2 : x.f2 with
    | true =>
     rw [if_pos rfl]
     cases dir with
     | true =>
      rw [h2] at jf
      exact jf
     | false =>
      rw [h2] at jt
      exact jt
    | false =>
     rw [h2] at jf
     rw [if_neg (by decide), jf]
     rfl
   ·rw [if_neg hr, jt, if_neg hr]
 ·rw [if_neg hc, jt, if_neg hc]
theorem mat_act (x : S24) (p : ByteArray) (dir : Bool) (h : matB x p dir = true) : 1 ≤ x.f0 ∧ x.f0 ≤ 4 := by
 rw [matB_intro] at h
 by_cases hc : chkI x.f0 x.f1 = 0
 ·unfold chkI at hc
  by_cases ha : actB x.f0 = 0
  ·rw [if_pos ha] at hc
   exact absurd hc (by decide)
  ·unfold actB at ha
   by_cases h1 : x.f0 = 1
   ·omega
   ·by_cases h2 : x.f0 = 2
    ·omega
    ·by_cases h3 : x.f0 = 3
     ·omega
     ·by_cases h4 : x.f0 = 4
      ·omega
      ·rw [if_neg h1, if_neg h2, if_neg h3, if_neg h4] at ha
       exact absurd rfl ha
 ·rw [if_neg hc] at h
  cases h
def actR : List S24 → ByteArray → Bool → Bool → Int
 | [], _, _, _ => 0
 | x :: l, p, dir, drop => if (matB x p dir && (drop || decide (x.f0 < 3))) = true then x.f0 else actR l p dir drop
theorem actR_nil (p : ByteArray) (dir drop : Bool) : actR [] p dir drop = 0 := rfl
theorem actR_cons (x : S24) (l : List S24) (p : ByteArray) (dir drop : Bool) : actR (x :: l) p dir drop = if (matB x p dir && (drop || decide (x.f0 < 3))) = true then x.f0 else actR l p dir drop := rfl
theorem drop_i {α : Type} (L : List α) (i : Nat) (h : i < L.length) : L.drop i = L[i] :: L.drop (i + 1) := List.drop_eq_getElem_cons h
theorem act_l (L : List S24) (p : ByteArray) (dir drop : Bool) (hL : ∀ x ∈ L, x.f1.size < 1000000) (hp : p.size < 1000000) (hn : L.length < 1000000) : ∀ (m i k : Nat), L.length - i = m → i ≤ L.length → m + 1048600 ≤ k → rules_Act.l0 k p dir drop L (L.length : Int) (i : Int) = some (actR (L.drop i) p dir drop) := by
 intro m
 induction m with
 | zero =>
  intro i k hm hi hk
  obtain ⟨k, rfl⟩ : ∃ j, k = j + 1 := ⟨k - 1, by omega⟩
  obtain rfl : i = L.length := by omega
  rw [rules_Act.l0, if_neg (by omega), List.drop_length]
  rfl
 | succ m ih =>
  intro i k hm hi hk
  obtain ⟨k, rfl⟩ : ∃ j, k = j + 1 := ⟨k - 1, by omega⟩
  have hlt : i < L.length := by omega
  have e1 : wrap64 ((i : Int) + 1) = ((i + 1 : Nat) : Int) := by rw [wr64 _ (by omega) (by omega)]; rfl
  have hx : (L[i]).f1.size < 1000000 := hL _ (List.getElem_mem hlt)
  have hih := ih (i + 1) k (by omega) (by omega) (by omega)
  have hm := matches_f (L[i]) p dir hx hp k (by omega)
  have ha := mat_act (L[i]) p dir
  rw [rules_Act.l0, if_pos (by omega), if_pos (by omega), if_pos (by omega), rd24_get L i hlt, e1, hih, drop_i L i hlt, actR_cons, hm]
  simp only [Option.bind_some]
  cases drop with
  | true =>
   rw [if_pos rfl, Bool.true_or, Bool.and_true]
   by_cases h : matB (L[i]) p dir = true
   ·rw [if_pos h, if_pos h]
   ·rw [if_neg h, if_neg h]
  | false =>
   rw [if_neg (by decide), Bool.false_or]
   by_cases h : matB (L[i]) p dir = true
   ·have hr := ha h
    rw [if_pos h, h, Bool.true_and]
    by_cases h1 : (L[i]).f0 = 1
    ·rw [if_pos h1, decide_eq_true (by omega), if_pos rfl]
    ·rw [if_neg h1]
     by_cases h2 : (L[i]).f0 = 2
     ·rw [if_pos h2, decide_eq_true (by omega), if_pos rfl]
     ·rw [if_neg h2, decide_eq_false (by omega), if_neg (by decide)]
   ·have hf : matB (L[i]) p dir = false := by simpa using h
    rw [if_neg h, hf, Bool.false_and, if_neg (show ¬ (false = true) by decide)]
    by_cases h1 : (L[i]).f0 = 1
    ·rw [if_pos h1]
    ·rw [if_neg h1]
     by_cases h2 : (L[i]).f0 = 2
     ·rw [if_pos h2]
     ·rw [if_neg h2]
theorem act_f (L : List S24) (p : ByteArray) (dir drop : Bool) (hL : ∀ x ∈ L, x.f1.size < 1000000) (hp : p.size < 1000000) (hn : L.length < 1000000) (k : Nat) (hk : 2048600 ≤ k) : rules_Act.f k L p dir drop = some (actR L p dir drop) :=
 act_l L p dir drop hL hp hn L.length 0 k (by omega) (by omega) (by omega)
theorem safe_f (L : List S24) (p : ByteArray) (dir : Bool) (hL : ∀ x ∈ L, x.f1.size < 1000000) (hp : p.size < 1000000) (hn : L.length < 1000000) (k : Nat) (hk : 2048600 ≤ k) : rules_Safe.f k L p dir = some (actR L p dir true == 3) := by
 unfold rules_Safe.f
 rw [act_f L p dir true hL hp hn k hk, Option.bind_some]
def hidR : Nat → List S24 → ByteArray → Bool → Bool
 | 0, _, _, _ => false
 | n + 1, L, p, dir => if p.size = 0 then false else if actR L p dir false = 2 then true else hidR n L (parB p) true
theorem parB_lt (p : ByteArray) (h : p.size ≠ 0) : (parB p).size < p.size := by
 have h1 := splitTo_le p p.size
 unfold parB
 rw [ByteArray.size_extract]
 omega
theorem hidR_fuel (L : List S24) : ∀ (n m : Nat) (p : ByteArray) (dir : Bool), p.size < n → p.size < m → hidR n L p dir = hidR m L p dir := by
 intro n
 induction n with
 | zero => intro m p dir h; omega
 | succ n ih =>
  intro m p dir h h2
  obtain ⟨m, rfl⟩ : ∃ j, m = j + 1 := ⟨m - 1, by omega⟩
  unfold hidR
  by_cases h0 : p.size = 0
  ·rw [if_pos h0, if_pos h0]
  ·have := parB_lt p h0
   rw [if_neg h0, if_neg h0, ih m (parB p) true (by omega) (by omega)]
theorem hidden_l (L : List S24) (hL : ∀ x ∈ L, x.f1.size < 1000000) (hn : L.length < 1000000) : ∀ (n : Nat) (p : ByteArray) (dir : Bool) (k : Nat), p.size < n → p.size < 1000000 → n + 2048600 ≤ k → rules_Hidden.l0 k L p dir = some (hidR n L p dir) := by
 intro n
 induction n with
 | zero => intro p dir k h; omega
 | succ n ih =>
  intro p dir k h hp hk
  obtain ⟨k, rfl⟩ : ∃ j, k = j + 1 := ⟨k - 1, by omega⟩
  rw [rules_Hidden.l0]
  unfold hidR
  by_cases h0 : p.size = 0
  ·rw [if_pos ((size_tl p).2 h0), if_pos h0]
  ·have hlt := parB_lt p h0
   rw [if_neg (fun e => h0 ((size_tl p).1 e)), if_neg h0, act_f L p dir false hL hp hn k (by omega), Option.bind_some]
   by_cases h2 : actR L p dir false = 2
   ·rw [if_pos h2, if_pos h2]
   ·rw [if_neg h2, if_neg h2, parent_f p (by unfold sml; omega) k (by omega), Option.bind_some]
    exact ih (parB p) true k (by omega) (by omega) (by omega)
theorem hidden_f (L : List S24) (hL : ∀ x ∈ L, x.f1.size < 1000000) (hn : L.length < 1000000) (p : ByteArray) (dir : Bool) (hp : p.size < 1000) (k : Nat) (hk : 2050000 ≤ k) : rules_Hidden.f k L p dir = some (rightB p && hidR 1000 L p dir) := by
 unfold rules_Hidden.f
 rw [right_f p (by omega) k (by omega), Option.bind_some]
 by_cases h : rightB p = true
 ·rw [if_pos h, hidden_l L hL hn 1000 p dir k hp (by omega) (by omega), h, Bool.true_and]
 ·have hf : rightB p = false := by simpa using h
  rw [if_neg h, hf, Bool.false_and]
end Go.Proofs.YtioehkeocddniaaDoor.PA
