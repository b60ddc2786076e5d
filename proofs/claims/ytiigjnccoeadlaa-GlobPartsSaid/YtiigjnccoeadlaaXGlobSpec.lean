/- Plain: what a pattern's signs are, over lists of bytes; members of classes by position. -/
import Derived.IntWalk
import Derived.Test.YtiigjnccoeadlaaPAfglobmember
import Derived.Test.YtiigjnccoeadlaaPAfremoraref14member
import Derived.Test.YtiigjnccoeadlaaPAx0
import Derived.Test.YtiigjnccoeadlaaXGlobBase
namespace Go.Proofs.Ytiigjnccoeadlaa.PA
open Go.RowKit Go.Proofs.YtiigjnccoeadlaaW.PrintWords Go.Proofs.YtiigjnccoeadlaaW.PrintLast Go.Proofs.YtiigjnccoeadlaaW.PrintMore
attribute [local go_sem] max2_int min2_int max_two min_two max_three min_three max_four min_four
set_option linter.unusedVariables false
set_option linter.unusedSimpArgs false
def gL (s : ByteArray) : List Int := bytesOf s
theorem gl_len (s : ByteArray) : (gL s).length = s.size := by
  rw [gL, bytesOf_length]
theorem gl_get (s : ByteArray) (i : Nat) (h : i < s.size) : (gL s)[i]? = some (bt s (i : Int)) := by
  rw [bt, dif_pos (by simpa using h)]
  simp [gL, bytesOf, h]
  rfl
def dropL (s : ByteArray) (i : Nat) : List Int := (gL s).drop i
theorem dropL_len (s : ByteArray) (i : Nat) : (dropL s i).length = s.size - i := by rw [dropL, List.length_drop, gl_len]
theorem gl_drop (s : ByteArray) (i : Nat) (h : i < s.size) : dropL s i = bt s (i : Int) :: dropL s (i + 1) := by
  unfold dropL
  have h1 := gl_get s i h
  obtain ⟨hl, hg⟩ := List.getElem?_eq_some_iff.1 h1
  rw [List.drop_eq_getElem_cons hl, hg]
theorem gl_end (s : ByteArray) (i : Nat) (h : s.size ≤ i) : dropL s i = [] := List.drop_eq_nil_of_le (by rw [gl_len]; exact h)
theorem bt_range (s : ByteArray) (i : Int) : 0 ≤ bt s i ∧ bt s i < 256 := by
  unfold bt
  split
  · have := (s[i.toNat]'(by assumption)).toNat_lt
    omega
  · omega
/-- A byte within a class. -/
def mem1 : List Int → Option (Int × List Int)
  | [] => none
  | c :: r => if c = 92 then (match r with | [] => none | d :: r' => some (d, r')) else some (c, r)
def dash : List Int → Bool
  | a :: d :: _ => a == 45 && d != 93
  | _ => false
def rngS (s : Nat → Bool) (lo hi : Int) : Nat → Bool := fun i => (decide (lo ≤ (i : Int)) && decide ((i : Int) ≤ hi)) || s i
def clsL : Nat → List Int → (Nat → Bool) → Option (List Int × (Nat → Bool))
  | 0, _, _ => none
  | _ + 1, [], s => some ([], s)
  | n + 1, c :: r, s => if c = 93 then some (c :: r, s) else
    match mem1 (c :: r) with
    | none => none
    | some lr => if dash lr.2 = true then (match mem1 (lr.2.drop 1) with | none => none | some hr => if hr.1 < lr.1 then none else clsL n hr.2 (rngS s lr.1 hr.1)) else clsL n lr.2 (rngS s lr.1 lr.1)
def clsEnd (nt : Bool) : Option (List Int × (Nat → Bool)) → Option (Tok × List Int)
  | none => none
  | some ([], _) => none
  | some (_ :: q, s) => some (.cls nt s, q)
def cls1 (nt : Bool) (l : List Int) : Option (Tok × List Int) :=
  match l with
  | [] => none
  | c :: r => if c = 93 then none else clsEnd nt (clsL (l.length + 1) l noS)
def cls0 (l : List Int) : Option (Tok × List Int) :=
  match l with
  | [] => none
  | c :: r => if c = 33 then cls1 true r else cls1 false (c :: r)
theorem clsL_eq (n : Nat) (c : Int) (r : List Int) (s : Nat → Bool) : clsL (n + 1) (c :: r) s = (if c = 93 then some (c :: r, s) else
    match mem1 (c :: r) with
    | none => none
    | some lr => if dash lr.2 = true then (match mem1 (lr.2.drop 1) with | none => none | some hr => if hr.1 < lr.1 then none else clsL n hr.2 (rngS s lr.1 hr.1)) else clsL n lr.2 (rngS s lr.1 lr.1)) := rfl
/-- The stars at the head. -/
def sk : List Int → List Int
  | [] => []
  | c :: r => if c = 42 then sk r else c :: r
def parse : Nat → List Int → Option (List Tok)
  | 0, _ => none
  | _ + 1, [] => some []
  | n + 1, c :: r =>
    if c = 42 then (parse n (sk r)).map ((if (sk r).length < r.length then Tok.star2 else Tok.star) :: ·)
    else if c = 63 then (parse n r).map (Tok.one :: ·)
    else if c = 91 then (match cls0 r with | none => none | some tr => (parse n tr.2).map (tr.1 :: ·))
    else if c = 92 then (match r with | [] => none | d :: r' => (parse n r').map (Tok.lit d :: ·))
    else (parse n r).map (Tok.lit c :: ·)
theorem mem1_at (s : ByteArray) (i : Nat) : (∃ c j, mem1 (dropL s i) = some (c, dropL s j) ∧ i < j ∧ j ≤ s.size ∧ c = bt s ((j - 1 : Nat) : Int)) ∨ mem1 (dropL s i) = none := by
  by_cases h : i < s.size
  · rw [gl_drop s i h]
    unfold mem1
    dsimp only
    by_cases hc : bt s (i : Int) = 92
    · rw [if_pos hc]
      by_cases h2 : i + 1 < s.size
      · rw [gl_drop s (i + 1) h2]
        exact .inl ⟨_, i + 1 + 1, rfl, by omega, by omega, by simp⟩
      · rw [gl_end s (i + 1) (by omega)]
        exact .inr rfl
    · rw [if_neg hc]
      exact .inl ⟨_, i + 1, rfl, by omega, by omega, by simp⟩
  · rw [gl_end s i (by omega)]
    exact .inr rfl
theorem gp0 (x : Int) (h0 : -9223372036854775808 ≤ x) (h1 : x < 9223372036854775808) : wrap64 x = x := by
  unfold wrap64
  omega
theorem gp1 (a : Nat) (n : Nat) (h : a ≤ n) (hn : n < 1000000) : wrap64 ((a : Int) + 1) = ((a + 1 : Nat) : Int) := by
  rw [gp0 _ (by omega) (by omega)]
  omega

theorem member_at (s : ByteArray) (i : Nat) (hs : s.size < 1000000) (hi : i ≤ s.size) : (∃ c j, mem1 (dropL s i) = some (c, dropL s j) ∧ i < j ∧ j ≤ s.size ∧ c = bt s ((j - 1 : Nat) : Int) ∧ glob_member.f 5 s (i : Int) = some (c, (j : Int), true)) ∨ (mem1 (dropL s i) = none ∧ glob_member.f 5 s (i : Int) = some (0, 0, false)) := by
  unfold glob_member.f
  by_cases h : i < s.size
  · rw [if_pos (by omega), if_pos (by omega), gl_drop s i h]
    unfold mem1
    dsimp only
    by_cases hc : bt s (i : Int) = 92
    · rw [if_pos hc, show (bt s (i : Int) == 92) = true from beq_iff_eq.2 hc]
      unfold glob_member.j0
      dsimp only
      rw [if_pos rfl, gp1 i s.size hi hs]
      by_cases h2 : i + 1 < s.size
      · rw [gl_drop s (i + 1) h2, if_neg (by omega), if_pos (by omega), if_pos (by omega), gp1 (i + 1) s.size (by omega) hs]
        exact .inl ⟨_, i + 1 + 1, rfl, by omega, by omega, by simp, rfl⟩
      · rw [gl_end s (i + 1) (by omega), if_pos (by omega)]
        exact .inr ⟨rfl, rfl⟩
    · rw [if_neg hc, show (bt s (i : Int) == 92) = false from beq_eq_false_iff_ne.2 hc]
      unfold glob_member.j0
      dsimp only
      rw [if_neg (by decide), if_neg (by omega), if_pos (by omega), if_pos (by omega), gp1 i s.size hi hs]
      exact .inl ⟨_, i + 1, rfl, by omega, by omega, by simp, rfl⟩
  · rw [if_neg (by omega), gl_end s i (by omega)]
    unfold glob_member.j0
    dsimp only
    rw [if_neg (by decide), if_pos (by omega)]
    exact .inr ⟨rfl, rfl⟩

theorem rmember_at (s : ByteArray) (i : Nat) (hs : s.size < 1000000) (hi : i ≤ s.size) : (∃ c j, mem1 (dropL s i) = some (c, dropL s j) ∧ i < j ∧ j ≤ s.size ∧ c = bt s ((j - 1 : Nat) : Int) ∧ remoraref14_member.f 5 s (i : Int) = some (c, (j : Int), true)) ∨ (mem1 (dropL s i) = none ∧ remoraref14_member.f 5 s (i : Int) = some (0, 0, false)) := by
  unfold remoraref14_member.f
  by_cases h : i < s.size
  · rw [if_pos (by omega), if_pos (by omega), gl_drop s i h]
    unfold mem1
    dsimp only
    by_cases hc : bt s (i : Int) = 92
    · rw [if_pos hc, show (bt s (i : Int) == 92) = true from beq_iff_eq.2 hc]
      unfold remoraref14_member.j0
      dsimp only
      rw [if_pos rfl, gp1 i s.size hi hs]
      by_cases h2 : i + 1 < s.size
      · rw [gl_drop s (i + 1) h2, if_neg (by omega), if_pos (by omega), if_pos (by omega), gp1 (i + 1) s.size (by omega) hs]
        exact .inl ⟨_, i + 1 + 1, rfl, by omega, by omega, by simp, rfl⟩
      · rw [gl_end s (i + 1) (by omega), if_pos (by omega)]
        exact .inr ⟨rfl, rfl⟩
    · rw [if_neg hc, show (bt s (i : Int) == 92) = false from beq_eq_false_iff_ne.2 hc]
      unfold remoraref14_member.j0
      dsimp only
      rw [if_neg (by decide), if_neg (by omega), if_pos (by omega), if_pos (by omega), gp1 i s.size hi hs]
      exact .inl ⟨_, i + 1, rfl, by omega, by omega, by simp, rfl⟩
  · rw [if_neg (by omega), gl_end s i (by omega)]
    unfold remoraref14_member.j0
    dsimp only
    rw [if_neg (by decide), if_pos (by omega)]
    exact .inr ⟨rfl, rfl⟩

theorem mem1_len {l : List Int} {c : Int} {r : List Int} (h : mem1 l = some (c, r)) : r.length < l.length := by
  cases l with
  | nil => simp [mem1] at h
  | cons a t =>
    unfold mem1 at h
    dsimp only at h
    split at h
    · cases t with
      | nil => simp at h
      | cons b t =>
        simp at h
        rw [← h.2]
        simp
        omega
    · simp at h
      rw [← h.2]
      simp
theorem clsL_fuel : ∀ (n m : Nat) (l : List Int) (s : Nat → Bool), l.length < n → l.length < m → clsL n l s = clsL m l s
  | 0, _, _, _, h, _ => absurd h (Nat.not_lt_zero _)
  | _, 0, _, _, _, h => absurd h (Nat.not_lt_zero _)
  | n + 1, m + 1, [], s, _, _ => rfl
  | n + 1, m + 1, c :: r, s, h1, h2 => by
    unfold clsL
    by_cases hc : c = 93
    · rw [if_pos hc, if_pos hc]
    · rw [if_neg hc, if_neg hc]
      cases hm : mem1 (c :: r) with
      | none => rfl
      | some lr =>
        obtain ⟨lo, r1⟩ := lr
        have hl := mem1_len hm
        simp only [List.length_cons] at hl h1 h2
        dsimp only
        by_cases hd : dash r1 = true
        · rw [if_pos hd, if_pos hd]
          cases hm2 : mem1 (r1.drop 1) with
          | none => rfl
          | some hr =>
            obtain ⟨hi, r2⟩ := hr
            have hl2 := mem1_len hm2
            rw [List.length_drop] at hl2
            dsimp only
            by_cases hlt : hi < lo
            · rw [if_pos hlt, if_pos hlt]
            · rw [if_neg hlt, if_neg hlt]
              exact clsL_fuel n m r2 _ (by omega) (by omega)
        · rw [if_neg hd, if_neg hd]
          exact clsL_fuel n m r1 _ (by omega) (by omega)
theorem clsL_rest : ∀ (n : Nat) (l : List Int) (s : Nat → Bool) (r : List Int) (s' : Nat → Bool), clsL n l s = some (r, s') → r.length ≤ l.length
  | 0, _, _, _, _, h => by simp [clsL] at h
  | n + 1, [], s, r, s', h => by
    simp [clsL] at h
    rw [← h.1]
    simp
  | n + 1, c :: t, s, r, s', h => by
    unfold clsL at h
    by_cases hc : c = 93
    · rw [if_pos hc] at h
      simp at h
      rw [← h.1]
      simp
    · rw [if_neg hc] at h
      cases hm : mem1 (c :: t) with
      | none => rw [hm] at h; simp at h
      | some lr =>
        obtain ⟨lo, r1⟩ := lr
        have hl := mem1_len hm
        rw [hm] at h
        dsimp only at h
        by_cases hd : dash r1 = true
        · rw [if_pos hd] at h
          cases hm2 : mem1 (r1.drop 1) with
          | none => rw [hm2] at h; simp at h
          | some hr =>
            obtain ⟨hi, r2⟩ := hr
            have hl2 := mem1_len hm2
            rw [List.length_drop] at hl2
            rw [hm2] at h
            dsimp only at h
            by_cases hlt : hi < lo
            · rw [if_pos hlt] at h
              simp at h
            · rw [if_neg hlt] at h
              have := clsL_rest n r2 _ r s' h
              omega
        · rw [if_neg hd] at h
          have := clsL_rest n r1 _ r s' h
          omega
theorem cls1_len {b : Bool} {l : List Int} {t : Tok} {r : List Int} (h : cls1 b l = some (t, r)) : r.length < l.length := by
  unfold cls1 at h
  cases l with
  | nil => simp at h
  | cons c l' =>
    dsimp only at h
    split at h
    · simp at h
    · cases hc : clsL ((c :: l').length + 1) (c :: l') noS with
      | none => rw [hc] at h; simp [clsEnd] at h
      | some p =>
        obtain ⟨q, s⟩ := p
        rw [hc] at h
        cases q with
        | nil => simp [clsEnd] at h
        | cons a q =>
          simp [clsEnd] at h
          have := clsL_rest _ _ _ _ _ hc
          rw [← h.2]
          simp at this ⊢
          omega
theorem cls0_len {l : List Int} {t : Tok} {r : List Int} (h : cls0 l = some (t, r)) : r.length < l.length := by
  unfold cls0 at h
  cases l with
  | nil => simp at h
  | cons c l' =>
    dsimp only at h
    split at h
    · have := cls1_len h
      simp
      omega
    · exact cls1_len h
theorem sk_len : ∀ l : List Int, (sk l).length ≤ l.length
  | [] => by simp [sk]
  | c :: r => by
    unfold sk
    split
    · have := sk_len r
      simp
      omega
    · exact Nat.le_refl _
theorem parse_fuel : ∀ (n m : Nat) (l : List Int), l.length < n → l.length < m → parse n l = parse m l
  | 0, _, _, h, _ => absurd h (Nat.not_lt_zero _)
  | _, 0, _, _, h => absurd h (Nat.not_lt_zero _)
  | n + 1, m + 1, [], _, _ => rfl
  | n + 1, m + 1, c :: r, h1, h2 => by
    simp only [List.length_cons] at h1 h2
    have ih := fun (q : List Int) (hq : q.length ≤ r.length) => parse_fuel n m q (by omega) (by omega)
    unfold parse
    rw [ih (sk r) (sk_len r), ih r (Nat.le_refl _)]
    cases hc : cls0 r with
    | none => cases r with
      | nil => rfl
      | cons d r' =>
        dsimp only
        rw [ih r' (by simp)]
    | some tr =>
      obtain ⟨t, q⟩ := tr
      have hl := cls0_len hc
      dsimp only
      rw [ih q (by omega)]
      cases r with
      | nil => rfl
      | cons d r' =>
        dsimp only
        rw [ih r' (by simp)]
end Go.Proofs.Ytiigjnccoeadlaa.PA
