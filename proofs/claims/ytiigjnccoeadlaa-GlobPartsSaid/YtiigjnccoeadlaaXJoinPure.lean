/- Plain: two patterns, one behind the other. -/
import Derived.Test.YtiigjnccoeadlaaPAx0
import Derived.Test.YtiigjnccoeadlaaXGlobApp
import Derived.Test.YtiigjnccoeadlaaXGlobBase
import Derived.Test.YtiigjnccoeadlaaXGlobSpec
import Derived.Test.YtiigjnccoeadlaaXMatchPure
namespace Go.Proofs.Ytiigjnccoeadlaa.PA
open Go.RowKit Go.Proofs.YtiigjnccoeadlaaW.PrintWords Go.Proofs.YtiigjnccoeadlaaW.PrintLast Go.Proofs.YtiigjnccoeadlaaW.PrintMore
attribute [local go_sem] max2_int min2_int max_two min_two max_three min_three max_four min_four
set_option linter.unusedVariables false
set_option linter.unusedSimpArgs false
theorem mem1_app {l : List Int} {c : Int} {r : List Int} (h : mem1 l = some (c, r)) (m : List Int) : mem1 (l ++ m) = some (c, r ++ m) := by
  cases l with
  | nil => simp [mem1] at h
  | cons a t =>
    unfold mem1 at h
    dsimp only at h
    show (if a = 92 then _ else _) = _
    split at h
    · rename_i ha
      rw [if_pos ha]
      cases t with
      | nil => simp at h
      | cons b t =>
        simp at h
        rw [← h.1, ← h.2]
        rfl
    · rename_i ha
      rw [if_neg ha]
      simp at h
      rw [← h.1, ← h.2]
      rfl
theorem dash_app (l m : List Int) (h : 2 ≤ l.length) : dash (l ++ m) = dash l := by
  match l, h with
  | a :: b :: r, _ => rfl
theorem clsL_short (n : Nat) (x : Int) (s : Nat → Bool) {r : List Int} {s' : Nat → Bool} (hx : x ≠ 93) (h : clsL n [x] s = some (r, s')) : r = [] := by
  cases n with
  | zero => simp [clsL] at h
  | succ n =>
    rw [clsL_eq, if_neg hx] at h
    cases hm : mem1 [x] with
    | none => rw [hm] at h; simp at h
    | some lr =>
      obtain ⟨lo, r1⟩ := lr
      have hl := mem1_len hm
      have : r1 = [] := List.length_eq_zero_iff.1 (by simp only [List.length_singleton] at hl; omega)
      subst this
      rw [hm] at h
      dsimp only at h
      rw [if_neg (by decide)] at h
      cases n with
      | zero => simp [clsL] at h
      | succ n =>
        simp [clsL] at h
        first | exact h.1 | exact h.1.symm
theorem clsL_app (m : List Int) : ∀ (n : Nat) (l : List Int) (s : Nat → Bool) (r : List Int) (s' : Nat → Bool), clsL n l s = some (r, s') → r ≠ [] → clsL (n + m.length) (l ++ m) s = some (r ++ m, s')
  | 0, _, _, _, _, h, _ => by simp [clsL] at h
  | n + 1, [], s, r, s', h, hr => by
    simp [clsL] at h
    exact absurd h.1.symm (by simpa using hr)
  | n + 1, c :: t, s, r, s', h, hr => by
    rw [clsL_eq] at h
    rw [show n + 1 + m.length = (n + m.length) + 1 from by omega, List.cons_append, clsL_eq]
    by_cases hc : c = 93
    · rw [if_pos hc] at h ⊢
      simp only [Option.some.injEq, Prod.mk.injEq] at h
      rw [← h.1, ← h.2]
      rfl
    · rw [if_neg hc] at h ⊢
      cases hm : mem1 (c :: t) with
      | none => rw [hm] at h; simp at h
      | some lr =>
        obtain ⟨lo, r1⟩ := lr
        have hm3 := mem1_app hm m
        rw [List.cons_append] at hm3
        rw [hm] at h
        rw [hm3]
        dsimp only at h ⊢
        by_cases h2 : 2 ≤ r1.length
        · rw [dash_app r1 m h2]
          by_cases hd : dash r1 = true
          · rw [if_pos hd] at h ⊢
            rw [List.drop_append_of_le_length (by omega)]
            cases hm2 : mem1 (r1.drop 1) with
            | none => rw [hm2] at h; simp at h
            | some hr2 =>
              obtain ⟨hi, r2⟩ := hr2
              rw [hm2] at h
              rw [mem1_app hm2 m]
              dsimp only at h ⊢
              by_cases hlt : hi < lo
              · rw [if_pos hlt] at h
                simp at h
              · rw [if_neg hlt] at h ⊢
                exact clsL_app m n r2 _ r s' h hr
          · rw [if_neg hd] at h ⊢
            exact clsL_app m n r1 _ r s' h hr
        · match r1, h2 with
          | [], _ =>
            rw [if_neg (by decide)] at h
            cases n with
            | zero => simp [clsL] at h
            | succ n =>
              simp [clsL] at h
              exact absurd h.1.symm (by simpa using hr)
          | [x], _ =>
            rw [if_neg (by simp [dash])] at h
            by_cases hx : x = 93
            · subst hx
              have e : dash ([93] ++ m) = false := by
                cases m with
                | nil => rfl
                | cons y m => rfl
              rw [if_neg (by rw [e]; decide)]
              exact clsL_app m n [93] _ r s' h hr
            · exact absurd (clsL_short n x _ hx h) hr
          | a :: b :: q, h2 => simp at h2
theorem cls1_app {b : Bool} {l : List Int} {t : Tok} {r : List Int} (h : cls1 b l = some (t, r)) (m : List Int) : cls1 b (l ++ m) = some (t, r ++ m) := by
  cases l with
  | nil => simp [cls1] at h
  | cons c l' =>
    unfold cls1 at h ⊢
    rw [List.cons_append]
    dsimp only at h ⊢
    split at h
    · simp at h
    · rename_i hc
      rw [if_neg hc]
      cases hcl : clsL ((c :: l').length + 1) (c :: l') noS with
      | none => rw [hcl] at h; simp [clsEnd] at h
      | some p =>
        obtain ⟨q, s⟩ := p
        rw [hcl] at h
        cases q with
        | nil => simp [clsEnd] at h
        | cons a q =>
          have := clsL_app m _ _ _ _ _ hcl (by simp)
          rw [List.cons_append] at this
          rw [clsL_fuel _ ((c :: l').length + 1 + m.length) (c :: (l' ++ m)) noS (by simp) (by simp; omega), this]
          simp [clsEnd] at h ⊢
          exact ⟨h.1, by rw [← h.2]⟩
theorem cls0_app {l : List Int} {t : Tok} {r : List Int} (h : cls0 l = some (t, r)) (m : List Int) : cls0 (l ++ m) = some (t, r ++ m) := by
  cases l with
  | nil => simp [cls0] at h
  | cons c l' =>
    unfold cls0 at h ⊢
    rw [List.cons_append]
    dsimp only at h ⊢
    split at h
    · rename_i hc
      rw [if_pos hc]
      exact cls1_app h m
    · rename_i hc
      rw [if_neg hc]
      have := cls1_app h m
      rwa [List.cons_append] at this
theorem sk_app : ∀ (l m : List Int), sk l ≠ [] → sk (l ++ m) = sk l ++ m
  | [], m, h => absurd rfl h
  | c :: r, m, h => by
    rw [List.cons_append]
    unfold sk at h ⊢
    by_cases hc : c = 42
    · rw [if_pos hc] at h ⊢
      rw [if_pos hc]
      exact sk_app r m h
    · rw [if_neg hc, if_neg hc]
      rfl
theorem sk_all : ∀ (l m : List Int), sk l = [] → sk (l ++ m) = sk m
  | [], m, _ => rfl
  | c :: r, m, h => by
    rw [List.cons_append]
    unfold sk at h
    by_cases hc : c = 42
    · rw [if_pos hc] at h
      conv => lhs; unfold sk
      rw [if_pos hc]
      exact sk_all r m h
    · rw [if_neg hc] at h
      cases h
/-- Less fuel told the same. -/
theorem parse_more : ∀ (k n : Nat) (l : List Int) (r : List Tok), k ≤ n → parse k l = some r → parse n l = some r
  | 0, _, _, _, _, h => by simp [parse] at h
  | k + 1, 0, _, _, hk, _ => by omega
  | k + 1, n + 1, [], r, _, h => h
  | k + 1, n + 1, c :: t, r, hk, h => by
    have ih := fun q t r => fun (h : (parse k q).map (t :: ·) = some r) => show (parse n q).map (t :: ·) = some r by
      obtain ⟨l2, h2, rfl⟩ := Option.map_eq_some_iff.1 h
      rw [parse_more k n q l2 (by omega) h2]
      rfl
    rw [parse_eq] at h ⊢
    split at h
    · rename_i hc
      rw [if_pos hc]
      exact ih _ _ _ h
    · rename_i hc
      rw [if_neg hc]
      split at h
      · rename_i hc2
        rw [if_pos hc2]
        exact ih _ _ _ h
      · rename_i hc2
        rw [if_neg hc2]
        split at h
        · rename_i hc3
          rw [if_pos hc3]
          cases h0 : cls0 t with
          | none => rw [h0] at h; simp at h
          | some tr =>
            rw [h0] at h
            exact ih _ _ _ h
        · rename_i hc3
          rw [if_neg hc3]
          split at h
          · rename_i hc4
            rw [if_pos hc4]
            cases t with
            | nil => simp at h
            | cons d r' => exact ih _ _ _ h
          · rename_i hc4
            rw [if_neg hc4]
            exact ih _ _ _ h
theorem tok_star2 (p : List Int) : tokM .star2 p := (tokM_star (t := .star2) rfl p).2 (fun _ _ => rfl)
/-- What parses, one behind the other, parses, and matches at least so much. -/
theorem parse_join (L1 : List Int) (n1 : Nat) (l1 : List Tok) (h1 : parse n1 L1 = some l1) : ∀ (n : Nat) (L0 : List Int) (l0 : List Tok), parse n L0 = some l0 → ∃ l k, parse k (L0 ++ L1) = some l ∧ ∀ a b, Mp l0 a → Mp l1 b → Mp l (a ++ b)
  | 0, _, _, h => by simp [parse] at h
  | n + 1, [], l0, h => by
    simp [parse] at h
    subst h
    refine ⟨l1, n1, h1, fun a b ha hb => ?_⟩
    have ha : a = [] := ha
    subst ha
    exact hb
  | n + 1, c :: r, l0, h => by
    have key : ∀ (q : List Int) (t : Tok), (parse n q).map (t :: ·) = some l0 → ∃ l k, parse k (q ++ L1) = some l ∧ ∀ a b, Mp l0 a → Mp l1 b → Mp (t :: l) (a ++ b) := fun q t hp => by
      obtain ⟨l2, h2, rfl⟩ := Option.map_eq_some_iff.1 hp
      obtain ⟨l, k, hk, hm⟩ := parse_join L1 n1 l1 h1 n q l2 h2
      refine ⟨l, k, hk, fun a b ha hb => ?_⟩
      obtain ⟨x, y, rfl, hx, hy⟩ := ha
      exact ⟨x, y ++ b, by rw [List.append_assoc], hx, hm y b hy hb⟩
    rw [parse_eq] at h
    rw [List.cons_append]
    split at h
    · rename_i hc
      by_cases hsk : sk r = []
      · rw [hsk] at h
        have hn : ∃ n2, n = n2 + 1 := by
          cases n with
          | zero => simp [parse] at h
          | succ n2 => exact ⟨n2, rfl⟩
        obtain ⟨n2, rfl⟩ := hn
        simp only [parse, Option.map_some, Option.some.injEq] at h
        subst h
        -- the stars go on into the second pattern, or end there
        have hsk2 := sk_all r L1 hsk
        by_cases hst : ∃ r1, L1 = 42 :: r1
        · obtain ⟨r1, rfl⟩ := hst
          cases n1 with
          | zero => simp [parse] at h1
          | succ n1 =>
            rw [parse_eq, if_pos rfl] at h1
            obtain ⟨l2, h2, rfl⟩ := Option.map_eq_some_iff.1 h1
            have e : sk (42 :: r1) = sk r1 := by
              conv => lhs; unfold sk
              rw [if_pos rfl]
            have hl := sk_len r1
            refine ⟨.star2 :: l2, n1 + 1, ?_, fun a b ha hb => ?_⟩
            · rw [parse_eq, if_pos hc, hsk2, e, if_pos (by simp; omega), h2]
              rfl
            · obtain ⟨x, y, rfl, hx, hy⟩ := ha
              have hy : y = [] := hy
              subst hy
              obtain ⟨u, v, rfl, hu, hv⟩ := hb
              exact ⟨x ++ [] ++ u, v, by simp, tok_star2 _, hv⟩
        · have e : sk L1 = L1 := by
            cases L1 with
            | nil => rfl
            | cons d r1 =>
              unfold sk
              rw [if_neg (fun hd => hst ⟨r1, by rw [hd]⟩)]
          refine ⟨(if ([] : List Int).length < r.length then Tok.star2 else Tok.star) :: l1, n1 + 1, ?_, fun a b ha hb => ?_⟩
          · rw [parse_eq, if_pos hc, hsk2, e, h1, Option.map_some]
            congr 2
            have : (L1.length < (r ++ L1).length) = (([] : List Int).length < r.length) := by
              apply propext
              simp only [List.length_append, List.length_nil]
              omega
            simp only [this]
          · obtain ⟨x, y, rfl, hx, hy⟩ := ha
            have hy : y = [] := hy
            subst hy
            exact ⟨x, b, by simp, hx, hb⟩
      · obtain ⟨l, k, hk, hm⟩ := key _ _ h
        refine ⟨_, k + 1, ?_, hm⟩
        rw [parse_eq, if_pos hc, sk_app r L1 hsk, hk, Option.map_some]
        congr 2
        have : ((sk r ++ L1).length < (r ++ L1).length) = ((sk r).length < r.length) := by
          apply propext
          simp only [List.length_append]
          omega
        simp only [this]
    · rename_i hc
      split at h
      · rename_i hc2
        obtain ⟨l, k, hk, hm⟩ := key _ _ h
        exact ⟨_, k + 1, by rw [parse_eq, if_neg hc, if_pos hc2, hk]; rfl, hm⟩
      · rename_i hc2
        split at h
        · rename_i hc3
          cases h0 : cls0 r with
          | none => rw [h0] at h; simp at h
          | some tr =>
            rw [h0] at h
            obtain ⟨l, k, hk, hm⟩ := key _ _ h
            exact ⟨_, k + 1, by rw [parse_eq, if_neg hc, if_neg hc2, if_pos hc3, cls0_app h0 L1]; dsimp only; rw [hk]; rfl, hm⟩
        · rename_i hc3
          split at h
          · rename_i hc4
            cases r with
            | nil => simp at h
            | cons d r' =>
              obtain ⟨l, k, hk, hm⟩ := key _ _ h
              exact ⟨_, k + 1, by rw [parse_eq, if_neg hc, if_neg hc2, if_neg hc3, if_pos hc4, List.cons_append]; dsimp only; rw [hk]; rfl, hm⟩
          · rename_i hc4
            obtain ⟨l, k, hk, hm⟩ := key _ _ h
            exact ⟨_, k + 1, by rw [parse_eq, if_neg hc, if_neg hc2, if_neg hc3, if_neg hc4, hk]; rfl, hm⟩
end Go.Proofs.Ytiigjnccoeadlaa.PA
