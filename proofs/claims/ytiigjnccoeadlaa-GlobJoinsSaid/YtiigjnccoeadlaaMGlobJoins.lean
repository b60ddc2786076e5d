/- GlobJoins: for any two patterns and texts the law returns true and leaves its arguments as they were. No condition. -/
import Derived.Test.YtiigjnccoeadlaaPAx0
import Derived.Test.YtiigjnccoeadlaaXGlobSpec
import Derived.Test.YtiigjnccoeadlaaXHeadBase
import Derived.Test.YtiigjnccoeadlaaXMatchPure
import Derived.Test.YtiigjnccoeadlaaXRMatchW
import Derived.Test.YtiigjnccoeadlaaPAfremoralaw14awake
import Derived.Test.YtiigjnccoeadlaaXglobCheck
import Derived.Test.YtiigjnccoeadlaaXglobMatch
import Derived.Test.YtiigjnccoeadlaaXremoraref14Check
import Derived.Test.YtiigjnccoeadlaaXGlobApp
import Derived.Test.YtiigjnccoeadlaaXGlobBase
import Derived.ProofKit
import Derived.Test.YtiigjnccoeadlaaRows
import Derived.WalkKit
import Derived.Below
import Derived.Carry
import Derived.ChangeOld
import Derived.OpenShut
import Derived.ShutString
import Derived.SizedLaws
import Derived.Test.YtiigjnccoeadlaaXGlobJoinsW
import Derived.Test.YtiigjnccoeadlaaXGlobPure
/-! ### YtiigjnccoeadlaaXremoraref14Match -/
namespace Go.Proofs.Ytiigjnccoeadlaa.PA
open Go.RowKit Go.Proofs.YtiigjnccoeadlaaW.PrintWords Go.Proofs.YtiigjnccoeadlaaW.PrintLast Go.Proofs.YtiigjnccoeadlaaW.PrintMore
attribute [local go_sem] max2_int min2_int max_two min_two max_three min_three max_four min_four
set_option linter.unusedVariables false
set_option linter.unusedSimpArgs false
def remoraref14_Match.f (a0 a1 : ByteArray) : Option Bool := if a0.size < 1000000 ∧ a1.size < 1000000 then some (mO (patO a0) a1) else none
theorem remoraref14_Match.calls (a0 a1 : ByteArray) (r : Bool) (w : World) (h : remoraref14_Match.f a0 a1 = some r) : Calls Try.prog 14 #[.string a0, .string a1] w fun e w' => e = .returned (.bool r) ∧ Below w.heap.size w w' := by
  unfold remoraref14_Match.f at h
  split at h
  · rename_i hs
    obtain rfl := Option.some.inj h
    refine (rmatch_call a0 a1 hs.1 hs.2 w).mono ?_
    rintro e w' ⟨rfl, hb⟩
    refine ⟨?_, hb⟩
    unfold mO patO
    cases (if a0.size ≤ 100 then parse (a0.size + 1) (gL a0) else none) with
    | none => rfl
    | some l =>
      dsimp only
      rw [rowR_mL]
  · cases h
end Go.Proofs.Ytiigjnccoeadlaa.PA
/-! ### YtiigjnccoeadlaaXAwake14 -/
namespace Go.Proofs.Ytiigjnccoeadlaa.PA
open Go.RowKit Go.Proofs.YtiigjnccoeadlaaW.PrintWords Go.Proofs.YtiigjnccoeadlaaW.PrintLast Go.Proofs.YtiigjnccoeadlaaW.PrintMore
attribute [local go_sem] max2_int min2_int max_two min_two max_three min_three max_four min_four
set_option linter.unusedVariables false
set_option linter.unusedSimpArgs false
theorem awake14 : remoralaw14_awake.f = some true := by kernel_rfl
theorem chk_f (s : ByteArray) (h : s.size < 1000000) : glob_Check.f s = some (chkO s) := by rw [glob_Check.f, if_pos h]
theorem rchk_f (s : ByteArray) (h : s.size < 1000000) : remoraref14_Check.f s = some (chkO s) := by rw [remoraref14_Check.f, if_pos h]
theorem mat_f (p s : ByteArray) (h : p.size < 1000000) (h2 : s.size < 1000000) : glob_Match.f p s = some (mO (patO p) s) := by rw [glob_Match.f, if_pos ⟨h, h2⟩]
theorem rmat_f (p s : ByteArray) (h : p.size < 1000000) (h2 : s.size < 1000000) : remoraref14_Match.f p s = some (mO (patO p) s) := by rw [remoraref14_Match.f, if_pos ⟨h, h2⟩]
end Go.Proofs.Ytiigjnccoeadlaa.PA
/-! ### YtiigjnccoeadlaaXJoinPure -/
namespace Go.Proofs.Ytiigjnccoeadlaa.PA
open Go.RowKit Go.Proofs.YtiigjnccoeadlaaW.PrintWords Go.Proofs.YtiigjnccoeadlaaW.PrintLast Go.Proofs.YtiigjnccoeadlaaW.PrintMore
attribute [local go_sem] max2_int min2_int max_two min_two max_three min_three max_four min_four
set_option linter.unusedVariables false
set_option linter.unusedSimpArgs false
theorem mem1_app {l : List Int} {c : Int} {r : List Int} (h : mem1 l = some (c, r)) (m : List Int) : mem1 (l ++ m) = some (c, r ++ m) := by
  cases l with
  | nil => simp [mem1] at h
  | cons a t =>
    unfold mem1 at h
    dsimp only at h
    show (if a = 92 then _ else _) = _
    split at h
    · rename_i ha
      rw [if_pos ha]
      cases t with
      | nil => simp at h
      | cons b t =>
        simp at h
        rw [← h.1, ← h.2]
        rfl
    · rename_i ha
      rw [if_neg ha]
      simp at h
      rw [← h.1, ← h.2]
      rfl
theorem dash_app (l m : List Int) (h : 2 ≤ l.length) : dash (l ++ m) = dash l := by
  match l, h with
  | a :: b :: r, _ => rfl
theorem clsL_short (n : Nat) (x : Int) (s : Nat → Bool) {r : List Int} {s' : Nat → Bool} (hx : x ≠ 93) (h : clsL n [x] s = some (r, s')) : r = [] := by
  cases n with
  | zero => simp [clsL] at h
  | succ n =>
    rw [clsL_eq, if_neg hx] at h
    cases hm : mem1 [x] with
    | none => rw [hm] at h; simp at h
    | some lr =>
      obtain ⟨lo, r1⟩ := lr
      have hl := mem1_len hm
      have : r1 = [] := List.length_eq_zero_iff.1 (by simp only [List.length_singleton] at hl; omega)
      subst this
      rw [hm] at h
      dsimp only at h
      rw [if_neg (by decide)] at h
      cases n with
      | zero => simp [clsL] at h
      | succ n =>
        simp [clsL] at h
        first | exact h.1 | exact h.1.symm
theorem clsL_app (m : List Int) : ∀ (n : Nat) (l : List Int) (s : Nat → Bool) (r : List Int) (s' : Nat → Bool), clsL n l s = some (r, s') → r ≠ [] → clsL (n + m.length) (l ++ m) s = some (r ++ m, s')
  | 0, _, _, _, _, h, _ => by simp [clsL] at h
  | n + 1, [], s, r, s', h, hr => by
    simp [clsL] at h
    exact absurd h.1.symm (by simpa using hr)
  | n + 1, c :: t, s, r, s', h, hr => by
    rw [clsL_eq] at h
    rw [show n + 1 + m.length = (n + m.length) + 1 from by omega, List.cons_append, clsL_eq]
    by_cases hc : c = 93
    · rw [if_pos hc] at h ⊢
      simp only [Option.some.injEq, Prod.mk.injEq] at h
      rw [← h.1, ← h.2]
      rfl
    · rw [if_neg hc] at h ⊢
      cases hm : mem1 (c :: t) with
      | none => rw [hm] at h; simp at h
      | some lr =>
        obtain ⟨lo, r1⟩ := lr
        have hm3 := mem1_app hm m
        rw [List.cons_append] at hm3
        rw [hm] at h
        rw [hm3]
        dsimp only at h ⊢
        by_cases h2 : 2 ≤ r1.length
        · rw [dash_app r1 m h2]
          by_cases hd : dash r1 = true
          · rw [if_pos hd] at h ⊢
            rw [List.drop_append_of_le_length (by omega)]
            cases hm2 : mem1 (r1.drop 1) with
            | none => rw [hm2] at h; simp at h
            | some hr2 =>
              obtain ⟨hi, r2⟩ := hr2
              rw [hm2] at h
              rw [mem1_app hm2 m]
              dsimp only at h ⊢
              by_cases hlt : hi < lo
              · rw [if_pos hlt] at h
                simp at h
              · rw [if_neg hlt] at h ⊢
                exact clsL_app m n r2 _ r s' h hr
          · rw [if_neg hd] at h ⊢
            exact clsL_app m n r1 _ r s' h hr
        · match r1, h2 with
          | [], _ =>
            rw [if_neg (by decide)] at h
            cases n with
            | zero => simp [clsL] at h
            | succ n =>
              simp [clsL] at h
              exact absurd h.1.symm (by simpa using hr)
          | [x], _ =>
            rw [if_neg (by simp [dash])] at h
            by_cases hx : x = 93
            · subst hx
              have e : dash ([93] ++ m) = false := by
                cases m with
                | nil => rfl
                | cons y m => rfl
              rw [if_neg (by rw [e]; decide)]
              exact clsL_app m n [93] _ r s' h hr
            · exact absurd (clsL_short n x _ hx h) hr
          | a :: b :: q, h2 => simp at h2
theorem cls1_app {b : Bool} {l : List Int} {t : Tok} {r : List Int} (h : cls1 b l = some (t, r)) (m : List Int) : cls1 b (l ++ m) = some (t, r ++ m) := by
  cases l with
  | nil => simp [cls1] at h
  | cons c l' =>
    unfold cls1 at h ⊢
    rw [List.cons_append]
    dsimp only at h ⊢
    split at h
    · simp at h
    · rename_i hc
      rw [if_neg hc]
      cases hcl : clsL ((c :: l').length + 1) (c :: l') noS with
      | none => rw [hcl] at h; simp [clsEnd] at h
      | some p =>
        obtain ⟨q, s⟩ := p
        rw [hcl] at h
        cases q with
        | nil => simp [clsEnd] at h
        | cons a q =>
          have := clsL_app m _ _ _ _ _ hcl (by simp)
          rw [List.cons_append] at this
          rw [clsL_fuel _ ((c :: l').length + 1 + m.length) (c :: (l' ++ m)) noS (by simp) (by simp; omega), this]
          simp [clsEnd] at h ⊢
          exact ⟨h.1, by rw [← h.2]⟩
theorem cls0_app {l : List Int} {t : Tok} {r : List Int} (h : cls0 l = some (t, r)) (m : List Int) : cls0 (l ++ m) = some (t, r ++ m) := by
  cases l with
  | nil => simp [cls0] at h
  | cons c l' =>
    unfold cls0 at h ⊢
    rw [List.cons_append]
    dsimp only at h ⊢
    split at h
    · rename_i hc
      rw [if_pos hc]
      exact cls1_app h m
    · rename_i hc
      rw [if_neg hc]
      have := cls1_app h m
      rwa [List.cons_append] at this
theorem sk_app : ∀ (l m : List Int), sk l ≠ [] → sk (l ++ m) = sk l ++ m
  | [], m, h => absurd rfl h
  | c :: r, m, h => by
    rw [List.cons_append]
    unfold sk at h ⊢
    by_cases hc : c = 42
    · rw [if_pos hc] at h ⊢
      rw [if_pos hc]
      exact sk_app r m h
    · rw [if_neg hc, if_neg hc]
      rfl
theorem sk_all : ∀ (l m : List Int), sk l = [] → sk (l ++ m) = sk m
  | [], m, _ => rfl
  | c :: r, m, h => by
    rw [List.cons_append]
    unfold sk at h
    by_cases hc : c = 42
    · rw [if_pos hc] at h
      conv => lhs; unfold sk
      rw [if_pos hc]
      exact sk_all r m h
    · rw [if_neg hc] at h
      cases h
/-- Less fuel told the same. -/
theorem parse_more : ∀ (k n : Nat) (l : List Int) (r : List Tok), k ≤ n → parse k l = some r → parse n l = some r
  | 0, _, _, _, _, h => by simp [parse] at h
  | k + 1, 0, _, _, hk, _ => by omega
  | k + 1, n + 1, [], r, _, h => h
  | k + 1, n + 1, c :: t, r, hk, h => by
    have ih := fun q t r => fun (h : (parse k q).map (t :: ·) = some r) => show (parse n q).map (t :: ·) = some r by
      obtain ⟨l2, h2, rfl⟩ := Option.map_eq_some_iff.1 h
      rw [parse_more k n q l2 (by omega) h2]
      rfl
    rw [parse_eq] at h ⊢
    split at h
    · rename_i hc
      rw [if_pos hc]
      exact ih _ _ _ h
    · rename_i hc
      rw [if_neg hc]
      split at h
      · rename_i hc2
        rw [if_pos hc2]
        exact ih _ _ _ h
      · rename_i hc2
        rw [if_neg hc2]
        split at h
        · rename_i hc3
          rw [if_pos hc3]
          cases h0 : cls0 t with
          | none => rw [h0] at h; simp at h
          | some tr =>
            rw [h0] at h
            exact ih _ _ _ h
        · rename_i hc3
          rw [if_neg hc3]
          split at h
          · rename_i hc4
            rw [if_pos hc4]
            cases t with
            | nil => simp at h
            | cons d r' => exact ih _ _ _ h
          · rename_i hc4
            rw [if_neg hc4]
            exact ih _ _ _ h
theorem tok_star2 (p : List Int) : tokM .star2 p := (tokM_star (t := .star2) rfl p).2 (fun _ _ => rfl)
/-- What parses, one behind the other, parses, and matches at least so much. -/
theorem parse_join (L1 : List Int) (n1 : Nat) (l1 : List Tok) (h1 : parse n1 L1 = some l1) : ∀ (n : Nat) (L0 : List Int) (l0 : List Tok), parse n L0 = some l0 → ∃ l k, parse k (L0 ++ L1) = some l ∧ ∀ a b, Mp l0 a → Mp l1 b → Mp l (a ++ b)
  | 0, _, _, h => by simp [parse] at h
  | n + 1, [], l0, h => by
    simp [parse] at h
    subst h
    refine ⟨l1, n1, h1, fun a b ha hb => ?_⟩
    have ha : a = [] := ha
    subst ha
    exact hb
  | n + 1, c :: r, l0, h => by
    have key : ∀ (q : List Int) (t : Tok), (parse n q).map (t :: ·) = some l0 → ∃ l k, parse k (q ++ L1) = some l ∧ ∀ a b, Mp l0 a → Mp l1 b → Mp (t :: l) (a ++ b) := fun q t hp => by
      obtain ⟨l2, h2, rfl⟩ := Option.map_eq_some_iff.1 hp
      obtain ⟨l, k, hk, hm⟩ := parse_join L1 n1 l1 h1 n q l2 h2
      refine ⟨l, k, hk, fun a b ha hb => ?_⟩
      obtain ⟨x, y, rfl, hx, hy⟩ := ha
      exact ⟨x, y ++ b, by rw [List.append_assoc], hx, hm y b hy hb⟩
    rw [parse_eq] at h
    rw [List.cons_append]
    split at h
    · rename_i hc
      by_cases hsk : sk r = []
      · rw [hsk] at h
        have hn : ∃ n2, n = n2 + 1 := by
          cases n with
          | zero => simp [parse] at h
          | succ n2 => exact ⟨n2, rfl⟩
        obtain ⟨n2, rfl⟩ := hn
        simp only [parse, Option.map_some, Option.some.injEq] at h
        subst h
        -- the stars go on into the second pattern, or end there
        have hsk2 := sk_all r L1 hsk
        by_cases hst : ∃ r1, L1 = 42 :: r1
        · obtain ⟨r1, rfl⟩ := hst
          cases n1 with
          | zero => simp [parse] at h1
          | succ n1 =>
            rw [parse_eq, if_pos rfl] at h1
            obtain ⟨l2, h2, rfl⟩ := Option.map_eq_some_iff.1 h1
            have e : sk (42 :: r1) = sk r1 := by
              conv => lhs; unfold sk
              rw [if_pos rfl]
            have hl := sk_len r1
            refine ⟨.star2 :: l2, n1 + 1, ?_, fun a b ha hb => ?_⟩
            · rw [parse_eq, if_pos hc, hsk2, e, if_pos (by simp; omega), h2]
              rfl
            · obtain ⟨x, y, rfl, hx, hy⟩ := ha
              have hy : y = [] := hy
              subst hy
              obtain ⟨u, v, rfl, hu, hv⟩ := hb
              exact ⟨x ++ [] ++ u, v, by simp, tok_star2 _, hv⟩
        · have e : sk L1 = L1 := by
            cases L1 with
            | nil => rfl
            | cons d r1 =>
              unfold sk
              rw [if_neg (fun hd => hst ⟨r1, by rw [hd]⟩)]
          refine ⟨(if ([] : List Int).length < r.length then Tok.star2 else Tok.star) :: l1, n1 + 1, ?_, fun a b ha hb => ?_⟩
          · rw [parse_eq, if_pos hc, hsk2, e, h1, Option.map_some]
            congr 2
            have : (L1.length < (r ++ L1).length) = (([] : List Int).length < r.length) := by
              apply propext
              simp only [List.length_append, List.length_nil]
              omega
            simp only [this]
          · obtain ⟨x, y, rfl, hx, hy⟩ := ha
            have hy : y = [] := hy
            subst hy
            exact ⟨x, b, by simp, hx, hb⟩
      · obtain ⟨l, k, hk, hm⟩ := key _ _ h
        refine ⟨_, k + 1, ?_, hm⟩
        rw [parse_eq, if_pos hc, sk_app r L1 hsk, hk, Option.map_some]
        congr 2
        have : ((sk r ++ L1).length < (r ++ L1).length) = ((sk r).length < r.length) := by
          apply propext
          simp only [List.length_append]
          omega
        simp only [this]
    · rename_i hc
      split at h
      · rename_i hc2
        obtain ⟨l, k, hk, hm⟩ := key _ _ h
        exact ⟨_, k + 1, by rw [parse_eq, if_neg hc, if_pos hc2, hk]; rfl, hm⟩
      · rename_i hc2
        split at h
        · rename_i hc3
          cases h0 : cls0 r with
          | none => rw [h0] at h; simp at h
          | some tr =>
            rw [h0] at h
            obtain ⟨l, k, hk, hm⟩ := key _ _ h
            exact ⟨_, k + 1, by rw [parse_eq, if_neg hc, if_neg hc2, if_pos hc3, cls0_app h0 L1]; dsimp only; rw [hk]; rfl, hm⟩
        · rename_i hc3
          split at h
          · rename_i hc4
            cases r with
            | nil => simp at h
            | cons d r' =>
              obtain ⟨l, k, hk, hm⟩ := key _ _ h
              exact ⟨_, k + 1, by rw [parse_eq, if_neg hc, if_neg hc2, if_neg hc3, if_pos hc4, List.cons_append]; dsimp only; rw [hk]; rfl, hm⟩
          · rename_i hc4
            obtain ⟨l, k, hk, hm⟩ := key _ _ h
            exact ⟨_, k + 1, by rw [parse_eq, if_neg hc, if_neg hc2, if_neg hc3, if_neg hc4, hk]; rfl, hm⟩
end Go.Proofs.Ytiigjnccoeadlaa.PA
/-! ### YtiigjnccoeadlaaXOpn -/
namespace Go.Proofs.Ytiigjnccoeadlaa.PA
open Go.RowKit Go.Proofs.YtiigjnccoeadlaaW.PrintWords Go.Proofs.YtiigjnccoeadlaaW.PrintLast Go.Proofs.YtiigjnccoeadlaaW.PrintMore
attribute [local go_sem] max2_int min2_int max_two min_two max_three min_three max_four min_four
set_option linter.unusedVariables false
set_option linter.unusedSimpArgs false
theorem bulk_pos {H : Type} : ∀ d : DataW H, 1 ≤ Rows.uptoBulk d
  | .lit (.string b) => by simp [Rows.uptoBulk]
  | .lit (.int _ _) => by simp [Rows.uptoBulk]
  | .lit (.bool _) => by simp [Rows.uptoBulk]
  | .lit (.float _ _) => by simp [Rows.uptoBulk]
  | .lit .nil => by simp [Rows.uptoBulk]
  | .nil => by simp [Rows.uptoBulk]
  | .ptr d => by simp [Rows.uptoBulk]
  | .slice _ _ => by simp [Rows.uptoBulk]
  | .agg _ => by simp [Rows.uptoBulk]
  | .iface _ _ => by simp [Rows.uptoBulk]
  | .map _ => by simp [Rows.uptoBulk]
  | .held _ => by simp [Rows.uptoBulk]
theorem bulk_len {H : Type} : ∀ l : List (DataW H), l.length ≤ Rows.uptoBulkAll l
  | [] => by simp [Rows.uptoBulkAll]
  | d :: r => by
    have h1 := bulk_pos d
    have h2 := bulk_len r
    simp only [List.length_cons, Rows.uptoBulkAll]
    omega
theorem bulk_mem {H : Type} : ∀ (l : List (DataW H)) (d : DataW H), d ∈ l → Rows.uptoBulk d ≤ Rows.uptoBulkAll l
  | [], d, h => by simp at h
  | e :: r, d, h => by
    simp only [Rows.uptoBulkAll]
    rcases List.mem_cons.1 h with rfl | h
    · omega
    · have := bulk_mem r d h
      omega
/-- A reading at type t opens into a value of kind d, which is as wf says (of the reading's bulk). -/
structure Opn {α : Type} (P : Program) (t : TypeId) (d : Kd α) (wf : Nat → α → Prop) : Prop where
  sz : d.sz = P.cellsOf t
  mono : ∀ n m a, n ≤ m → wf n a → wf m a
  op : ∀ {H : Type} (enc : TypeId × Value → H) (w : World) (base : Nat) (spare : Nat → Bool) (held : Bool) (fuel : Nat) (cs : List Value) (x : DataW H × List MemPlace), DataW.trod enc P w base spare held fuel t cs = some x → ∃ a, d.K w a cs ∧ wf (Rows.uptoBulk x.1) a
section
variable {P : Program} {t : TypeId}
theorem opn_int {k : IntKind} (ht : P.underlying t = some (.int k)) (hs : P.cellsOf t = 1) : Opn P t (Kd.int k) (fun _ a => (Lit.int k a).wf = true) where
  sz := hs.symm
  mono := fun _ _ _ _ h => h
  op := fun enc w base spare held fuel cs x h => by
    obtain ⟨n, rfl, rfl, hw⟩ := DataW.trod_int ht h
    exact ⟨n, rfl, hw⟩
theorem opn_bool (ht : P.underlying t = some .bool) (hs : P.cellsOf t = 1) : Opn P t Kd.bool (fun _ _ => True) where
  sz := hs.symm
  mono := fun _ _ _ _ h => h
  op := fun enc w base spare held fuel cs x h => by
    obtain ⟨n, rfl, rfl⟩ := DataW.trod_bool ht h
    exact ⟨n, rfl, trivial⟩
theorem opn_string (ht : P.underlying t = some .string) (hs : P.cellsOf t = 1) : Opn P t Kd.string (fun n s => s.size < n ∧ s.size ≤ maxLen) where
  sz := hs.symm
  mono := fun _ _ _ h h' => ⟨Nat.lt_of_lt_of_le h'.1 h, h'.2⟩
  op := fun enc w base spare held fuel cs x h => by
    obtain ⟨s, rfl, rfl, hw⟩ := DataW.trod_string ht h
    refine ⟨s, rfl, ?_, hw⟩
    simp [Rows.uptoBulk]
theorem cells_get {w : World} {base : Nat} {a : Addr} {n : Nat} {cs : List Value} (h : w.cells? base a n = some cs) : cs.length = n ∧ ∀ i u, cs[i]? = some u → w.cell? (a.add i) = some u := by
  unfold World.cells? at h
  split at h
  · refine ⟨by simpa using mapM_some_length h, fun i u hu => ?_⟩
    have hl := mapM_some_length h
    have hi : i < cs.length := (List.getElem?_eq_some_iff.1 hu).1
    have := mapM_some_get h i i (by rw [List.getElem?_range]; simp at hl; omega)
    rw [this, hu]
  · cases h
theorem add_add (a : Addr) (i j : Nat) : (a.add i).add j = a.add (i + j) := by
  unfold Addr.add
  by_cases hi : i = 0 <;> by_cases hj : j = 0 <;> simp [hi, hj, Nat.add_assoc]
theorem opn_slice {α : Type} {e : TypeId} {d : Kd α} {wf : Nat → α → Prop} (ht : P.underlying t = some (.slice e)) (hs : P.cellsOf t = 1) (O : Opn P e d wf) :
    Opn P t (Kd.slice e d) (fun n xs => xs.length < n ∧ ∀ a ∈ xs, wf n a) where
  sz := hs.symm
  mono := fun n m a h h' => ⟨Nat.lt_of_lt_of_le h'.1 h, fun x hx => O.mono n m x h (h'.2 x hx)⟩
  op := fun enc w base spare held fuel cs x h => by
    rcases DataW.trod_slice ht h with ⟨rfl, rfl⟩ | ⟨a, len, cap, elems, rest, n, _, rfl, rfl, hb, hl, hm, hlen, hel, hsp, hns⟩
    · exact ⟨[], ⟨none, 0, rfl, Nat.le_refl _, Kd.C_nil _ _⟩, by simp [Rows.uptoBulk], by simp⟩
    · have each : ∀ i, i < len → ∃ y, elems[i]? = some y ∧ ∃ cs', w.cells? base (a.add (i * P.cellsOf e)) (P.cellsOf e) = some cs' ∧ ∃ v, d.K w v cs' ∧ wf (Rows.uptoBulk y.1) v := by
        intro i hi
        have h1 := hel i hi
        have h2 : elems[i]? = some (elems[i]'(by omega)) := List.getElem?_eq_getElem (by omega)
        rw [h2, Option.bind_eq_some_iff] at h1
        obtain ⟨cs', hc, ht'⟩ := h1
        obtain ⟨v, hv, hw⟩ := O.op enc w base spare held n cs' _ ht'
        exact ⟨_, h2, cs', hc, v, hv, hw⟩
      have ex : ∀ m, m ≤ len → ∃ xs : List α, xs.length = m ∧ ∀ i v, xs[i]? = some v → ∃ y, elems[i]? = some y ∧ ∃ cs', w.cells? base (a.add (i * P.cellsOf e)) (P.cellsOf e) = some cs' ∧ d.K w v cs' ∧ wf (Rows.uptoBulk y.1) v := by
        intro m
        induction m with
        | zero => exact fun _ => ⟨[], rfl, by simp⟩
        | succ m ih =>
          intro hm'
          obtain ⟨xs, hx, hg⟩ := ih (by omega)
          obtain ⟨y, hy, cs', hc, v, hv, hw⟩ := each m (by omega)
          refine ⟨xs ++ [v], by simp [hx], fun i u hu => ?_⟩
          by_cases hi : i < xs.length
          · rw [List.getElem?_append_left hi] at hu
            exact hg i u hu
          · rw [List.getElem?_append_right (by omega)] at hu
            have hi' : i = m := by
              have := (List.getElem?_eq_some_iff.1 hu).1
              simp at this
              omega
            subst hi'
            rw [hx, Nat.sub_self] at hu
            have : v = u := by simpa using hu
            subst this
            exact ⟨y, hy, cs', hc, hv, hw⟩
      obtain ⟨xs, hx, hg⟩ := ex len (Nat.le_refl _)
      have htot : Rows.uptoBulkAll (elems.map (·.1)) + 1 ≤ Rows.uptoBulk (DataW.slice (elems.map (·.1)) (rest.map (·.1))) := by
        simp only [Rows.uptoBulk]
        omega
      refine ⟨xs, ⟨some a, cap, by rw [hx], by omega, ⟨rfl, by unfold maxLen at hm; omega, fun _ => ⟨a, rfl, fun j p hp => ?_⟩⟩⟩, ?_, ?_⟩
      · obtain ⟨y, hy, cs', hc, hk, hw⟩ := hg j p hp
        obtain ⟨g1, g2⟩ := cells_get hc
        refine ⟨cs', by rw [g1, O.sz], hk, fun i u hu => ?_⟩
        have := g2 i u hu
        rw [add_add] at this
        rw [O.sz]
        exact this
      · have h1 := bulk_len (elems.map (·.1))
        simp only [List.length_map, hlen] at h1
        rw [hx]
        exact Nat.lt_of_lt_of_le (Nat.lt_succ_of_le h1) htot
      · intro v hv
        obtain ⟨i, hi⟩ := List.getElem?_of_mem hv
        obtain ⟨y, hy, _, _, _, hw⟩ := hg i v hi
        refine O.mono _ _ _ ?_ hw
        have hmem : y.1 ∈ elems.map (·.1) := List.mem_map_of_mem (List.mem_of_getElem? hy)
        exact Nat.le_trans (bulk_mem _ _ hmem) (Nat.le_of_succ_le htot)
/-- The fields fs of a struct, from cell o on, open into a value of kind d. -/
def OpnF {α : Type} (P : Program) (fs : List Field) (o : Nat) (d : Kd α) (wf : Nat → α → Prop) : Prop :=
  (∀ n m a, n ≤ m → wf n a → wf m a) ∧
  ∀ {H : Type} (enc : TypeId × Value → H) (w : World) (base : Nat) (spare : Nat → Bool) (held : Bool) (fuel : Nat) (cs : List Value) (ys : List (DataW H × List MemPlace)) (N : Nat),
    (∀ (i : Nat) (f : Field), fs[i]? = some f → ∃ y, ys[i]? = some y ∧ Rows.uptoBulk y.1 ≤ N ∧ DataW.trod enc P w base spare held fuel f.type ((cs.drop f.offset).take (P.cellsOf f.type)) = some y) →
    ∃ a, d.K w a ((cs.drop o).take d.sz) ∧ wf N a
theorem opnF_one {α : Type} {d : Kd α} {wf : Nat → α → Prop} {f : Field} {o : Nat} (ho : f.offset = o) (O : Opn P f.type d wf) : OpnF P [f] o d wf := by
  refine ⟨O.mono, fun enc w base spare held fuel cs ys N h => ?_⟩
  obtain ⟨y, hy, hN, ht⟩ := h 0 f rfl
  obtain ⟨a, ha, hw⟩ := O.op enc w base spare held fuel _ y ht
  refine ⟨a, ?_, O.mono _ _ _ hN hw⟩
  rw [O.sz, ← ho]
  exact ha
theorem opnF_cons {α β : Type} {d : Kd α} {d' : Kd β} {wf : Nat → α → Prop} {wf' : Nat → β → Prop} {f : Field} {fs : List Field} {o o' : Nat} (ho : f.offset = o) (O : Opn P f.type d wf) (he : o' = o + d.sz) (F : OpnF P fs o' d' wf') :
    OpnF P (f :: fs) o (Kd.pair d d') (fun n x => wf n x.1 ∧ wf' n x.2) := by
  refine ⟨fun n m a h h' => ⟨O.mono _ _ _ h h'.1, F.1 _ _ _ h h'.2⟩, fun enc w base spare held fuel cs ys N h => ?_⟩
  obtain ⟨y, hy, hN, ht⟩ := h 0 f rfl
  obtain ⟨a, ha, hw⟩ := O.op enc w base spare held fuel _ y ht
  obtain ⟨b, hb, hw'⟩ := F.2 enc w base spare held fuel cs (ys.drop 1) N (fun i g hg => by
    obtain ⟨z, hz, h1, h2⟩ := h (i + 1) g (by simpa using hg)
    refine ⟨z, ?_, h1, h2⟩
    rw [List.getElem?_drop, Nat.add_comm]
    exact hz)
  refine ⟨(a, b), ⟨(cs.drop o).take d.sz, (cs.drop o').take d'.sz, ?_, ?_, hb⟩, O.mono _ _ _ hN hw, hw'⟩
  · show (cs.drop o).take (d.sz + d'.sz) = _
    rw [List.take_add, List.drop_drop, he]
  · rw [O.sz, ← ho]
    exact ha
theorem opn_struct {α β : Type} {fs : Array Field} {d : Kd α} {wf : Nat → α → Prop} (f : β → α) (g : α → β) (hfg : ∀ a, f (g a) = a) (ht : P.underlying t = some (.struct fs)) (F : OpnF P fs.toList 0 d wf) (hs : d.sz = P.cellsOf t) :
    Opn P t (Kd.iso d f) (fun n x => wf n (f x)) where
  sz := hs
  mono := fun n m a h h' => F.1 n m (f a) h h'
  op := fun enc w base spare held fuel cs x h => by
    obtain ⟨xs, n, rfl, rfl, hl, hlen, hf⟩ := DataW.trod_struct ht h
    obtain ⟨a, ha, hw⟩ := F.2 enc w base spare held n cs xs (Rows.uptoBulk (DataW.agg (xs.map (·.1)))) (fun i q hq => by
      have h1 := hf i q (by simpa using hq)
      have hi : i < xs.length := by
        have := (List.getElem?_eq_some_iff.1 hq).1
        simp at this
        omega
      rw [List.getElem?_eq_getElem hi] at h1
      refine ⟨_, List.getElem?_eq_getElem hi, ?_, h1⟩
      have hmem : (xs[i]).1 ∈ xs.map (·.1) := List.mem_map_of_mem (List.getElem_mem hi)
      have := bulk_mem _ _ hmem
      simp only [Rows.uptoBulk]
      omega)
    refine ⟨g a, ?_, by rw [hfg]; exact hw⟩
    show d.K w (f (g a)) cs
    rw [hfg]
    rw [List.drop_zero, hs, ← hl, List.take_length] at ha
    exact ha
end
end Go.Proofs.Ytiigjnccoeadlaa.PA
/-! ### YtiigjnccoeadlaaXGlobJoinsLaw -/
namespace Go.Proofs.Ytiigjnccoeadlaa.PA
open Go.RowKit Go.Proofs.YtiigjnccoeadlaaW.PrintWords Go.Proofs.YtiigjnccoeadlaaW.PrintLast Go.Proofs.YtiigjnccoeadlaaW.PrintMore
attribute [local go_sem] max2_int min2_int max_two min_two max_three min_three max_four min_four
set_option linter.unusedVariables false
set_option linter.unusedSimpArgs false
theorem okWide_arr {P : Program} {w : World} {r : Reach} {base : Nat} {t : TypeId} {v : Value} {n : Nat} {e : TypeId} (ht : P.underlying t = some (.array n e)) (h : Value.okWide P w r base t v) : ∃ cs, v = .agg cs ∧ cs.size = P.cellsOf t := by
  simp only [Value.okWide, ht] at h
  obtain ⟨cs, h1, h2, _⟩ := h
  exact ⟨cs, h1, h2⟩
theorem arr2_open {H : Type} {enc : TypeId × Value → H} {P : Program} {w : World} {base : Nat} {spare : Nat → Bool} {held : Bool} {fuel : Nat} {t e : TypeId} {cs : List Value} {x : DataW H × List MemPlace} (ht : P.underlying t = some (.array 2 e)) (he : P.underlying e = some .string) (hc : P.cellsOf t = 2) (hce : P.cellsOf e = 1)
    (h : DataW.trod enc P w base spare held fuel t cs = some x) : ∃ y z, cs = [.string y, .string z] := by
  obtain ⟨xs, m, _, _, hl, hx, hi⟩ := DataW.trod_array ht h
  rw [hc] at hl
  have at_ : ∀ i, i < 2 → ∃ s, (cs.drop i).take 1 = [.string s] := fun i hi2 => by
    have h1 := hi i hi2
    rw [hce, Nat.mul_one, List.getElem?_eq_getElem (by omega)] at h1
    obtain ⟨s, hs, _⟩ := (opn_string he hce).op enc w base spare held m _ _ h1
    exact ⟨s, hs⟩
  obtain ⟨y, hy⟩ := at_ 0 (by decide)
  obtain ⟨z, hz⟩ := at_ 1 (by decide)
  match cs, hl with
  | [a, b], _ =>
    simp at hy hz
    exact ⟨y, z, by rw [hy, hz]⟩
theorem join_pat {p0 p1 : ByteArray} {l0 l1 : List Tok} (h0 : patO p0 = some l0) (h1 : patO p1 = some l1) : ∃ l, parse ((p0 ++ p1).size + 1) (gL (p0 ++ p1)) = some l ∧ ∀ a b, Mp l0 a → Mp l1 b → Mp l (a ++ b) := by
  have g : ∀ {p : ByteArray} {l : List Tok}, patO p = some l → parse (p.size + 1) (gL p) = some l := fun {p l} h => by
    unfold patO at h
    split at h
    · exact h
    · cases h
  obtain ⟨l, k, hk, hm⟩ := parse_join _ _ _ (g h1) _ _ _ (g h0)
  refine ⟨l, ?_, hm⟩
  rw [gL_append]
  have hlen : (gL p0 ++ gL p1).length = (p0 ++ p1).size := by rw [← gL_append, gl_len]
  cases hlk : decide ((gL p0 ++ gL p1).length < k) with
  | true => rw [parse_fuel _ k _ (by omega) (of_decide_eq_true hlk), hk]
  | false =>
    have := of_decide_eq_false hlk
    rw [← parse_more k ((p0 ++ p1).size + 1) (gL p0 ++ gL p1) l (by omega) hk]
theorem globJoins_law (p0 p1 s0 s1 : ByteArray) (w : World) :
    Calls Try.prog 5 #[.agg #[.string p0, .string p1], .agg #[.string s0, .string s1]] w fun e w' => e = .returned (.bool true) ∧ Below w.heap.size w w' := by
  have hs : (p0 ++ p1).size = p0.size + p1.size := ByteArray.size_append
  have hs2 : (s0 ++ s1).size = s0.size + s1.size := ByteArray.size_append
  by_cases hsm : p0.size ≤ 200 ∧ p1.size ≤ 200 ∧ s0.size ≤ 200 ∧ s1.size ≤ 200
  · refine joins_walk p0 p1 s0 s1 (mO (patO p0) s0) (mO (patO p1) s1) (mO (patO (p0 ++ p1)) (s0 ++ s1)) (chkO (p0 ++ p1)) w (fun h => ⟨fun w_ => glob_Match.calls _ _ _ w_ (mat_f _ _ (by omega) (by omega))⟩) (fun h => ⟨fun w_ => glob_Match.calls _ _ _ w_ (mat_f _ _ (by omega) (by omega))⟩) (fun _ _ => ⟨fun w_ => glob_Check.calls _ _ w_ (chk_f _ (by omega))⟩) (fun _ _ => ⟨fun w_ => glob_Match.calls _ _ _ w_ (mat_f _ _ (by omega) (by omega))⟩) ⟨fun w_ => remoralaw14_awake.calls true w_ awake14⟩ (fun h0 h1 => ?_)
    cases hp0 : patO p0 with
    | none => rw [hp0] at h0; cases h0
    | some l0 =>
      cases hp1 : patO p1 with
      | none => rw [hp1] at h1; cases h1
      | some l1 =>
        rw [hp0] at h0
        rw [hp1] at h1
        obtain ⟨l, hl, hm⟩ := join_pat hp0 hp1
        by_cases h100 : 100 < p0.size + p1.size
        · exact .inl ⟨by unfold chkO; rw [if_pos (by omega)], h100⟩
        · refine .inr ⟨by unfold chkO; rw [if_neg (by omega), hl]; rfl, ?_⟩
          have hpat : patO (p0 ++ p1) = some l := by unfold patO; rw [if_pos (by omega), hl]
          rw [hpat]
          show mL l (gL (s0 ++ s1)) = true
          rw [gL_append, mL_iff]
          exact hm _ _ ((mL_iff _ _).1 h0) ((mL_iff _ _).1 h1)
  · have hbig : ∀ (X : Prop), (p0.size ≤ 200 ∧ p1.size ≤ 200 ∧ s0.size ≤ 200 ∧ s1.size ≤ 200) → X := fun X h => absurd h hsm
    exact joins_walk p0 p1 s0 s1 false false false 0 w (fun h => hbig _ h) (fun h => hbig _ h) (fun h => by cases h) (fun h => by cases h) ⟨fun w_ => remoralaw14_awake.calls true w_ awake14⟩ (fun h => by cases h)
end Go.Proofs.Ytiigjnccoeadlaa.PA
namespace Go.Proofs.Ytiigjnccoeadlaa.globJoinsRow
open Go.ChangeShapes Go.WideShapes Go.ChangeAt Go.RowKit Go.Proofs.Ytiigjnccoeadlaa.PA Go.Proofs.YtiigjnccoeadlaaW.PrintWords Go.Proofs.YtiigjnccoeadlaaW.PrintLast Go.Proofs.YtiigjnccoeadlaaW.PrintMore
open Go.ChangeMaps (open_string shut_string)
theorem own : ownKnob Try.prog.godebug = none := by kernel_rfl
theorem laidOut : laidOutB Try.prog = true := by kernel_rfl
set_option maxHeartbeats 1000000 in
set_option maxRecDepth 100000 in
theorem lifted (os : Os) (started : os.Started) (H : Type) (enc : TypeId × Value → H) :
    ReturnsInHanded {} Try.checked os 5 .any (Rows.globJoinsSpec.pre6 enc Try.prog Try.f5 Rows.globJoinsRow.domain false) (Rows.globJoinsSpec.post enc Try.prog Try.f5 false true false false) := by
  refine returnsInHanded_of_change_sized (C := Try.checked) own started (by kernel_rfl) Try.func5
    (ChangeSpec.witness6 (enc := enc) (C := Try.checked) false ⟨#[], #[.agg #[.string ByteArray.empty, .string ByteArray.empty], .agg #[.string ByteArray.empty, .string ByteArray.empty]], []⟩ 8 (by kernel_rfl) (by kernel_rfl) (by kernel_rfl) (by kernel_rfl)) ?_
  intro W base args ds gs before hval0 hW hcnd hsz0 _
  have hval : ∀ (j : Nat) t v, Try.f5.params[j]? = some t → args[j]? = some v → Value.okWide Try.prog W .any base t v := hval0
  have hW' := hW
  obtain ⟨p, q, hA0, hV, rfl, hfz, hnd⟩ := hW
  have hA : DataW.TrodAll enc Try.prog W 0 (fun _ => true) true Try.f5.params.toList args.toList ds p := hA0
  rw [Try.params5] at hA hval
  obtain ⟨v0, vs0, d0, ds0, p0, q0, hargs, rfl, rfl, h0, r0⟩ := trodAll_cons hA
  obtain ⟨v1, vs1, d1, ds1, p1, q1, rfl, rfl, rfl, h1, r1⟩ := trodAll_cons r0
  obtain ⟨rfl, rfl, rfl⟩ := trodAll_nil r1
  obtain rfl : args = #[v0, v1] := by cases args; simp_all
  obtain ⟨rfl, rfl⟩ := trodVars_none hV
  obtain ⟨cs0, rfl, _⟩ := okWide_arr Try.underlying27 (hval 0 27 v0 rfl rfl)
  have k0 := h0
  have lt0 : ∀ x ∈ p0, x.block < W.heap.size := by obtain ⟨m, hm⟩ := k0; exact DataW.trod_lt m _ _ _ hm
  obtain ⟨fu0, hf0⟩ := h0
  obtain ⟨y0, z0, e0⟩ := arr2_open Try.underlying27 Try.underlying9 (by kernel_rfl) (by kernel_rfl) hf0
  obtain rfl : cs0 = #[.string y0, .string z0] := by cases cs0; simpa [Value.cells] using e0
  obtain ⟨cs1, rfl, _⟩ := okWide_arr Try.underlying27 (hval 1 27 v1 rfl rfl)
  have k1 := h1
  have lt1 : ∀ x ∈ p1, x.block < W.heap.size := by obtain ⟨m, hm⟩ := k1; exact DataW.trod_lt m _ _ _ hm
  obtain ⟨fu1, hf1⟩ := h1
  obtain ⟨y1, z1, e1⟩ := arr2_open Try.underlying27 Try.underlying9 (by kernel_rfl) (by kernel_rfl) hf1
  obtain rfl : cs1 = #[.string y1, .string z1] := by cases cs1; simpa [Value.cells] using e1
  refine (globJoins_law y0 z0 y1 z1 W).mono fun e W' ⟨he, bel⟩ => ?_
  subst he
  exact ⟨_, rfl, _, _, _, [], _, [], hW', trodAll_mk1 (shut_bool Try.underlying4 _), (trodAll_cons_mk (Below.trod laidOut (by kernel_rfl) (of_decide_eq_true (by kernel_rfl)) k0 bel lt0) (trodAll_cons_mk (Below.trod laidOut (by kernel_rfl) (of_decide_eq_true (by kernel_rfl)) k1 bel lt1) trodAll_mk0)), rfl, bel.frame _, fun h => by cases h⟩
theorem over : Rows.globJoinsRow.holds Try.pinned (OpenSpec.ofChange Rows.globJoinsSpec) :=
  OpenClaim.holds_of_wide 5 Try.f5 rfl rfl rfl rfl rfl rfl rfl ⟨rfl, rfl, rfl, rfl, rfl⟩ rfl rfl rfl rfl rfl (by kernel_rfl) Try.func5 (by kernel_rfl)
    (of_decide_eq_true (by kernel_rfl)) (by unfold Func.isWrapper; first | (rw [if_pos (by decide +kernel)]; kernel_rfl) | (rw [if_neg (by decide +kernel)]; exact ⟨rfl, rfl⟩))
    (fun os started H enc _ => lifted os started H enc)
theorem proved : Rows.GlobJoinsSaid := over
#print axioms proved
end Go.Proofs.Ytiigjnccoeadlaa.globJoinsRow
namespace Go.Proofs.Ytiigjnccoeadlaa
/-- The row, under a short name, for the claim. -/
theorem globJoins_holds : Rows.GlobJoinsSaid := globJoinsRow.proved
end Go.Proofs.Ytiigjnccoeadlaa
namespace Go.Proofs.Ytiigjnccoeadlaa.PA
end Go.Proofs.Ytiigjnccoeadlaa.PA
