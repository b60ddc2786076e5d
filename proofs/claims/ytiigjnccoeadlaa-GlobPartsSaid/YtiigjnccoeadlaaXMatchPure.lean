/- Plain: both ways of matching are the one by definition. -/
import Derived.Test.YtiigjnccoeadlaaPAx0
import Derived.Test.YtiigjnccoeadlaaXEmptyW
import Derived.Test.YtiigjnccoeadlaaXGlobBase
import Derived.Test.YtiigjnccoeadlaaXGlobSpec
import Derived.Test.YtiigjnccoeadlaaXMatchW
import Derived.Test.YtiigjnccoeadlaaXRMatchW
import Derived.Test.YtiigjnccoeadlaaXTakesW
import Derived.Test.YtiigjnccoeadlaaXglobEscape
namespace Go.Proofs.Ytiigjnccoeadlaa.PA
open Go.RowKit Go.Proofs.YtiigjnccoeadlaaW.PrintWords Go.Proofs.YtiigjnccoeadlaaW.PrintLast Go.Proofs.YtiigjnccoeadlaaW.PrintMore
attribute [local go_sem] max2_int min2_int max_two min_two max_three min_three max_four min_four
set_option linter.unusedVariables false
set_option linter.unusedSimpArgs false
def starM (f : List Int → Bool) (t : Tok) : List Int → Bool
  | [] => f []
  | c :: s => f (c :: s) || (tkB t c && starM f t s)
def mL : List Tok → List Int → Bool
  | [], s => s.isEmpty
  | t :: ts, s => if starT t = true then starM (mL ts) t s else (match s with | [] => false | c :: s' => tkB t c && mL ts s')
def tokM (t : Tok) (p : List Int) : Prop := if starT t = true then ∀ c ∈ p, tkB t c = true else ∃ c, p = [c] ∧ tkB t c = true
def Mp : List Tok → List Int → Prop
  | [], s => s = []
  | t :: ts, s => ∃ p q, s = p ++ q ∧ tokM t p ∧ Mp ts q
theorem tokM_star {t : Tok} (h : starT t = true) (p : List Int) : tokM t p ↔ ∀ c ∈ p, tkB t c = true := by rw [tokM, if_pos h]
theorem tokM_no {t : Tok} (h : starT t = false) (p : List Int) : tokM t p ↔ ∃ c, p = [c] ∧ tkB t c = true := by rw [tokM, if_neg (by rw [h]; decide)]
theorem starM_iff (f : List Int → Bool) (t : Tok) : ∀ s, starM f t s = true ↔ ∃ p q, s = p ++ q ∧ (∀ c ∈ p, tkB t c = true) ∧ f q = true
  | [] => by
    constructor
    · intro h
      exact ⟨[], [], rfl, by simp, h⟩
    · rintro ⟨p, q, h, _, hq⟩
      obtain ⟨rfl, rfl⟩ := List.append_eq_nil_iff.1 h.symm
      exact hq
  | c :: s => by
    unfold starM
    rw [Bool.or_eq_true, Bool.and_eq_true, starM_iff f t s]
    constructor
    · rintro (h | ⟨h1, p, q, rfl, hp, hq⟩)
      · exact ⟨[], c :: s, rfl, by simp, h⟩
      · refine ⟨c :: p, q, rfl, ?_, hq⟩
        intro x hx
        rcases List.mem_cons.1 hx with rfl | hx
        · exact h1
        · exact hp x hx
    · rintro ⟨p, q, h, hp, hq⟩
      cases p with
      | nil =>
        left
        rw [h]
        exact hq
      | cons a p =>
        right
        obtain ⟨rfl, rfl⟩ := List.cons.inj h
        exact ⟨hp _ (List.mem_cons_self), p, q, rfl, fun x hx => hp x (List.mem_cons_of_mem _ hx), hq⟩
theorem mL_iff : ∀ (l : List Tok) (s : List Int), mL l s = true ↔ Mp l s
  | [], s => by
    show s.isEmpty = true ↔ s = []
    exact List.isEmpty_iff
  | t :: ts, s => by
    unfold mL Mp
    cases hst : starT t with
    | true =>
      rw [if_pos rfl, starM_iff]
      constructor
      · rintro ⟨p, q, h, hp, hq⟩
        exact ⟨p, q, h, (tokM_star hst p).2 hp, (mL_iff ts q).1 hq⟩
      · rintro ⟨p, q, h, hp, hq⟩
        exact ⟨p, q, h, (tokM_star hst p).1 hp, (mL_iff ts q).2 hq⟩
    | false =>
      rw [if_neg (by decide)]
      constructor
      · intro h
        cases s with
        | nil => simp at h
        | cons c s' =>
          rw [Bool.and_eq_true] at h
          exact ⟨[c], s', rfl, (tokM_no hst _).2 ⟨c, rfl, h.1⟩, (mL_iff ts s').1 h.2⟩
      · rintro ⟨p, q, h, hp, hq⟩
        obtain ⟨c, rfl, hc⟩ := (tokM_no hst _).1 hp
        subst h
        show (tkB t c && mL ts q) = true
        rw [hc, (mL_iff ts q).2 hq]
        rfl
theorem Mp_append : ∀ (a b : List Tok) (s : List Int), Mp (a ++ b) s ↔ ∃ p q, s = p ++ q ∧ Mp a p ∧ Mp b q
  | [], b, s => by
    constructor
    · intro h
      exact ⟨[], s, rfl, rfl, h⟩
    · rintro ⟨p, q, rfl, hp, hq⟩
      have hp : p = [] := hp
      subst hp
      exact hq
  | t :: a, b, s => by
    show (∃ p q, s = p ++ q ∧ tokM t p ∧ Mp (a ++ b) q) ↔ _
    constructor
    · rintro ⟨p, q, rfl, hp, hq⟩
      obtain ⟨x, y, rfl, hx, hy⟩ := (Mp_append a b q).1 hq
      exact ⟨p ++ x, y, by rw [List.append_assoc], ⟨p, x, rfl, hp, hx⟩, hy⟩
    · rintro ⟨p, q, rfl, ⟨x, y, rfl, hx, hy⟩, hq⟩
      exact ⟨x, y ++ q, by rw [List.append_assoc], hx, (Mp_append a b _).2 ⟨y, q, rfl, hy, hq⟩⟩
theorem Mp_one (t : Tok) (s : List Int) : Mp [t] s ↔ tokM t s := by
  constructor
  · rintro ⟨p, q, rfl, hp, hq⟩
    have hq : q = [] := hq
    subst hq
    rw [List.append_nil]
    exact hp
  · intro h
    exact ⟨s, [], (List.append_nil s).symm, h, rfl⟩
theorem bool_iff {a b : Bool} (h : a = true ↔ b = true) : a = b := Bool.eq_iff_iff.2 h
theorem mL_nil_snoc (l : List Tok) (t : Tok) : mL (l ++ [t]) [] = (starT t && mL l []) := by
  apply bool_iff
  rw [Bool.and_eq_true, mL_iff, mL_iff, Mp_append]
  constructor
  · rintro ⟨p, q, h, hp, hq⟩
    obtain ⟨rfl, rfl⟩ := List.append_eq_nil_iff.1 h.symm
    rw [Mp_one] at hq
    cases hst : starT t with
    | true => exact ⟨rfl, hp⟩
    | false =>
      obtain ⟨c, hc, _⟩ := (tokM_no hst _).1 hq
      simp at hc
  · rintro ⟨hst, hp⟩
    exact ⟨[], [], rfl, hp, (Mp_one _ _).2 ((tokM_star hst _).2 (by simp))⟩
theorem mL_star_snoc (l : List Tok) (t : Tok) (s : List Int) (c : Int) (hst : starT t = true) : mL (l ++ [t]) (s ++ [c]) = (mL l (s ++ [c]) || (mL (l ++ [t]) s && tkB t c)) := by
  apply bool_iff
  rw [Bool.or_eq_true, Bool.and_eq_true, mL_iff, mL_iff, mL_iff, Mp_append, Mp_append]
  constructor
  · rintro ⟨p, q, h, hp, hq⟩
    rw [Mp_one, tokM_star hst] at hq
    rcases List.eq_nil_or_concat q with rfl | ⟨q', d, rfl⟩
    · left
      rw [List.append_nil] at h
      rw [h]
      exact hp
    · right
      rw [List.concat_eq_append] at h hq
      rw [← List.append_assoc] at h
      obtain ⟨h1, h2⟩ := List.append_inj' h rfl
      have h2 : c = d := by simpa using h2
      subst h2
      exact ⟨⟨p, q', h1, hp, (Mp_one _ _).2 ((tokM_star hst _).2 (fun x hx => hq x (by simp [hx])))⟩, hq c (by simp)⟩
  · rintro (h | ⟨⟨p, q, rfl, hp, hq⟩, hc⟩)
    · exact ⟨s ++ [c], [], (List.append_nil _).symm, h, (Mp_one _ _).2 ((tokM_star hst _).2 (by simp))⟩
    · rw [Mp_one, tokM_star hst] at hq
      refine ⟨p, q ++ [c], by rw [List.append_assoc], hp, (Mp_one _ _).2 ((tokM_star hst _).2 (fun x hx => ?_))⟩
      rcases List.mem_append.1 hx with hx | hx
      · exact hq x hx
      · rw [List.mem_singleton.1 hx]
        exact hc
theorem mL_no_snoc (l : List Tok) (t : Tok) (s : List Int) (c : Int) (hst : starT t = false) : mL (l ++ [t]) (s ++ [c]) = (mL l s && tkB t c) := by
  apply bool_iff
  rw [Bool.and_eq_true, mL_iff, mL_iff, Mp_append]
  constructor
  · rintro ⟨p, q, h, hp, hq⟩
    rw [Mp_one, tokM_no hst] at hq
    obtain ⟨d, rfl, hd⟩ := hq
    obtain ⟨h1, h2⟩ := List.append_inj' h rfl
    have h2 : c = d := by simpa using h2
    subst h2
    rw [h1]
    exact ⟨hp, hd⟩
  · rintro ⟨hp, hc⟩
    exact ⟨s, [c], rfl, hp, (Mp_one _ _).2 ((tokM_no hst _).2 ⟨c, rfl, hc⟩)⟩
theorem mL_nil_cons (c : Int) (s : List Int) : mL [] (s ++ [c]) = false := by
  show (s ++ [c]).isEmpty = false
  simp
/-- The first k signs match the first i bytes. -/
def DD (l : List Tok) (s : ByteArray) (i k : Nat) : Bool := mL (l.take k) ((gL s).take i)
theorem take_tok {l : List Tok} {k : Nat} (h : k < l.length) : l.take (k + 1) = l.take k ++ [l.getD k .one] := by
  rw [List.take_succ_eq_append_getElem h, List.getD_eq_getElem?_getD, List.getElem?_eq_getElem h]
  rfl
section
variable (l : List Tok) (s : ByteArray)
theorem DD_00 : DD l s 0 0 = true := rfl
theorem DD_n0 (i : Nat) (h : i < s.size) : DD l s (i + 1) 0 = false := by
  unfold DD
  rw [take_next s i h]
  exact mL_nil_cons _ _
theorem DD_0n (k : Nat) (h : k < l.length) : DD l s 0 (k + 1) = (starT (l.getD k .one) && DD l s 0 k) := by
  unfold DD
  rw [take_tok h]
  exact mL_nil_snoc _ _
theorem DD_star (i k : Nat) (hi : i < s.size) (h : k < l.length) (hst : starT (l.getD k .one) = true) : DD l s (i + 1) (k + 1) = (DD l s (i + 1) k || (DD l s i (k + 1) && tkB (l.getD k .one) (bt s (i : Int)))) := by
  unfold DD
  rw [take_tok h, take_next s i hi]
  exact mL_star_snoc _ _ _ _ hst
theorem DD_no (i k : Nat) (hi : i < s.size) (h : k < l.length) (hst : starT (l.getD k .one) = false) : DD l s (i + 1) (k + 1) = (DD l s i k && tkB (l.getD k .one) (bt s (i : Int))) := by
  unfold DD
  rw [take_tok h, take_next s i hi]
  exact mL_no_snoc _ _ _ _ hst
theorem stepR_DD (i : Nat) (hi : i < l.length) (F : Nat → Bool) (hF : ∀ k, k ≤ s.size → F k = DD l s k i) : ∀ k, k ≤ s.size → stepR (l.getD i .one) F s k = DD l s k (i + 1)
  | 0, _ => by
    rw [stepR, DD_0n l s i hi]
    cases hst : starT (l.getD i .one) with
    | true => rw [if_pos rfl, hF 0 (Nat.zero_le _)]; rfl
    | false => rfl
  | k + 1, hk => by
    rw [stepR]
    cases hst : starT (l.getD i .one) with
    | true => rw [if_pos rfl, hF (k + 1) hk, stepR_DD i hi F hF k (by omega), DD_star l s k i (by omega) hi hst]
    | false => rw [if_neg (by decide), hF k (by omega), DD_no l s k i (by omega) hi hst]
theorem rowR_DD : ∀ i, i ≤ l.length → ∀ k, k ≤ s.size → rowR l s i k = DD l s k i
  | 0, _, k, hk => by
    cases k with
    | zero => rfl
    | succ k =>
      rw [DD_n0 l s k (by omega)]
      rfl
  | i + 1, hi, k, hk => by
    rw [rowR]
    exact stepR_DD l s i (by omega) _ (rowR_DD i (by omega)) k hk
theorem DD_all : DD l s s.size l.length = mL l (gL s) := by
  unfold DD
  rw [List.take_length, List.take_of_length_le (by rw [gl_len]; exact Nat.le_refl _)]
theorem rowR_mL : rowR l s l.length s.size = mL l (gL s) := by rw [rowR_DD l s _ (Nat.le_refl _) _ (Nat.le_refl _), DD_all]
def finR (f : Nat → Bool) : Nat → Bool
  | 0 => f 0
  | j + 1 => f (j + 1) || (finR f j && starT (l.getD j .one))
theorem emS_val (f : Nat → Bool) : ∀ k j, emS l f k j = if j ≤ k then finR l f j else f j
  | 0, j => by
    rw [emS]
    by_cases h : j ≤ 0
    · obtain rfl : j = 0 := by omega
      rfl
    · rw [if_neg h]
  | k + 1, j => by
    have ih := emS_val f k
    have hk := ih k
    rw [if_pos (Nat.le_refl _)] at hk
    rw [emS, hk]
    cases hc : (finR l f k && starT (l.getD k .one)) with
    | true =>
      rw [if_pos rfl]
      by_cases hj : j = k + 1
      · subst hj
        rw [if_pos (Nat.le_refl _), finR, hc]
        simp [addS]
      · have e : (j == k + 1) = false := beq_eq_false_iff_ne.2 hj
        rw [addS, e, Bool.false_or, ih j]
        by_cases h2 : j ≤ k
        · rw [if_pos h2, if_pos (by omega)]
        · rw [if_neg h2, if_neg (by omega)]
    | false =>
      rw [if_neg (by decide), ih j]
      by_cases hj : j = k + 1
      · subst hj
        rw [if_neg (by omega), if_pos (Nat.le_refl _), finR, hc, Bool.or_false]
      · by_cases h2 : j ≤ k
        · rw [if_pos h2, if_pos (by omega)]
        · rw [if_neg h2, if_neg (by omega)]
/-- What a byte does to the set. -/
def nxV (f : Nat → Bool) (c : Int) (k j : Nat) : Bool := (decide (j < k) && (f j && tkB (l.getD j .one) c && starT (l.getD j .one))) || (match j with | 0 => false | m + 1 => decide (m < k) && (f m && tkB (l.getD m .one) c && !starT (l.getD m .one)))
theorem nxS_val (f : Nat → Bool) (c : Int) : ∀ k j, nxS l f c k j = nxV l f c k j
  | 0, j => by
    cases j with
    | zero => rfl
    | succ m => simp [nxS, nxV, noS]
  | k + 1, j => by
    have ih := nxS_val f c k
    have d1 : ∀ j, decide (j < k + 1) = (decide (j < k) || (j == k)) := fun j => by
      rw [Bool.eq_iff_iff, Bool.or_eq_true, decide_eq_true_iff, decide_eq_true_iff, beq_iff_eq]
      omega
    have key : nxV l f c (k + 1) j = (nxV l f c k j || (((j == k) && (f k && tkB (l.getD k .one) c && starT (l.getD k .one))) || ((j == k + 1) && (f k && tkB (l.getD k .one) c && !starT (l.getD k .one))))) := by
      unfold nxV
      rw [d1 j]
      have h1 : ((decide (j < k) || (j == k)) && (f j && tkB (l.getD j .one) c && starT (l.getD j .one))) = ((decide (j < k) && (f j && tkB (l.getD j .one) c && starT (l.getD j .one))) || ((j == k) && (f k && tkB (l.getD k .one) c && starT (l.getD k .one)))) := by
        by_cases hj : j = k
        · subst hj
          simp
        · have : (j == k) = false := beq_eq_false_iff_ne.2 hj
          rw [this]
          simp
      rw [h1]
      cases j with
      | zero => simp
      | succ m =>
        dsimp only
        rw [d1 m]
        have h2 : ((decide (m < k) || (m == k)) && (f m && tkB (l.getD m .one) c && !starT (l.getD m .one))) = ((decide (m < k) && (f m && tkB (l.getD m .one) c && !starT (l.getD m .one))) || ((m == k) && (f k && tkB (l.getD k .one) c && !starT (l.getD k .one)))) := by
          by_cases hj : m = k
          · subst hj
            simp
          · have : (m == k) = false := beq_eq_false_iff_ne.2 hj
            rw [this]
            simp
        rw [h2, show (m + 1 == k + 1) = (m == k) from by rw [Bool.eq_iff_iff, beq_iff_eq, beq_iff_eq]; omega]
        generalize (decide (m + 1 < k) && _) = a1
        generalize ((m + 1 == k) && _) = a2
        generalize (decide (m < k) && _) = a3
        generalize ((m == k) && _) = a4
        cases a1 <;> cases a2 <;> cases a3 <;> cases a4 <;> rfl
    rw [key, nxS]
    cases hc : (f k && tkB (l.getD k .one) c) with
    | true =>
      rw [if_pos rfl]
      cases hst : starT (l.getD k .one) with
      | true =>
        rw [if_pos rfl, addS, ih j]
        cases (j == k) <;> cases nxV l f c k j <;> simp
      | false =>
        rw [if_neg (by decide), addS, ih j]
        cases (j == k + 1) <;> cases nxV l f c k j <;> simp
    | false =>
      rw [if_neg (by decide), ih j]
      simp
/-- What the set says at a place. -/
def QQ (i k : Nat) : Bool := if starT (l.getD k .one) = true then DD l s i (k + 1) else DD l s i k
theorem getD_out {k : Nat} (h : ¬ k < l.length) : starT (l.getD k .one) = false := by
  rw [List.getD_eq_getElem?_getD, List.getElem?_eq_none (by omega)]
  rfl
theorem lt_star {k : Nat} (h : starT (l.getD k .one) = true) : k < l.length := Classical.not_not.1 (fun hn => by rw [getD_out l hn] at h; cases h)
theorem fin0 : ∀ j, j ≤ l.length → finR l (addS noS 0) j = QQ l s 0 j
  | 0, _ => by
    unfold QQ
    cases hst : starT (l.getD 0 .one) with
    | true => rw [if_pos rfl, DD_0n l s 0 (lt_star l hst), hst]; rfl
    | false => rfl
  | j + 1, hj => by
    have ih := fin0 j (by omega)
    have e : finR l (addS noS 0) (j + 1) = DD l s 0 (j + 1) := by
      rw [finR, ih, DD_0n l s j (by omega)]
      unfold QQ
      cases hst : starT (l.getD j .one) with
      | true =>
        rw [if_pos rfl, DD_0n l s j (by omega), hst]
        simp [addS, noS]
      | false => simp [addS, noS]
    rw [e]
    unfold QQ
    cases hst : starT (l.getD (j + 1) .one) with
    | true => rw [if_pos rfl, DD_0n l s (j + 1) (lt_star l hst), hst]; rfl
    | false => rfl
theorem finN (i : Nat) (hi : i < s.size) (f : Nat → Bool) (hf : ∀ j, j ≤ l.length → f j = QQ l s i j) : ∀ j, j ≤ l.length → finR l (nxS l f (bt s (i : Int)) l.length) j = QQ l s (i + 1) j := by
  have key : ∀ j, j ≤ l.length → ∀ M : Bool, M = DD l s (i + 1) j → ((decide (j < l.length) && (f j && tkB (l.getD j .one) (bt s (i : Int)) && starT (l.getD j .one))) || M) = QQ l s (i + 1) j := by
    intro j hj M hM
    subst hM
    rw [hf j hj]
    unfold QQ
    cases hst : starT (l.getD j .one) with
    | true =>
      have hlt := lt_star l hst
      rw [if_pos rfl, if_pos rfl, DD_star l s i j hi hlt hst, decide_eq_true hlt]
      generalize DD l s i (j + 1) = x
      generalize DD l s (i + 1) j = y
      generalize tkB (l.getD j .one) (bt s (i : Int)) = z
      cases x <;> cases y <;> cases z <;> rfl
    | false => simp
  intro j
  induction j with
  | zero =>
    intro hj
    rw [finR, nxS_val]
    exact key 0 hj false (DD_n0 l s i hi).symm
  | succ j ih =>
    intro hj
    have ih := ih (by omega)
    rw [finR, ih, nxS_val]
    have e : (nxV l f (bt s (i : Int)) l.length (j + 1) || (QQ l s (i + 1) j && starT (l.getD j .one))) = ((decide (j + 1 < l.length) && (f (j + 1) && tkB (l.getD (j + 1) .one) (bt s (i : Int)) && starT (l.getD (j + 1) .one))) || ((decide (j < l.length) && (f j && tkB (l.getD j .one) (bt s (i : Int)) && !starT (l.getD j .one))) || (QQ l s (i + 1) j && starT (l.getD j .one)))) := by
      unfold nxV
      exact Bool.or_assoc _ _ _
    rw [e]
    refine key (j + 1) hj _ ?_
    rw [hf j (by omega), decide_eq_true (show j < l.length by omega)]
    unfold QQ
    cases hst : starT (l.getD j .one) with
    | true => simp
    | false =>
      rw [DD_no l s i j hi (by omega) hst]
      simp
theorem stS_QQ : ∀ i, i ≤ s.size → ∀ j, j ≤ l.length → stS l s i j = QQ l s i j
  | 0, _, j, hj => by rw [stS, emS_val, if_pos hj, fin0 l s j hj]
  | i + 1, hi, j, hj => by rw [stS, emS_val, if_pos hj, finN l s i (by omega) _ (stS_QQ i (by omega)) j hj]
theorem stS_mL : stS l s s.size l.length = mL l (gL s) := by
  rw [stS_QQ l s _ (Nat.le_refl _) _ (Nat.le_refl _), QQ, getD_out l (Nat.lt_irrefl _), if_neg (by decide), DD_all]
end
def mO (o : Option (List Tok)) (s : ByteArray) : Bool :=
  match o with
  | none => false
  | some l => mL l (gL s)
end Go.Proofs.Ytiigjnccoeadlaa.PA
