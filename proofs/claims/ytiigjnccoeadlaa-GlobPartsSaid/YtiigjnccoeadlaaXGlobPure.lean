/- Plain: bytes as numbers there and back; heads, escapes, plain patterns. -/
import Derived.Test.YtiigjnccoeadlaaPAfglobHead
import Derived.Test.YtiigjnccoeadlaaPAfglobPlain
import Derived.Test.YtiigjnccoeadlaaPAfremoraref14Escape
import Derived.Test.YtiigjnccoeadlaaPAx0
import Derived.Test.YtiigjnccoeadlaaXGlobApp
import Derived.Test.YtiigjnccoeadlaaXGlobBase
import Derived.Test.YtiigjnccoeadlaaXGlobSpec
import Derived.Test.YtiigjnccoeadlaaXHeadBase
import Derived.Test.YtiigjnccoeadlaaXMatchPure
import Derived.Test.YtiigjnccoeadlaaXTakesW
import Derived.Test.YtiigjnccoeadlaaXglobEscape
import Derived.Test.YtiigjnccoeadlaaXglobhead
import Derived.Test.YtiigjnccoeadlaaXremoraref14Head
import Derived.Test.YtiigjnccoeadlaaXremoraref14Plain
namespace Go.Proofs.Ytiigjnccoeadlaa.PA
open Go.RowKit Go.Proofs.YtiigjnccoeadlaaW.PrintWords Go.Proofs.YtiigjnccoeadlaaW.PrintLast Go.Proofs.YtiigjnccoeadlaaW.PrintMore
attribute [local go_sem] max2_int min2_int max_two min_two max_three min_three max_four min_four
set_option linter.unusedVariables false
set_option linter.unusedSimpArgs false
theorem gL_inj {a b : ByteArray} (h : gL a = gL b) : a = b := by
  apply ByteArray.ext
  apply Array.toList_inj.1
  unfold gL bytesOf at h
  exact (List.map_inj_right (fun x y hxy => by
    have : x.toNat = y.toNat := Int.ofNat.inj hxy
    exact UInt8.toNat_inj.1 this)).1 h
def inR (l : List Int) : Prop := ∀ c ∈ l, 0 ≤ c ∧ c < 256
theorem gL_nums {l : List Int} (h : inR l) : gL (strOfNums l) = l := by
  induction l with
  | nil => rfl
  | cons a r ih =>
    have ih2 := ih (fun x hx => h x (List.mem_cons_of_mem _ hx))
    have ha := h a (List.mem_cons_self)
    unfold gL bytesOf strOfNums at ih2 ⊢
    simp only [List.map_cons] at ih2 ⊢
    rw [ih2]
    congr 1
    rw [UInt8.toNat_ofNat']
    omega
theorem nums_gL (s : ByteArray) : strOfNums (gL s) = s := gL_inj (gL_nums (gL_mem s))
theorem nums_sz (l : List Int) : (strOfNums l).size = l.length := by
  show (strOfNums l).data.size = _
  simp [strOfNums]
theorem gL_extract (a : ByteArray) (j : Nat) : gL (a.extract 0 j) = (gL a).take j := by
  unfold gL bytesOf
  rw [ByteArray.data_extract, Array.toList_extract, List.extract_eq_take_drop, List.drop_zero, Nat.sub_zero, List.map_take]
theorem gL_append (a b : ByteArray) : gL (a ++ b) = gL a ++ gL b := by
  unfold gL bytesOf
  rw [ByteArray.data_append, Array.toList_append, List.map_append]
theorem resc_l (s : ByteArray) (hs : s.size < 1000000) : ∀ (m i k : Nat), s.size - i = m → i ≤ s.size → m + 1 ≤ k → remoraref14_Escape.l0 k s (escL ((gL s).take i)) (i : Int) = some (escS s) := by
  intro m
  induction m with
  | zero =>
    intro i k hm hi hk
    obtain ⟨k, rfl⟩ : ∃ j, k = j + 1 := ⟨k - 1, by omega⟩
    rw [remoraref14_Escape.l0, if_neg (by omega), List.take_of_length_le (by rw [gl_len]; omega)]
    rfl
  | succ m ih =>
    intro i k hm hi hk
    obtain ⟨k, rfl⟩ : ∃ j, k = j + 1 := ⟨k - 1, by omega⟩
    have hlt : i < s.size := by omega
    have hn := escL_len ((gL s).take i)
    rw [List.length_take, gl_len] at hn
    have hw : wrap64 ((i : Int) + 1) = ((i + 1 : Nat) : Int) := by rw [gp0 _ (by omega) (by omega)]; rfl
    have ih2 := ih (i + 1) k (by omega) (by omega) (by omega)
    rw [take_next s i hlt, escL_snoc] at ih2
    have l1 : (escL ((gL s).take i)).length < 140737488355328 := by omega
    have l2 : (escL ((gL s).take i) ++ [92]).length < 140737488355328 := by simp; omega
    have hes : ∀ x : Int, escB x = true → (if escB x = true then [92, x] else [x]) = [92, x] := fun x h => if_pos h
    rw [remoraref14_Escape.l0, if_pos (by omega), if_pos (by omega), hw]
    by_cases h1 : bt s (i : Int) = 63
    · rw [if_pos h1, if_pos l1, Option.bind_some, if_pos l2]
      rw [if_pos (by rw [h1]; rfl)] at ih2
      rw [← ih2, List.append_assoc]
      rfl
    · rw [if_neg h1]
      by_cases h2 : bt s (i : Int) = 42
      · rw [if_pos h2, if_pos l1, Option.bind_some, if_pos l2]
        rw [if_pos (by rw [h2]; rfl)] at ih2
        rw [← ih2, List.append_assoc]
        rfl
      · rw [if_neg h2]
        by_cases h3 : bt s (i : Int) = 91
        · rw [if_pos h3, if_pos l1, Option.bind_some, if_pos l2]
          rw [if_pos (by rw [h3]; rfl)] at ih2
          rw [← ih2, List.append_assoc]
          rfl
        · rw [if_neg h3]
          by_cases h4 : bt s (i : Int) = 92
          · rw [if_pos h4, if_pos l1, Option.bind_some, if_pos l2]
            rw [if_pos (by rw [h4]; rfl)] at ih2
            rw [← ih2, List.append_assoc]
            rfl
          · rw [if_neg h4, if_pos l1]
            have e : escB (bt s (i : Int)) = false := by
              simp only [escB, Bool.or_eq_false_iff, beq_eq_false_iff_ne]
              exact ⟨⟨⟨h1, h2⟩, h3⟩, h4⟩
            rw [if_neg (by rw [e]; decide)] at ih2
            exact ih2
theorem resc_f (s : ByteArray) (hs : s.size < 1000000) (k : Nat) (hk : s.size < k) : remoraref14_Escape.f k s = some (escS s) := resc_l s hs s.size 0 k (by omega) (by omega) (by omega)
theorem plS_some (l : List Tok) : plS (some l) = if litAll l = true then (strOfNums (hdL l), true) else (⟨#[]⟩, false) := rfl
theorem plain_f14 (s : ByteArray) (hs : s.size < 1000000) : glob_Plain.f s = some (plS (patO s)) := by
  unfold glob_Plain.f
  rw [glob_head.f, if_pos hs, Option.bind_some]
  cases patO s with
  | none => rfl
  | some l =>
    rw [plS_some]
    show (if litAll l = true then _ else _) = _
    cases litAll l <;> rfl
theorem head_f14 (s : ByteArray) (hs : s.size < 1000000) : glob_Head.f s = some (hdS (patO s)) := by
  unfold glob_Head.f
  rw [glob_head.f, if_pos hs, Option.bind_some]
  cases patO s <;> rfl
/-- A literal of a pattern is one of its bytes. -/
theorem mem1_sub {l : List Int} {c : Int} {r : List Int} (h : mem1 l = some (c, r)) : ∀ x ∈ r, x ∈ l := by
  cases l with
  | nil => simp [mem1] at h
  | cons a t =>
    unfold mem1 at h
    dsimp only at h
    split at h
    · cases t with
      | nil => simp at h
      | cons b t =>
        simp at h
        rw [← h.2]
        exact fun x hx => List.mem_cons_of_mem _ (List.mem_cons_of_mem _ hx)
    · simp at h
      rw [← h.2]
      exact fun x hx => List.mem_cons_of_mem _ hx
theorem clsL_sub : ∀ (n : Nat) (l : List Int) (s : Nat → Bool) (r : List Int) (s' : Nat → Bool), clsL n l s = some (r, s') → ∀ x ∈ r, x ∈ l
  | 0, _, _, _, _, h => by simp [clsL] at h
  | n + 1, [], s, r, s', h => by
    simp [clsL] at h
    rw [← h.1]
    simp
  | n + 1, c :: t, s, r, s', h => by
    rw [clsL_eq] at h
    by_cases hc : c = 93
    · rw [if_pos hc] at h
      simp at h
      rw [← h.1]
      simp
    · rw [if_neg hc] at h
      cases hm : mem1 (c :: t) with
      | none => rw [hm] at h; simp at h
      | some lr =>
        obtain ⟨lo, r1⟩ := lr
        have hl := mem1_sub hm
        rw [hm] at h
        dsimp only at h
        by_cases hd : dash r1 = true
        · rw [if_pos hd] at h
          cases hm2 : mem1 (r1.drop 1) with
          | none => rw [hm2] at h; simp at h
          | some hr =>
            obtain ⟨hi, r2⟩ := hr
            have hl2 := mem1_sub hm2
            rw [hm2] at h
            dsimp only at h
            by_cases hlt : hi < lo
            · rw [if_pos hlt] at h
              simp at h
            · rw [if_neg hlt] at h
              have := clsL_sub n r2 _ r s' h
              exact fun x hx => hl x (List.mem_of_mem_drop (hl2 x (this x hx)))
        · rw [if_neg hd] at h
          have := clsL_sub n r1 _ r s' h
          exact fun x hx => hl x (this x hx)
theorem cls1_sub {b : Bool} {l : List Int} {t : Tok} {r : List Int} (h : cls1 b l = some (t, r)) : (∀ x ∈ r, x ∈ l) ∧ ∀ c, t ≠ .lit c := by
  unfold cls1 at h
  cases l with
  | nil => simp at h
  | cons c l' =>
    dsimp only at h
    split at h
    · simp at h
    · cases hc : clsL ((c :: l').length + 1) (c :: l') noS with
      | none => rw [hc] at h; simp [clsEnd] at h
      | some p =>
        obtain ⟨q, s⟩ := p
        rw [hc] at h
        cases q with
        | nil => simp [clsEnd] at h
        | cons a q =>
          simp [clsEnd] at h
          have := clsL_sub _ _ _ _ _ hc
          rw [← h.1, ← h.2]
          exact ⟨fun x hx => this x (List.mem_cons_of_mem _ hx), fun c h => by cases h⟩
theorem cls0_sub {l : List Int} {t : Tok} {r : List Int} (h : cls0 l = some (t, r)) : (∀ x ∈ r, x ∈ l) ∧ ∀ c, t ≠ .lit c := by
  unfold cls0 at h
  cases l with
  | nil => simp at h
  | cons c l' =>
    dsimp only at h
    split at h
    · exact ⟨fun x hx => List.mem_cons_of_mem _ ((cls1_sub h).1 x hx), (cls1_sub h).2⟩
    · exact cls1_sub h
theorem sk_sub : ∀ l : List Int, ∀ x ∈ sk l, x ∈ l
  | [], x, h => by simp [sk] at h
  | c :: r, x, h => by
    unfold sk at h
    split at h
    · exact List.mem_cons_of_mem _ (sk_sub r x h)
    · exact h
theorem parse_lit : ∀ (n : Nat) (s : List Int) (l : List Tok), parse n s = some l → ∀ c, Tok.lit c ∈ l → c ∈ s
  | 0, _, _, h => by simp [parse] at h
  | n + 1, [], l, h => by
    simp [parse] at h
    subst h
    simp
  | n + 1, b :: r, l, h => by
    have key : ∀ (q : List Int) (t : Tok), (∀ x ∈ q, x ∈ b :: r) → (∀ c, t = .lit c → c ∈ b :: r) → (parse n q).map (t :: ·) = some l → ∀ c, Tok.lit c ∈ l → c ∈ b :: r := fun q t hq ht hp c hc => by
      obtain ⟨l2, h2, rfl⟩ := Option.map_eq_some_iff.1 hp
      rcases List.mem_cons.1 hc with h3 | h3
      · exact ht c h3.symm
      · exact hq c (parse_lit n q l2 h2 c h3)
    have hr : ∀ x ∈ r, x ∈ b :: r := fun x hx => List.mem_cons_of_mem _ hx
    rw [parse_eq] at h
    split at h
    · refine key _ _ (fun x hx => hr x (sk_sub r x hx)) (fun c hc => ?_) h
      split at hc <;> cases hc
    · split at h
      · exact key _ _ hr (fun c hc => by cases hc) h
      · split at h
        · cases hc : cls0 r with
          | none => rw [hc] at h; simp at h
          | some tr =>
            rw [hc] at h
            obtain ⟨h1, h2⟩ := cls0_sub hc
            exact key _ _ (fun x hx => hr x (h1 x hx)) (fun c hc => absurd hc (h2 c)) h
        · split at h
          · cases r with
            | nil => simp at h
            | cons d r' => exact key _ _ (fun x hx => hr x (List.mem_cons_of_mem _ hx)) (fun c hc => by cases hc; simp) h
          · exact key _ _ hr (fun c hc => by cases hc; simp) h
theorem hdL_mem : ∀ (l : List Tok), ∀ c ∈ hdL l, Tok.lit c ∈ l
  | [], c, h => by simp [hdL] at h
  | .lit d :: r, c, h => by
    rcases List.mem_cons.1 (show c ∈ d :: hdL r from h) with rfl | h
    · exact List.mem_cons_self
    · exact List.mem_cons_of_mem _ (hdL_mem r c h)
  | .star2 :: _, c, h => by simp [hdL] at h
  | .star :: _, c, h => by simp [hdL] at h
  | .one :: _, c, h => by simp [hdL] at h
  | .cls _ _ :: _, c, h => by simp [hdL] at h
theorem pat_in {s : ByteArray} {l : List Tok} (h : patO s = some l) : inR (hdL l) := by
  unfold patO at h
  split at h
  · exact fun c hc => gL_mem s c (parse_lit _ _ _ h c (hdL_mem l c hc))
  · cases h
theorem Mp_lit (c : Int) (l : List Tok) (s : List Int) : Mp (.lit c :: l) s ↔ ∃ q, s = c :: q ∧ Mp l q := by
  show (∃ p q, s = p ++ q ∧ tokM (.lit c) p ∧ Mp l q) ↔ _
  constructor
  · rintro ⟨p, q, rfl, hp, hq⟩
    obtain ⟨d, rfl, hd⟩ := (tokM_no (t := .lit c) rfl p).1 hp
    have : d = c := by simpa [tkB] using hd
    subst this
    exact ⟨q, rfl, hq⟩
  · rintro ⟨q, rfl, hq⟩
    exact ⟨[c], q, rfl, (tokM_no (t := .lit c) rfl _).2 ⟨c, rfl, by simp [tkB]⟩, hq⟩
theorem mL_head : ∀ (l : List Tok) (s : List Int), mL l s = true → ∃ r, s = hdL l ++ r
  | [], s, _ => ⟨s, rfl⟩
  | .lit c :: l, s, h => by
    obtain ⟨q, rfl, hq⟩ := (Mp_lit c l s).1 ((mL_iff _ _).1 h)
    obtain ⟨r, rfl⟩ := mL_head l q ((mL_iff _ _).2 hq)
    exact ⟨r, rfl⟩
  | .star2 :: _, s, _ => ⟨s, rfl⟩
  | .star :: _, s, _ => ⟨s, rfl⟩
  | .one :: _, s, _ => ⟨s, rfl⟩
  | .cls _ _ :: _, s, _ => ⟨s, rfl⟩
theorem mL_plain : ∀ (l : List Tok) (s : List Int), litAll l = true → (mL l s = true ↔ s = hdL l)
  | [], s, _ => by
    rw [mL_iff]
    exact Iff.rfl
  | .lit c :: l, s, h => by
    rw [mL_iff, Mp_lit]
    constructor
    · rintro ⟨q, rfl, hq⟩
      rw [(mL_plain l q h).1 ((mL_iff _ _).2 hq)]
      rfl
    · rintro rfl
      exact ⟨hdL l, rfl, (mL_iff _ _).1 ((mL_plain l _ h).2 rfl)⟩
  | .star2 :: _, s, h => by cases h
  | .star :: _, s, h => by cases h
  | .one :: _, s, h => by cases h
  | .cls _ _ :: _, s, h => by cases h
theorem parse_esc : ∀ (l : List Int) (n : Nat), (escL l).length < n → parse n (escL l) = some (l.map Tok.lit)
  | [], n, h => by
    cases n with
    | zero => omega
    | succ n => rfl
  | c :: r, n, h => by
    cases n with
    | zero => omega
    | succ n =>
      unfold escL at h ⊢
      cases he : escB c with
      | true =>
        rw [he, if_pos rfl] at h
        rw [if_pos rfl, parse_eq, if_neg (by decide), if_neg (by decide), if_neg (by decide), if_pos rfl]
        dsimp only
        rw [parse_esc r n (by simp at h; omega)]
        rfl
      | false =>
        rw [he, if_neg (by decide)] at h
        simp only [escB, Bool.or_eq_false_iff, beq_eq_false_iff_ne] at he
        rw [if_neg (by decide), parse_eq, if_neg he.1.1.2, if_neg he.1.1.1, if_neg he.1.2, if_neg he.2, parse_esc r n (by simp at h; omega)]
        rfl
theorem hdL_esc : ∀ l : List Int, hdL (l.map Tok.lit) = l ∧ litAll (l.map Tok.lit) = true
  | [] => ⟨rfl, rfl⟩
  | c :: r => by
    obtain ⟨h1, h2⟩ := hdL_esc r
    exact ⟨by show c :: hdL (r.map Tok.lit) = _; rw [h1], h2⟩
theorem mO_head {p s : ByteArray} (h : mO (patO p) s = true) : ∃ r, gL s = gL (hdS (patO p)) ++ r := by
  cases hp : patO p with
  | none => rw [hp] at h; cases h
  | some l =>
    rw [hp] at h
    obtain ⟨r, hr⟩ := mL_head l (gL s) h
    exact ⟨r, by rw [hr, hdS, gL_nums (pat_in hp)]⟩
theorem mO_plain {p : ByteArray} (h : (plS (patO p)).2 = true) : (plS (patO p)).1 = hdS (patO p) ∧ ∀ s, mO (patO p) s = (s.toList == (hdS (patO p)).toList) := by
  cases hp : patO p with
  | none => rw [hp] at h; cases h
  | some l =>
    rw [hp] at h
    rw [plS_some] at h ⊢
    cases hl : litAll l with
    | false => rw [hl] at h; cases h
    | true =>
      refine ⟨rfl, fun s => ?_⟩
      show mL l (gL s) = _
      rw [Bool.eq_iff_iff, mL_plain l _ hl, beq_iff_eq]
      constructor
      · intro h2
        have : s = strOfNums (hdL l) := gL_inj (by rw [h2, gL_nums (pat_in hp)])
        rw [this]
        rfl
      · intro h2
        have h3 : s = hdS (some l) := by
          rw [ByteArray.toList_eq, ByteArray.toList_eq] at h2
          exact ByteArray.ext (Array.toList_inj.1 h2)
        rw [h3]
        exact gL_nums (pat_in hp)
theorem escS_len (s : ByteArray) : (escS s).size ≤ 2 * s.size := by
  have := escL_len (gL s)
  rw [gl_len] at this
  unfold escS
  rw [nums_sz]
  exact this
theorem escS_pat (s : ByteArray) (h : (escS s).size ≤ 100) : patO (escS s) = some ((gL s).map Tok.lit) := by
  unfold patO
  rw [if_pos h]
  have e : gL (escS s) = escL (gL s) := gL_nums (escL_mem _ (gL_mem s))
  rw [e]
  refine parse_esc (gL s) _ ?_
  rw [← e, gl_len]
  omega
end Go.Proofs.Ytiigjnccoeadlaa.PA
