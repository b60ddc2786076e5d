/- GlobParts: for any pattern and text the law returns true and leaves its arguments as they were. No condition. -/
import Derived.Test.YtiigjnccoeadlaaPAx0
import Derived.Test.YtiigjnccoeadlaaXGlobSpec
import Derived.Test.YtiigjnccoeadlaaXHeadBase
import Derived.Test.YtiigjnccoeadlaaXMatchPure
import Derived.Test.YtiigjnccoeadlaaXRMatchW
import Derived.Test.YtiigjnccoeadlaaPAfremoralaw14awake
import Derived.Test.YtiigjnccoeadlaaXglobCheck
import Derived.Test.YtiigjnccoeadlaaXglobMatch
import Derived.Test.YtiigjnccoeadlaaXremoraref14Check
import Derived.Test.YtiigjnccoeadlaaXEmptyW
import Derived.Test.YtiigjnccoeadlaaXGlobBase
import Derived.Test.YtiigjnccoeadlaaXGlobPure
import Derived.Test.YtiigjnccoeadlaaXJoinPure
import Derived.Test.YtiigjnccoeadlaaXTakesW
import Derived.Test.YtiigjnccoeadlaaXglobEscape
import Derived.Outline
import Derived.Test.YtiigjnccoeadlaaXGlobApp
import Derived.ProofKit
import Derived.Test.YtiigjnccoeadlaaRows
import Derived.WalkKit
import Derived.Below
import Derived.Carry
import Derived.ChangeOld
import Derived.OpenShut
import Derived.ShutString
import Derived.SizedLaws
import Derived.Test.YtiigjnccoeadlaaXSignsRW
/-! ### YtiigjnccoeadlaaXremoraref14Match -/
namespace Go.Proofs.Ytiigjnccoeadlaa.PA
open Go.RowKit Go.Proofs.YtiigjnccoeadlaaW.PrintWords Go.Proofs.YtiigjnccoeadlaaW.PrintLast Go.Proofs.YtiigjnccoeadlaaW.PrintMore
attribute [local go_sem] max2_int min2_int max_two min_two max_three min_three max_four min_four
set_option linter.unusedVariables false
set_option linter.unusedSimpArgs false
def remoraref14_Match.f (a0 a1 : ByteArray) : Option Bool := if a0.size < 1000000 ∧ a1.size < 1000000 then some (mO (patO a0) a1) else none
theorem remoraref14_Match.calls (a0 a1 : ByteArray) (r : Bool) (w : World) (h : remoraref14_Match.f a0 a1 = some r) : Calls Try.prog 14 #[.string a0, .string a1] w fun e w' => e = .returned (.bool r) ∧ Below w.heap.size w w' := by
  unfold remoraref14_Match.f at h
  split at h
  · rename_i hs
    obtain rfl := Option.some.inj h
    refine (rmatch_call a0 a1 hs.1 hs.2 w).mono ?_
    rintro e w' ⟨rfl, hb⟩
    refine ⟨?_, hb⟩
    unfold mO patO
    cases (if a0.size ≤ 100 then parse (a0.size + 1) (gL a0) else none) with
    | none => rfl
    | some l =>
      dsimp only
      rw [rowR_mL]
  · cases h
end Go.Proofs.Ytiigjnccoeadlaa.PA
/-! ### YtiigjnccoeadlaaXAwake14 -/
namespace Go.Proofs.Ytiigjnccoeadlaa.PA
open Go.RowKit Go.Proofs.YtiigjnccoeadlaaW.PrintWords Go.Proofs.YtiigjnccoeadlaaW.PrintLast Go.Proofs.YtiigjnccoeadlaaW.PrintMore
attribute [local go_sem] max2_int min2_int max_two min_two max_three min_three max_four min_four
set_option linter.unusedVariables false
set_option linter.unusedSimpArgs false
theorem awake14 : remoralaw14_awake.f = some true := by kernel_rfl
theorem chk_f (s : ByteArray) (h : s.size < 1000000) : glob_Check.f s = some (chkO s) := by rw [glob_Check.f, if_pos h]
theorem rchk_f (s : ByteArray) (h : s.size < 1000000) : remoraref14_Check.f s = some (chkO s) := by rw [remoraref14_Check.f, if_pos h]
theorem mat_f (p s : ByteArray) (h : p.size < 1000000) (h2 : s.size < 1000000) : glob_Match.f p s = some (mO (patO p) s) := by rw [glob_Match.f, if_pos ⟨h, h2⟩]
theorem rmat_f (p s : ByteArray) (h : p.size < 1000000) (h2 : s.size < 1000000) : remoraref14_Match.f p s = some (mO (patO p) s) := by rw [remoraref14_Match.f, if_pos ⟨h, h2⟩]
end Go.Proofs.Ytiigjnccoeadlaa.PA
/-! ### YtiigjnccoeadlaaXPartsPure -/
namespace Go.Proofs.Ytiigjnccoeadlaa.PA
open Go.RowKit Go.Proofs.YtiigjnccoeadlaaW.PrintWords Go.Proofs.YtiigjnccoeadlaaW.PrintLast Go.Proofs.YtiigjnccoeadlaaW.PrintMore
attribute [local go_sem] max2_int min2_int max_two min_two max_three min_three max_four min_four
set_option linter.unusedVariables false
set_option linter.unusedSimpArgs false
def isSl : Tok → Bool
  | .lit c => c == 47
  | _ => false
def isS2 : Tok → Bool
  | .star2 => true
  | _ => false
def cntT : List Tok → Int
  | [] => 0
  | t :: r => (if isSl t = true then 1 else 0) + cntT r
def hasS2 (l : List Tok) : Bool := l.any isS2
def cnt47 : List Int → Int
  | [] => 0
  | c :: r => (if c = 47 then 1 else 0) + cnt47 r
theorem cntT_snoc (l : List Tok) (t : Tok) : cntT (l ++ [t]) = cntT l + (if isSl t = true then 1 else 0) := by
  induction l with
  | nil => simp [cntT]
  | cons a r ih =>
    rw [List.cons_append]
    unfold cntT
    rw [ih]
    omega
theorem hasS2_snoc (l : List Tok) (t : Tok) : hasS2 (l ++ [t]) = (hasS2 l || isS2 t) := by simp [hasS2]
theorem cntT_bd (l : List Tok) : 0 ≤ cntT l ∧ cntT l ≤ l.length := by
  induction l with
  | nil => simp [cntT]
  | cons a r ih =>
    unfold cntT
    rw [List.length_cons]
    split <;> omega
theorem cnt47_snoc (l : List Int) (c : Int) : cnt47 (l ++ [c]) = cnt47 l + (if c = 47 then 1 else 0) := by
  induction l with
  | nil => simp [cnt47]
  | cons a r ih =>
    rw [List.cons_append]
    unfold cnt47
    rw [ih]
    omega
theorem cnt47_app (a b : List Int) : cnt47 (a ++ b) = cnt47 a + cnt47 b := by
  induction a with
  | nil => simp [cnt47]
  | cons x r ih =>
    show (if x = 47 then 1 else 0) + cnt47 (r ++ b) = (if x = 47 then 1 else 0) + cnt47 r + cnt47 b
    rw [ih]
    omega
theorem cnt47_bd (l : List Int) : 0 ≤ cnt47 l ∧ cnt47 l ≤ l.length := by
  induction l with
  | nil => simp [cnt47]
  | cons a r ih =>
    unfold cnt47
    rw [List.length_cons]
    split <;> omega
theorem cnt47_no : ∀ l : List Int, (∀ c ∈ l, c ≠ 47) → cnt47 l = 0
  | [], _ => rfl
  | c :: r, h => by
    unfold cnt47
    rw [if_neg (h c List.mem_cons_self), cnt47_no r (fun x hx => h x (List.mem_cons_of_mem _ hx))]
    rfl
theorem tok_cnt {t : Tok} {p : List Int} (h : tokM t p) (hs : isS2 t = false) : cnt47 p = (if isSl t = true then 1 else 0) := by
  cases t with
  | lit d =>
    obtain ⟨c, rfl, hc⟩ := (tokM_no (t := .lit d) rfl p).1 h
    have : c = d := by simpa [tkB] using hc
    subst this
    simp [cnt47, isSl]
  | star2 => cases hs
  | star =>
    have := (tokM_star (t := .star) rfl p).1 h
    rw [cnt47_no p (fun c hc => by have := this c hc; simpa [tkB] using this)]
    rfl
  | one =>
    obtain ⟨c, rfl, hc⟩ := (tokM_no (t := .one) rfl p).1 h
    have : c ≠ 47 := by simpa [tkB] using hc
    simp [cnt47, isSl, this]
  | cls n s =>
    obtain ⟨c, rfl, hc⟩ := (tokM_no (t := .cls n s) rfl p).1 h
    have : c ≠ 47 := by
      simp only [tkB, Bool.and_eq_true] at hc
      exact bne_iff_ne.1 hc.1
    simp [cnt47, isSl, this]
theorem parts_cnt : ∀ (l : List Tok) (s : List Int), Mp l s → hasS2 l = false → cntT l = cnt47 s
  | [], s, h, _ => by
    have h : s = [] := h
    subst h
    rfl
  | t :: l, s, h, hs => by
    obtain ⟨p, q, rfl, hp, hq⟩ := h
    rw [hasS2, List.any_cons, Bool.or_eq_false_iff] at hs
    rw [cnt47_app, tok_cnt hp hs.1, cntT, parts_cnt l q hq hs.2]
theorem parts_or {l : List Tok} {s : List Int} (h : Mp l s) : hasS2 l = true ∨ cntT l - cnt47 s = 0 := by
  cases hs : hasS2 l with
  | true => exact .inl rfl
  | false => exact .inr (by rw [parts_cnt l s h hs]; omega)
/-- The doubled pattern so far. -/
def QInv (l : List Tok) (i : Nat) (q : ByteArray) : Prop := ∃ lq k, parse k (gL q) = some lq ∧ ∀ a, Mp (l.take i) a → Mp lq a
theorem QInv.start (l : List Tok) : QInv l 0 ⟨#[]⟩ := ⟨[], 1, rfl, fun a h => h⟩
theorem QInv.next {l : List Tok} {i : Nat} {q e : ByteArray} {t t2 : Tok} (h : QInv l i q) (ht : l[i]? = some t) (k2 : Nat) (hp : parse k2 (gL e) = some [t2]) (hm : ∀ a, tokM t a → tokM t2 a) : QInv l (i + 1) (q ++ e) := by
  obtain ⟨lq, k, hk, hq⟩ := h
  obtain ⟨l3, k3, h3, hj⟩ := parse_join (gL e) k2 [t2] hp k (gL q) lq hk
  refine ⟨l3, k3, by rw [gL_append]; exact h3, fun a ha => ?_⟩
  have hi := (List.getElem?_eq_some_iff.1 ht).1
  have e2 : l.take (i + 1) = l.take i ++ [t] := by rw [take_tok hi, List.getD_eq_getElem?_getD, ht]; rfl
  rw [e2] at ha
  obtain ⟨x, y, rfl, hx, hy⟩ := (Mp_append _ _ _).1 ha
  exact hj x y (hq x hx) ((Mp_one _ _).2 (hm y ((Mp_one _ _).1 hy)))
theorem QInv.lit {l : List Tok} {i : Nat} {q : ByteArray} {c : Int} (h : QInv l i q) (ht : l[i]? = some (.lit c)) (hc : 0 ≤ c ∧ c < 256) : QInv l (i + 1) (q ++ escS (strOfNums [c])) := by
  refine h.next ht 5 (t2 := .lit c) ?_ (fun _ h => h)
  have h1 : gL (strOfNums [c]) = [c] := gL_nums (fun x hx => by rw [List.mem_singleton.1 hx]; exact hc)
  have h2 : gL (escS (strOfNums [c])) = escL [c] := by
    unfold escS
    rw [h1]
    exact gL_nums (escL_mem _ (fun x hx => by rw [List.mem_singleton.1 hx]; exact hc))
  rw [h2]
  exact parse_esc [c] 5 (by have := escL_len [c]; simp at this; omega)
theorem QInv.one {l : List Tok} {i : Nat} {q : ByteArray} (h : QInv l i q) (ht : l[i]? = some .one) : QInv l (i + 1) (q ++ ⟨#[63]⟩) := h.next ht 5 (t2 := .one) rfl (fun _ h => h)
theorem QInv.star {l : List Tok} {i : Nat} {q : ByteArray} {t : Tok} (h : QInv l i q) (ht : l[i]? = some t) (hs : starT t = true) : QInv l (i + 1) (q ++ ⟨#[42, 42]⟩) := h.next ht 5 (t2 := .star2) rfl (fun a _ => tok_star2 a)
theorem QInv.end_ {l : List Tok} {q s : ByteArray} (h : QInv l l.length q) (hm : Mp l (gL s)) (hq : q.size ≤ 100) : mO (patO q) s = true := by
  obtain ⟨lq, k, hk, hh⟩ := h
  rw [List.take_length] at hh
  have hp : patO q = some lq := by
    unfold patO
    rw [if_pos hq]
    by_cases hle : k ≤ q.size + 1
    · exact parse_more k _ _ _ hle hk
    · rw [parse_fuel _ k _ (by rw [gl_len]; omega) (by rw [gl_len]; omega), hk]
  rw [hp]
  exact (mL_iff _ _).2 (hh _ hm)
theorem esc1_size (c : Int) : (escS (strOfNums [c])).size ≤ 2 := by
  have := escS_len (strOfNums [c])
  rw [nums_sz] at this
  simpa using this
end Go.Proofs.Ytiigjnccoeadlaa.PA
/-! ### YtiigjnccoeadlaaXGlobPartsW -/
namespace Go.Proofs.Ytiigjnccoeadlaa.PA
open Go.RowKit Go.Proofs.YtiigjnccoeadlaaW.PrintWords Go.Proofs.YtiigjnccoeadlaaW.PrintLast Go.Proofs.YtiigjnccoeadlaaW.PrintMore
attribute [local go_sem] max2_int min2_int max_two min_two max_three min_three max_four min_four
set_option linter.unusedVariables false
set_option linter.unusedSimpArgs false
def PS (T : Nat) (w wr : World) (A : Option Addr) (L : List Sg) : Prop := Below w.heap.size w wr ∧ SgVal T wr A L
theorem PS.step {T : Nat} {w wr w2 : World} {A : Option Addr} {L : List Sg} (h : PS T w wr A L) (hb : Below wr.heap.size wr w2) : PS T w w2 A L := ⟨below_step h.1 hb, h.2.step hb⟩
theorem take_snoc_tok {l : List Tok} {i : Nat} {t : Tok} (ht : l[i]? = some t) : l.take (i + 1) = l.take i ++ [t] := by
  rw [take_tok (List.getElem?_eq_some_iff.1 ht).1, List.getD_eq_getElem?_getD, ht]
  rfl
theorem one_byte (c : Int) (W : World) : (convert 36 9 (.slice (some ⟨W.heap.size, 0, none⟩) 1 1)).run Try.prog (W.alloc (.cells #[.int .u8 c] 5)) = .ok (.string (strOfNums [c])) (W.alloc (.cells #[.int .u8 c] 5)) := by
  refine run_convert_bytes_arg _ 36 5 Try.underlying36 Try.underlying5 W.heap.size 0 1 1 [c] rfl (fun i hi => ?_) 9 Try.underlying9
  have hi0 : i = 0 := by simp at hi; omega
  subst hi0
  rw [blk_cell (blk_new W _)]
  rfl
set_option maxHeartbeats 16000000 in
set_option maxRecDepth 100000 in
theorem parts_some (a0 a1 : ByteArray) (l : List Tok) (h0 : a0.size ≤ 100) (h1 : a1.size ≤ 400) (hl : l.length ≤ 100) (w : World)
    (hm : Aside0 (∀ w_, Calls Try.prog 13 #[.string a0, .string a1] w_ fun e w' => e = .returned (.bool true) ∧ Below w_.heap.size w_ w')) (hsc : ∀ w, Calls Try.prog 15 #[.string a0] w (SgsPost 34 refSg (some l) w)) (ha : Aside0 (∀ w_, Calls Try.prog 10 #[] w_ fun e w' => e = .returned (.bool true) ∧ Below w_.heap.size w_ w'))
    (hor : hasS2 l = true ∨ cntT l - cnt47 (gL a1) = 0) (hMp : Mp l (gL a1)) (hrange : ∀ c, Tok.lit c ∈ l → 0 ≤ c ∧ c < 256) :
    Calls Try.prog 6 #[.string a0, .string a1] w fun e w' => e = .returned (.bool true) ∧ Below w.heap.size w w' := by
  have x0 : ((100 : Int) < (a0.size : Int)) = False := eq_false (by omega)
  have x1 : (100 < a0.size) = False := eq_false (by omega)
  have x2 : ((400 : Int) < (a1.size : Int)) = False := eq_false (by omega)
  have x3 : (400 < a1.size) = False := eq_false (by omega)
  have HB := Aside0.mk (Below.refl w.heap.size w)
  go_enter Try.func6, Try.ntmps6
  go_wp2_with (first | (go_at_call 13; (with_reducible refine (hm.out _).mono ?_); rintro e w2 ⟨rfl, hb⟩; have n0_ := Aside0.mk (below_step HB.out hb); clear HB hb; have HB := n0_; clear n0_) | (go_at_call 15; (with_reducible refine (hsc _).mono ?_); rintro e w3 ⟨hb1, v, rfl, hR⟩; obtain ⟨A, cp, rfl, hS⟩ := SgVal.of_map hR; have HD := Aside0.mk (show PS 34 w w3 A (l.map refSg) from ⟨below_step HB.out hb1, hS⟩); clear hR hS hb1 HB))
  go_loop [7, 8, 10] (fun v7 v8 v10 => ∃ (i : Nat) (m : Int) (b : Bool), v10 = .int .i64 i ∧ v7 = .int .i64 m ∧ v8 = .bool b ∧ i ≤ l.length ∧ 0 ≤ m ∧ m ≤ i ∧ Aside0 (m = cntT (l.take i)) ∧ Aside0 (b = hasS2 (l.take i))) (fun _ _ v10 => l.length - (intOf v10).toNat)
  case atStart => exact ⟨0, 0, false, rfl, rfl, rfl, Nat.zero_le _, Int.le_refl _, Int.le_refl _, ⟨rfl⟩, ⟨rfl⟩⟩
  case round =>
    obtain ⟨i, m, b, rfl, rfl, rfl, hi, hm0, hm1, HM, HS⟩ := hrel
    by_cases hlt : i < l.length
    · have e0 : ((i : Int) < (l.length : Int)) = True := eq_true (by omega)
      obtain ⟨t, ht⟩ : ∃ t, l[i]? = some t := ⟨_, List.getElem?_eq_getElem hlt⟩
      obtain ⟨g, hg, hh⟩ := HD.out.2.has i (refSg t) (by rw [List.getElem?_map, ht]; rfl)
      have hk0 := hh 0 (.int .i64 (refSg t).k) rfl
      rw [Nat.add_zero] at hk0
      have hk1 := hh 1 (.int .u8 (refSg t).c) rfl
      clear hh
      subst hg
      have htk := Aside0.mk (take_snoc_tok ht)
      have HM2 := Aside0.mk (show cntT (l.take (i + 1)) = m + (if isSl t = true then 1 else 0) by rw [htk.out, cntT_snoc, HM.out])
      have HS2 := Aside0.mk (show hasS2 (l.take (i + 1)) = (b || isS2 t) by rw [htk.out, hasS2_snoc, HS.out])
      clear htk ht HM HS
      cases t with
      | lit c =>
        change _ = some (Value.int .i64 0) at hk0
        change _ = some (Value.int .u8 c) at hk1
        by_cases h47 : c = 47
        · subst h47
          cases b with
          | true =>
            go_wp2
            go_round
            case rel => exact ⟨i + 1, m + 1, true, by go_num, by first | rfl | go_num, rfl, by omega, by omega, by omega, ⟨by rw [HM2.out]; try rfl; try (simp [isSl]; done)⟩, ⟨by rw [HS2.out]; try rfl; try (simp [isS2]; done)⟩⟩
            case measure => simp [intOf]; omega
          | false =>
            go_wp2
            go_round
            case rel => exact ⟨i + 1, m + 1, false, by go_num, by first | rfl | go_num, rfl, by omega, by omega, by omega, ⟨by rw [HM2.out]; try rfl; try (simp [isSl]; done)⟩, ⟨by rw [HS2.out]; try rfl; try (simp [isS2]; done)⟩⟩
            case measure => simp [intOf]; omega
        · have q1 : (c == 47) = false := beq_eq_false_iff_ne.2 h47
          have HM3 := Aside0.mk (show cntT (l.take (i + 1)) = m by rw [HM2.out]; simp [isSl, h47])
          clear HM2
          have HM2 := HM3
          clear HM3
          cases b with
          | true =>
            go_wp2
            go_round
            case rel => exact ⟨i + 1, m, true, by go_num, by first | rfl | go_num, rfl, by omega, by omega, by omega, ⟨by rw [HM2.out]; try rfl; try (simp [isSl]; done)⟩, ⟨by rw [HS2.out]; try rfl; try (simp [isS2]; done)⟩⟩
            case measure => simp [intOf]; omega
          | false =>
            go_wp2
            go_round
            case rel => exact ⟨i + 1, m, false, by go_num, by first | rfl | go_num, rfl, by omega, by omega, by omega, ⟨by rw [HM2.out]; try rfl; try (simp [isSl]; done)⟩, ⟨by rw [HS2.out]; try rfl; try (simp [isS2]; done)⟩⟩
            case measure => simp [intOf]; omega
      | star2 =>
        change _ = some (Value.int .i64 3) at hk0
        change _ = some (Value.int .u8 42) at hk1
        have HM3 := Aside0.mk (show cntT (l.take (i + 1)) = m by rw [HM2.out]; simp [isSl])
        clear HM2
        have HM2 := HM3
        clear HM3
        cases b with
        | true =>
          go_wp2
          go_round
          case rel => exact ⟨i + 1, m, true, by go_num, by first | rfl | go_num, rfl, by omega, by omega, by omega, ⟨by rw [HM2.out]; try rfl; try (simp [isSl]; done)⟩, ⟨by rw [HS2.out]; try rfl; try (simp [isS2]; done)⟩⟩
          case measure => simp [intOf]; omega
        | false =>
          go_wp2
          go_round
          case rel => exact ⟨i + 1, m, true, by go_num, by first | rfl | go_num, rfl, by omega, by omega, by omega, ⟨by rw [HM2.out]; try rfl; try (simp [isSl]; done)⟩, ⟨by rw [HS2.out]; try rfl; try (simp [isS2]; done)⟩⟩
          case measure => simp [intOf]; omega
      | star =>
        change _ = some (Value.int .i64 2) at hk0
        change _ = some (Value.int .u8 42) at hk1
        have HM3 := Aside0.mk (show cntT (l.take (i + 1)) = m by rw [HM2.out]; simp [isSl])
        clear HM2
        have HM2 := HM3
        clear HM3
        cases b with
        | true =>
          go_wp2
          go_round
          case rel => exact ⟨i + 1, m, true, by go_num, by first | rfl | go_num, rfl, by omega, by omega, by omega, ⟨by rw [HM2.out]; try rfl; try (simp [isSl]; done)⟩, ⟨by rw [HS2.out]; try rfl; try (simp [isS2]; done)⟩⟩
          case measure => simp [intOf]; omega
        | false =>
          go_wp2
          go_round
          case rel => exact ⟨i + 1, m, false, by go_num, by first | rfl | go_num, rfl, by omega, by omega, by omega, ⟨by rw [HM2.out]; try rfl; try (simp [isSl]; done)⟩, ⟨by rw [HS2.out]; try rfl; try (simp [isS2]; done)⟩⟩
          case measure => simp [intOf]; omega
      | one =>
        change _ = some (Value.int .i64 1) at hk0
        change _ = some (Value.int .u8 63) at hk1
        have HM3 := Aside0.mk (show cntT (l.take (i + 1)) = m by rw [HM2.out]; simp [isSl])
        clear HM2
        have HM2 := HM3
        clear HM3
        cases b with
        | true =>
          go_wp2
          go_round
          case rel => exact ⟨i + 1, m, true, by go_num, by first | rfl | go_num, rfl, by omega, by omega, by omega, ⟨by rw [HM2.out]; try rfl; try (simp [isSl]; done)⟩, ⟨by rw [HS2.out]; try rfl; try (simp [isS2]; done)⟩⟩
          case measure => simp [intOf]; omega
        | false =>
          go_wp2
          go_round
          case rel => exact ⟨i + 1, m, false, by go_num, by first | rfl | go_num, rfl, by omega, by omega, by omega, ⟨by rw [HM2.out]; try rfl; try (simp [isSl]; done)⟩, ⟨by rw [HS2.out]; try rfl; try (simp [isS2]; done)⟩⟩
          case measure => simp [intOf]; omega
      | cls n s =>
        change _ = some (Value.int .i64 4) at hk0
        change _ = some (Value.int .u8 0) at hk1
        have HM3 := Aside0.mk (show cntT (l.take (i + 1)) = m by rw [HM2.out]; simp [isSl])
        clear HM2
        have HM2 := HM3
        clear HM3
        cases b with
        | true =>
          go_wp2
          go_round
          case rel => exact ⟨i + 1, m, true, by go_num, by first | rfl | go_num, rfl, by omega, by omega, by omega, ⟨by rw [HM2.out]; try rfl; try (simp [isSl]; done)⟩, ⟨by rw [HS2.out]; try rfl; try (simp [isS2]; done)⟩⟩
          case measure => simp [intOf]; omega
        | false =>
          go_wp2
          go_round
          case rel => exact ⟨i + 1, m, false, by go_num, by first | rfl | go_num, rfl, by omega, by omega, by omega, ⟨by rw [HM2.out]; try rfl; try (simp [isSl]; done)⟩, ⟨by rw [HS2.out]; try rfl; try (simp [isS2]; done)⟩⟩
          case measure => simp [intOf]; omega
    · obtain rfl : i = l.length := by omega
      have e0 : ((l.length : Int) < (l.length : Int)) = False := eq_false (by omega)
      have HM0 := Aside0.mk (show m = cntT l by rw [HM.out, List.take_length])
      have HS0 := Aside0.mk (show b = hasS2 l by rw [HS.out, List.take_length])
      clear HM HS
      go_wp2
      go_loop [7, 11] (fun v7 v11 => ∃ (j : Nat) (m2 : Int), v11 = .int .i64 j ∧ v7 = .int .i64 m2 ∧ j ≤ a1.size ∧ -1000 ≤ m2 ∧ m2 ≤ 1000 ∧ -(j : Int) ≤ m2 ∧ Aside0 (m2 = m - cnt47 ((gL a1).take j))) (fun _ v11 => a1.size - (intOf v11).toNat)
      case atStart => exact ⟨0, m, rfl, rfl, Nat.zero_le _, by omega, by omega, by simp; omega, ⟨by simp [cnt47]⟩⟩
      case round =>
        obtain ⟨j, m2, rfl, rfl, hj, hb1, hb2, hb3, HJ⟩ := hrel
        by_cases hlt2 : j < a1.size
        · have e1 : ((j : Int) < (a1.size : Int)) = True := eq_true (by omega)
          have d1 : ∀ h : j < a1.size, ((a1[j]'h).toNat : Int) = bt a1 (j : Int) := fun h => bt_at a1 j h
          have HJ2 := Aside0.mk (show m - cnt47 ((gL a1).take (j + 1)) = m2 - (if bt a1 (j : Int) = 47 then 1 else 0) by rw [take_next a1 j hlt2, cnt47_snoc, HJ.out]; omega)
          by_cases h47 : bt a1 (j : Int) = 47
          · rw [h47] at d1 HJ2
            go_wp2
            go_round
            case rel => exact ⟨j + 1, m2 - 1, by go_num, by first | rfl | go_num, by omega, by omega, by omega, by push_cast; omega, ⟨by rw [HJ2.out]; rfl⟩⟩
            case measure => simp [intOf]; omega
          · have q1 : (bt a1 (j : Int) == 47) = false := beq_eq_false_iff_ne.2 h47
            have HJ3 := HJ2.out
            rw [if_neg h47] at HJ3
            have HJ4 := Aside0.mk HJ3
            clear HJ2 HJ3
            go_wp2
            go_round
            case rel => exact ⟨j + 1, m2, by go_num, rfl, by omega, by omega, by omega, by push_cast; omega, ⟨by rw [HJ4.out]; omega⟩⟩
            case measure => simp [intOf]; omega
        · obtain rfl : j = a1.size := by omega
          have e1 : ((a1.size : Int) < (a1.size : Int)) = False := eq_false (by omega)
          have HO : b = true ∨ m2 = 0 := by
            rw [HS0.out, HJ.out, HM0.out, List.take_of_length_le (by rw [gl_len]; exact Nat.le_refl _)]
            exact hor
          clear HJ HM0 HS0 hm0 hm1 hb3
          go_wp2
          have hbb : b = true ∨ (b = false ∧ m2 = 0) := by
            cases b with
            | true => exact .inl rfl
            | false => exact .inr ⟨rfl, by simpa using HO⟩
          clear HO
          rcases hbb with rfl | ⟨rfl, rfl⟩
          all_goals
            go_loopw [9, 12] (fun v9 v12 wr => ∃ (i : Nat) (q : ByteArray), v12 = .int .i64 i ∧ v9 = .string q ∧ i ≤ l.length ∧ q.size ≤ 2 * i ∧ Aside0 (QInv l i q) ∧ Aside0 (PS 34 w wr A (l.map refSg))) (fun _ v12 _ => l.length - (intOf v12).toNat)
            case atStart => exact ⟨0, ⟨#[]⟩, rfl, rfl, Nat.zero_le _, (show (⟨#[]⟩ : ByteArray).size ≤ 2 * 0 by decide), ⟨QInv.start l⟩, HD⟩
            case round =>
              clear HD
              obtain ⟨i, q, rfl, rfl, hi, hqs, HQ, HD⟩ := hrel
              by_cases hlt : i < l.length
              · have e2 : ((i : Int) < (l.length : Int)) = True := eq_true (by omega)
                obtain ⟨t, ht⟩ : ∃ t, l[i]? = some t := ⟨_, List.getElem?_eq_getElem hlt⟩
                obtain ⟨g, hg, hh⟩ := HD.out.2.has i (refSg t) (by rw [List.getElem?_map, ht]; rfl)
                have hk0 := hh 0 (.int .i64 (refSg t).k) rfl
                rw [Nat.add_zero] at hk0
                have hk1 := hh 1 (.int .u8 (refSg t).c) rfl
                clear hh
                subst hg
                have htk := Aside0.mk (take_snoc_tok ht)
                have hti := Aside0.mk ht
                clear htk ht
                cases t with
                | lit c =>
                  change _ = some (Value.int .i64 0) at hk0
                  change _ = some (Value.int .u8 c) at hk1
                  have hcr := hrange c (List.mem_of_getElem? hti.out)
                  have hcv := one_byte c
                  have hcat : (9223372036854775807 < q.size + (escS (strOfNums [c])).size) = False := eq_false (by have := esc1_size c; omega)
                  have hes : Aside0 (∀ w_, Calls Try.prog 16 #[.string (strOfNums [c])] w_ fun e w' => e = .returned (.string (escS (strOfNums [c]))) ∧ Below w_.heap.size w_ w') := ⟨fun w_ => glob_Escape.calls _ _ w_ (by rw [glob_Escape.f, if_pos (by rw [nums_sz]; simp)])⟩
                  go_wp2_with (first | (go_at_call 16; (with_reducible refine (hes.out _).mono ?_); rintro e w2 ⟨rfl, hb⟩; have n0_ := Aside0.mk (PS.step HD.out (below_step (below_alloc (Below.refl _ _) _) hb)); clear HD hb; have HD := n0_; clear n0_))
                  go_roundw
                  case rel => exact ⟨i + 1, q ++ escS (strOfNums [c]), by go_num, rfl, by omega, by rw [ByteArray.size_append]; have := esc1_size c; omega, ⟨HQ.out.lit hti.out hcr⟩, HD⟩
                  case measure => simp [intOf]; omega
                | star2 =>
                  change _ = some (Value.int .i64 3) at hk0
                  clear hk1
                  go_wp2
                  go_roundw
                  case rel => exact ⟨i + 1, q ++ ⟨#[42, 42]⟩, by go_num, rfl, by omega, by rw [ByteArray.size_append]; show _ + 2 ≤ _; omega, ⟨HQ.out.star hti.out rfl⟩, HD⟩
                  case measure => simp [intOf]; omega
                | star =>
                  change _ = some (Value.int .i64 2) at hk0
                  clear hk1
                  go_wp2
                  go_roundw
                  case rel => exact ⟨i + 1, q ++ ⟨#[42, 42]⟩, by go_num, rfl, by omega, by rw [ByteArray.size_append]; show _ + 2 ≤ _; omega, ⟨HQ.out.star hti.out rfl⟩, HD⟩
                  case measure => simp [intOf]; omega
                | one =>
                  change _ = some (Value.int .i64 1) at hk0
                  clear hk1
                  go_wp2
                  go_roundw
                  case rel => exact ⟨i + 1, q ++ ⟨#[63]⟩, by go_num, rfl, by omega, by rw [ByteArray.size_append]; show _ + 1 ≤ _; omega, ⟨HQ.out.one hti.out⟩, HD⟩
                  case measure => simp [intOf]; omega
                | cls n s =>
                  change _ = some (Value.int .i64 4) at hk0
                  clear hk1
                  go_wp2_with (first | (go_at_call 10; (with_reducible refine (ha.out _).mono ?_); rintro e w2 ⟨rfl, hb⟩; have n0_ := Aside0.mk (PS.step HD.out hb); clear HD hb; have HD := n0_; clear n0_))
                  go_ret
                  exact ⟨rfl, HD.out.1⟩
              · obtain rfl : i = l.length := by omega
                have e2 : ((l.length : Int) < (l.length : Int)) = False := eq_false (by omega)
                by_cases hq : 100 < q.size
                · have q1 : ((100 : Int) < (q.size : Int)) = True := eq_true (by omega)
                  have q2 : (100 < q.size) = True := eq_true hq
                  go_wp2_with (first | (go_at_call 10; (with_reducible refine (ha.out _).mono ?_); rintro e w2 ⟨rfl, hb⟩; have n0_ := Aside0.mk (PS.step HD.out hb); clear HD hb; have HD := n0_; clear n0_))
                  go_ret
                  exact ⟨rfl, HD.out.1⟩
                · have q1 : ((100 : Int) < (q.size : Int)) = False := eq_false (by omega)
                  have q2 : (100 < q.size) = False := eq_false hq
                  have hmq : Aside0 (∀ w_, Calls Try.prog 13 #[.string q, .string a1] w_ fun e w' => e = .returned (.bool true) ∧ Below w_.heap.size w_ w') := ⟨fun w_ => glob_Match.calls _ _ _ w_ (by rw [mat_f _ _ (by omega) (by omega), HQ.out.end_ hMp (by omega)])⟩
                  go_wp2_with (first | (go_at_call 13; (with_reducible refine (hmq.out _).mono ?_); rintro e w2 ⟨rfl, hb⟩; have n0_ := Aside0.mk (PS.step HD.out hb); clear HD hb; have HD := n0_; clear n0_) | (go_at_call 10; (with_reducible refine (ha.out _).mono ?_); rintro e w2 ⟨rfl, hb⟩; have n0_ := Aside0.mk (PS.step HD.out hb); clear HD hb; have HD := n0_; clear n0_))
                  go_ret
                  exact ⟨rfl, HD.out.1⟩
set_option maxHeartbeats 4000000 in
set_option maxRecDepth 100000 in
theorem parts_none (a0 a1 : ByteArray) (m0 : Bool) (w : World) (hx : 100 < a0.size ∨ 400 < a1.size ∨ m0 = false)
    (hm : a0.size ≤ 100 ∧ a1.size ≤ 400 → Aside0 (∀ w_, Calls Try.prog 13 #[.string a0, .string a1] w_ fun e w' => e = .returned (.bool m0) ∧ Below w_.heap.size w_ w')) (ha : Aside0 (∀ w_, Calls Try.prog 10 #[] w_ fun e w' => e = .returned (.bool true) ∧ Below w_.heap.size w_ w')) :
    Calls Try.prog 6 #[.string a0, .string a1] w fun e w' => e = .returned (.bool true) ∧ Below w.heap.size w w' := by
  have HB := Aside0.mk (Below.refl w.heap.size w)
  by_cases h0 : 100 < a0.size
  · have x0 : ((100 : Int) < (a0.size : Int)) = True := eq_true (by omega)
    have x1 : (100 < a0.size) = True := eq_true (by omega)
    clear hm hx
    go_enter Try.func6, Try.ntmps6
    go_wp2_with (first | (go_at_call 10; (with_reducible refine (ha.out _).mono ?_); rintro e w2 ⟨rfl, hb⟩; have n0_ := Aside0.mk (below_step HB.out hb); clear HB hb; have HB := n0_; clear n0_))
    go_ret
    exact ⟨rfl, HB.out⟩
  · have x0 : ((100 : Int) < (a0.size : Int)) = False := eq_false (by omega)
    have x1 : (100 < a0.size) = False := eq_false (by omega)
    by_cases h1 : 400 < a1.size
    · have x2 : ((400 : Int) < (a1.size : Int)) = True := eq_true (by omega)
      have x3 : (400 < a1.size) = True := eq_true (by omega)
      clear hm hx
      go_enter Try.func6, Try.ntmps6
      go_wp2_with (first | (go_at_call 10; (with_reducible refine (ha.out _).mono ?_); rintro e w2 ⟨rfl, hb⟩; have n0_ := Aside0.mk (below_step HB.out hb); clear HB hb; have HB := n0_; clear n0_))
      go_ret
      exact ⟨rfl, HB.out⟩
    · have x2 : ((400 : Int) < (a1.size : Int)) = False := eq_false (by omega)
      have x3 : (400 < a1.size) = False := eq_false (by omega)
      have hz : m0 = false := by
        rcases hx with h | h | h
        · omega
        · omega
        · exact h
      subst hz
      replace hm := hm (by omega)
      clear hx
      go_enter Try.func6, Try.ntmps6
      go_wp2_with (first | (go_at_call 13; (with_reducible refine (hm.out _).mono ?_); rintro e w2 ⟨rfl, hb⟩; have n0_ := Aside0.mk (below_step HB.out hb); clear HB hb; have HB := n0_; clear n0_) | (go_at_call 10; (with_reducible refine (ha.out _).mono ?_); rintro e w2 ⟨rfl, hb⟩; have n0_ := Aside0.mk (below_step HB.out hb); clear HB hb; have HB := n0_; clear n0_))
      go_ret
      exact ⟨rfl, HB.out⟩
end Go.Proofs.Ytiigjnccoeadlaa.PA
/-! ### YtiigjnccoeadlaaXOpn -/
namespace Go.Proofs.Ytiigjnccoeadlaa.PA
open Go.RowKit Go.Proofs.YtiigjnccoeadlaaW.PrintWords Go.Proofs.YtiigjnccoeadlaaW.PrintLast Go.Proofs.YtiigjnccoeadlaaW.PrintMore
attribute [local go_sem] max2_int min2_int max_two min_two max_three min_three max_four min_four
set_option linter.unusedVariables false
set_option linter.unusedSimpArgs false
theorem bulk_pos {H : Type} : ∀ d : DataW H, 1 ≤ Rows.uptoBulk d
  | .lit (.string b) => by simp [Rows.uptoBulk]
  | .lit (.int _ _) => by simp [Rows.uptoBulk]
  | .lit (.bool _) => by simp [Rows.uptoBulk]
  | .lit (.float _ _) => by simp [Rows.uptoBulk]
  | .lit .nil => by simp [Rows.uptoBulk]
  | .nil => by simp [Rows.uptoBulk]
  | .ptr d => by simp [Rows.uptoBulk]
  | .slice _ _ => by simp [Rows.uptoBulk]
  | .agg _ => by simp [Rows.uptoBulk]
  | .iface _ _ => by simp [Rows.uptoBulk]
  | .map _ => by simp [Rows.uptoBulk]
  | .held _ => by simp [Rows.uptoBulk]
theorem bulk_len {H : Type} : ∀ l : List (DataW H), l.length ≤ Rows.uptoBulkAll l
  | [] => by simp [Rows.uptoBulkAll]
  | d :: r => by
    have h1 := bulk_pos d
    have h2 := bulk_len r
    simp only [List.length_cons, Rows.uptoBulkAll]
    omega
theorem bulk_mem {H : Type} : ∀ (l : List (DataW H)) (d : DataW H), d ∈ l → Rows.uptoBulk d ≤ Rows.uptoBulkAll l
  | [], d, h => by simp at h
  | e :: r, d, h => by
    simp only [Rows.uptoBulkAll]
    rcases List.mem_cons.1 h with rfl | h
    · omega
    · have := bulk_mem r d h
      omega
/-- A reading at type t opens into a value of kind d, which is as wf says (of the reading's bulk). -/
structure Opn {α : Type} (P : Program) (t : TypeId) (d : Kd α) (wf : Nat → α → Prop) : Prop where
  sz : d.sz = P.cellsOf t
  mono : ∀ n m a, n ≤ m → wf n a → wf m a
  op : ∀ {H : Type} (enc : TypeId × Value → H) (w : World) (base : Nat) (spare : Nat → Bool) (held : Bool) (fuel : Nat) (cs : List Value) (x : DataW H × List MemPlace), DataW.trod enc P w base spare held fuel t cs = some x → ∃ a, d.K w a cs ∧ wf (Rows.uptoBulk x.1) a
section
variable {P : Program} {t : TypeId}
theorem opn_int {k : IntKind} (ht : P.underlying t = some (.int k)) (hs : P.cellsOf t = 1) : Opn P t (Kd.int k) (fun _ a => (Lit.int k a).wf = true) where
  sz := hs.symm
  mono := fun _ _ _ _ h => h
  op := fun enc w base spare held fuel cs x h => by
    obtain ⟨n, rfl, rfl, hw⟩ := DataW.trod_int ht h
    exact ⟨n, rfl, hw⟩
theorem opn_bool (ht : P.underlying t = some .bool) (hs : P.cellsOf t = 1) : Opn P t Kd.bool (fun _ _ => True) where
  sz := hs.symm
  mono := fun _ _ _ _ h => h
  op := fun enc w base spare held fuel cs x h => by
    obtain ⟨n, rfl, rfl⟩ := DataW.trod_bool ht h
    exact ⟨n, rfl, trivial⟩
theorem opn_string (ht : P.underlying t = some .string) (hs : P.cellsOf t = 1) : Opn P t Kd.string (fun n s => s.size < n ∧ s.size ≤ maxLen) where
  sz := hs.symm
  mono := fun _ _ _ h h' => ⟨Nat.lt_of_lt_of_le h'.1 h, h'.2⟩
  op := fun enc w base spare held fuel cs x h => by
    obtain ⟨s, rfl, rfl, hw⟩ := DataW.trod_string ht h
    refine ⟨s, rfl, ?_, hw⟩
    simp [Rows.uptoBulk]
theorem cells_get {w : World} {base : Nat} {a : Addr} {n : Nat} {cs : List Value} (h : w.cells? base a n = some cs) : cs.length = n ∧ ∀ i u, cs[i]? = some u → w.cell? (a.add i) = some u := by
  unfold World.cells? at h
  split at h
  · refine ⟨by simpa using mapM_some_length h, fun i u hu => ?_⟩
    have hl := mapM_some_length h
    have hi : i < cs.length := (List.getElem?_eq_some_iff.1 hu).1
    have := mapM_some_get h i i (by rw [List.getElem?_range]; simp at hl; omega)
    rw [this, hu]
  · cases h
theorem add_add (a : Addr) (i j : Nat) : (a.add i).add j = a.add (i + j) := by
  unfold Addr.add
  by_cases hi : i = 0 <;> by_cases hj : j = 0 <;> simp [hi, hj, Nat.add_assoc]
theorem opn_slice {α : Type} {e : TypeId} {d : Kd α} {wf : Nat → α → Prop} (ht : P.underlying t = some (.slice e)) (hs : P.cellsOf t = 1) (O : Opn P e d wf) :
    Opn P t (Kd.slice e d) (fun n xs => xs.length < n ∧ ∀ a ∈ xs, wf n a) where
  sz := hs.symm
  mono := fun n m a h h' => ⟨Nat.lt_of_lt_of_le h'.1 h, fun x hx => O.mono n m x h (h'.2 x hx)⟩
  op := fun enc w base spare held fuel cs x h => by
    rcases DataW.trod_slice ht h with ⟨rfl, rfl⟩ | ⟨a, len, cap, elems, rest, n, _, rfl, rfl, hb, hl, hm, hlen, hel, hsp, hns⟩
    · exact ⟨[], ⟨none, 0, rfl, Nat.le_refl _, Kd.C_nil _ _⟩, by simp [Rows.uptoBulk], by simp⟩
    · have each : ∀ i, i < len → ∃ y, elems[i]? = some y ∧ ∃ cs', w.cells? base (a.add (i * P.cellsOf e)) (P.cellsOf e) = some cs' ∧ ∃ v, d.K w v cs' ∧ wf (Rows.uptoBulk y.1) v := by
        intro i hi
        have h1 := hel i hi
        have h2 : elems[i]? = some (elems[i]'(by omega)) := List.getElem?_eq_getElem (by omega)
        rw [h2, Option.bind_eq_some_iff] at h1
        obtain ⟨cs', hc, ht'⟩ := h1
        obtain ⟨v, hv, hw⟩ := O.op enc w base spare held n cs' _ ht'
        exact ⟨_, h2, cs', hc, v, hv, hw⟩
      have ex : ∀ m, m ≤ len → ∃ xs : List α, xs.length = m ∧ ∀ i v, xs[i]? = some v → ∃ y, elems[i]? = some y ∧ ∃ cs', w.cells? base (a.add (i * P.cellsOf e)) (P.cellsOf e) = some cs' ∧ d.K w v cs' ∧ wf (Rows.uptoBulk y.1) v := by
        intro m
        induction m with
        | zero => exact fun _ => ⟨[], rfl, by simp⟩
        | succ m ih =>
          intro hm'
          obtain ⟨xs, hx, hg⟩ := ih (by omega)
          obtain ⟨y, hy, cs', hc, v, hv, hw⟩ := each m (by omega)
          refine ⟨xs ++ [v], by simp [hx], fun i u hu => ?_⟩
          by_cases hi : i < xs.length
          · rw [List.getElem?_append_left hi] at hu
            exact hg i u hu
          · rw [List.getElem?_append_right (by omega)] at hu
            have hi' : i = m := by
              have := (List.getElem?_eq_some_iff.1 hu).1
              simp at this
              omega
            subst hi'
            rw [hx, Nat.sub_self] at hu
            have : v = u := by simpa using hu
            subst this
            exact ⟨y, hy, cs', hc, hv, hw⟩
      obtain ⟨xs, hx, hg⟩ := ex len (Nat.le_refl _)
      have htot : Rows.uptoBulkAll (elems.map (·.1)) + 1 ≤ Rows.uptoBulk (DataW.slice (elems.map (·.1)) (rest.map (·.1))) := by
        simp only [Rows.uptoBulk]
        omega
      refine ⟨xs, ⟨some a, cap, by rw [hx], by omega, ⟨rfl, by unfold maxLen at hm; omega, fun _ => ⟨a, rfl, fun j p hp => ?_⟩⟩⟩, ?_, ?_⟩
      · obtain ⟨y, hy, cs', hc, hk, hw⟩ := hg j p hp
        obtain ⟨g1, g2⟩ := cells_get hc
        refine ⟨cs', by rw [g1, O.sz], hk, fun i u hu => ?_⟩
        have := g2 i u hu
        rw [add_add] at this
        rw [O.sz]
        exact this
      · have h1 := bulk_len (elems.map (·.1))
        simp only [List.length_map, hlen] at h1
        rw [hx]
        exact Nat.lt_of_lt_of_le (Nat.lt_succ_of_le h1) htot
      · intro v hv
        obtain ⟨i, hi⟩ := List.getElem?_of_mem hv
        obtain ⟨y, hy, _, _, _, hw⟩ := hg i v hi
        refine O.mono _ _ _ ?_ hw
        have hmem : y.1 ∈ elems.map (·.1) := List.mem_map_of_mem (List.mem_of_getElem? hy)
        exact Nat.le_trans (bulk_mem _ _ hmem) (Nat.le_of_succ_le htot)
/-- The fields fs of a struct, from cell o on, open into a value of kind d. -/
def OpnF {α : Type} (P : Program) (fs : List Field) (o : Nat) (d : Kd α) (wf : Nat → α → Prop) : Prop :=
  (∀ n m a, n ≤ m → wf n a → wf m a) ∧
  ∀ {H : Type} (enc : TypeId × Value → H) (w : World) (base : Nat) (spare : Nat → Bool) (held : Bool) (fuel : Nat) (cs : List Value) (ys : List (DataW H × List MemPlace)) (N : Nat),
    (∀ (i : Nat) (f : Field), fs[i]? = some f → ∃ y, ys[i]? = some y ∧ Rows.uptoBulk y.1 ≤ N ∧ DataW.trod enc P w base spare held fuel f.type ((cs.drop f.offset).take (P.cellsOf f.type)) = some y) →
    ∃ a, d.K w a ((cs.drop o).take d.sz) ∧ wf N a
theorem opnF_one {α : Type} {d : Kd α} {wf : Nat → α → Prop} {f : Field} {o : Nat} (ho : f.offset = o) (O : Opn P f.type d wf) : OpnF P [f] o d wf := by
  refine ⟨O.mono, fun enc w base spare held fuel cs ys N h => ?_⟩
  obtain ⟨y, hy, hN, ht⟩ := h 0 f rfl
  obtain ⟨a, ha, hw⟩ := O.op enc w base spare held fuel _ y ht
  refine ⟨a, ?_, O.mono _ _ _ hN hw⟩
  rw [O.sz, ← ho]
  exact ha
theorem opnF_cons {α β : Type} {d : Kd α} {d' : Kd β} {wf : Nat → α → Prop} {wf' : Nat → β → Prop} {f : Field} {fs : List Field} {o o' : Nat} (ho : f.offset = o) (O : Opn P f.type d wf) (he : o' = o + d.sz) (F : OpnF P fs o' d' wf') :
    OpnF P (f :: fs) o (Kd.pair d d') (fun n x => wf n x.1 ∧ wf' n x.2) := by
  refine ⟨fun n m a h h' => ⟨O.mono _ _ _ h h'.1, F.1 _ _ _ h h'.2⟩, fun enc w base spare held fuel cs ys N h => ?_⟩
  obtain ⟨y, hy, hN, ht⟩ := h 0 f rfl
  obtain ⟨a, ha, hw⟩ := O.op enc w base spare held fuel _ y ht
  obtain ⟨b, hb, hw'⟩ := F.2 enc w base spare held fuel cs (ys.drop 1) N (fun i g hg => by
    obtain ⟨z, hz, h1, h2⟩ := h (i + 1) g (by simpa using hg)
    refine ⟨z, ?_, h1, h2⟩
    rw [List.getElem?_drop, Nat.add_comm]
    exact hz)
  refine ⟨(a, b), ⟨(cs.drop o).take d.sz, (cs.drop o').take d'.sz, ?_, ?_, hb⟩, O.mono _ _ _ hN hw, hw'⟩
  · show (cs.drop o).take (d.sz + d'.sz) = _
    rw [List.take_add, List.drop_drop, he]
  · rw [O.sz, ← ho]
    exact ha
theorem opn_struct {α β : Type} {fs : Array Field} {d : Kd α} {wf : Nat → α → Prop} (f : β → α) (g : α → β) (hfg : ∀ a, f (g a) = a) (ht : P.underlying t = some (.struct fs)) (F : OpnF P fs.toList 0 d wf) (hs : d.sz = P.cellsOf t) :
    Opn P t (Kd.iso d f) (fun n x => wf n (f x)) where
  sz := hs
  mono := fun n m a h h' => F.1 n m (f a) h h'
  op := fun enc w base spare held fuel cs x h => by
    obtain ⟨xs, n, rfl, rfl, hl, hlen, hf⟩ := DataW.trod_struct ht h
    obtain ⟨a, ha, hw⟩ := F.2 enc w base spare held n cs xs (Rows.uptoBulk (DataW.agg (xs.map (·.1)))) (fun i q hq => by
      have h1 := hf i q (by simpa using hq)
      have hi : i < xs.length := by
        have := (List.getElem?_eq_some_iff.1 hq).1
        simp at this
        omega
      rw [List.getElem?_eq_getElem hi] at h1
      refine ⟨_, List.getElem?_eq_getElem hi, ?_, h1⟩
      have hmem : (xs[i]).1 ∈ xs.map (·.1) := List.mem_map_of_mem (List.getElem_mem hi)
      have := bulk_mem _ _ hmem
      simp only [Rows.uptoBulk]
      omega)
    refine ⟨g a, ?_, by rw [hfg]; exact hw⟩
    show d.K w (f (g a)) cs
    rw [hfg]
    rw [List.drop_zero, hs, ← hl, List.take_length] at ha
    exact ha
end
end Go.Proofs.Ytiigjnccoeadlaa.PA
/-! ### YtiigjnccoeadlaaXGlobPartsLaw -/
namespace Go.Proofs.Ytiigjnccoeadlaa.PA
open Go.RowKit Go.Proofs.YtiigjnccoeadlaaW.PrintWords Go.Proofs.YtiigjnccoeadlaaW.PrintLast Go.Proofs.YtiigjnccoeadlaaW.PrintMore
attribute [local go_sem] max2_int min2_int max_two min_two max_three min_three max_four min_four
set_option linter.unusedVariables false
set_option linter.unusedSimpArgs false
theorem globParts_law (a0 : ByteArray) (hw : ∃ n, a0.size < n ∧ a0.size ≤ maxLen) (a1 : ByteArray) (hw1 : ∃ n, a1.size < n ∧ a1.size ≤ maxLen) (w : World) :
    Calls Try.prog 6 #[.string a0, .string a1] w fun e w' => e = .returned (.bool true) ∧ Below w.heap.size w w' := by
  have haw : Aside0 (∀ w_, Calls Try.prog 10 #[] w_ fun e w' => e = .returned (.bool true) ∧ Below w_.heap.size w_ w') := ⟨fun w_ => remoralaw14_awake.calls true w_ awake14⟩
  have hmat : a0.size ≤ 100 ∧ a1.size ≤ 400 → Aside0 (∀ w_, Calls Try.prog 13 #[.string a0, .string a1] w_ fun e w' => e = .returned (.bool (mO (patO a0) a1)) ∧ Below w_.heap.size w_ w') := fun h => ⟨fun w_ => glob_Match.calls _ _ _ w_ (mat_f _ _ (by omega) (by omega))⟩
  by_cases h0 : 100 < a0.size
  · exact parts_none a0 a1 _ w (.inl h0) hmat haw
  · by_cases h1 : 400 < a1.size
    · exact parts_none a0 a1 _ w (.inr (.inl h1)) hmat haw
    · cases hm : mO (patO a0) a1 with
      | false => exact parts_none a0 a1 _ w (.inr (.inr hm)) hmat haw
      | true =>
        have hmat := hmat (by omega)
        rw [hm] at hmat
        cases hp : patO a0 with
        | none => rw [hp] at hm; cases hm
        | some l =>
          rw [hp] at hm
          have hMp : Mp l (gL a1) := (mL_iff _ _).1 hm
          have hpar : parse (a0.size + 1) (gL a0) = some l := by
            have := hp
            unfold patO at this
            rwa [if_pos (by omega)] at this
          have hsc := rsigns_call a0 (by omega)
          rw [hpar] at hsc
          exact parts_some a0 a1 l (by omega) (by omega) (patO_len hp) w hmat hsc haw (parts_or hMp) hMp (fun c hc => gL_mem a0 c (parse_lit _ _ _ hpar c hc))
end Go.Proofs.Ytiigjnccoeadlaa.PA
namespace Go.Proofs.Ytiigjnccoeadlaa.globPartsRow
open Go.ChangeShapes Go.WideShapes Go.ChangeAt Go.RowKit Go.Proofs.Ytiigjnccoeadlaa.PA Go.Proofs.YtiigjnccoeadlaaW.PrintWords Go.Proofs.YtiigjnccoeadlaaW.PrintLast Go.Proofs.YtiigjnccoeadlaaW.PrintMore
open Go.ChangeMaps (open_string shut_string)
theorem own : ownKnob Try.prog.godebug = none := by kernel_rfl
theorem laidOut : laidOutB Try.prog = true := by kernel_rfl
set_option maxHeartbeats 1000000 in
set_option maxRecDepth 100000 in
theorem lifted (os : Os) (started : os.Started) (H : Type) (enc : TypeId × Value → H) :
    ReturnsInHanded {} Try.checked os 6 .any (Rows.globPartsSpec.pre6 enc Try.prog Try.f6 Rows.globPartsRow.domain false) (Rows.globPartsSpec.post enc Try.prog Try.f6 false true false false) := by
  refine returnsInHanded_of_change_sized (C := Try.checked) own started (by kernel_rfl) Try.func6
    (ChangeSpec.witness6 (enc := enc) (C := Try.checked) false ⟨#[], #[.string ByteArray.empty, .string ByteArray.empty], []⟩ 8 (by kernel_rfl) (by kernel_rfl) (by kernel_rfl) (by kernel_rfl)) ?_
  intro W base args ds gs before hval0 hW hcnd hsz0 _
  have hval : ∀ (j : Nat) t v, Try.f6.params[j]? = some t → args[j]? = some v → Value.okWide Try.prog W .any base t v := hval0
  have hW' := hW
  obtain ⟨p, q, hA0, hV, rfl, hfz, hnd⟩ := hW
  have hA : DataW.TrodAll enc Try.prog W 0 (fun _ => true) true Try.f6.params.toList args.toList ds p := hA0
  rw [Try.params6] at hA hval
  obtain ⟨v0, vs0, d0, ds0, p0, q0, hargs, rfl, rfl, h0, r0⟩ := trodAll_cons hA
  obtain ⟨v1, vs1, d1, ds1, p1, q1, rfl, rfl, rfl, h1, r1⟩ := trodAll_cons r0
  obtain ⟨rfl, rfl, rfl⟩ := trodAll_nil r1
  obtain rfl : args = #[v0, v1] := by cases args; simp_all
  obtain ⟨rfl, rfl⟩ := trodVars_none hV
  obtain ⟨y0, rfl⟩ := okWide_string Try.underlying9 (hval 0 9 v0 rfl rfl)
  have k0 := h0
  have lt0 : ∀ x ∈ p0, x.block < W.heap.size := by obtain ⟨m, hm⟩ := k0; exact DataW.trod_lt m _ _ _ hm
  obtain ⟨fu0, hf0⟩ := h0
  obtain ⟨x0, hk0, hw0⟩ := (show Opn Try.prog 9 Kd.string (fun n x => x.size < n ∧ x.size ≤ maxLen) from (opn_string Try.underlying9 (by kernel_rfl))).op enc W 0 _ true fu0 _ _ hf0
  have e0 := (List.cons.inj hk0).1
  injection e0 with e0
  have e0 := e0.symm
  subst e0
  obtain ⟨y1, rfl⟩ := okWide_string Try.underlying9 (hval 1 9 v1 rfl rfl)
  have k1 := h1
  have lt1 : ∀ x ∈ p1, x.block < W.heap.size := by obtain ⟨m, hm⟩ := k1; exact DataW.trod_lt m _ _ _ hm
  obtain ⟨fu1, hf1⟩ := h1
  obtain ⟨x1, hk1, hw1⟩ := (show Opn Try.prog 9 Kd.string (fun n x => x.size < n ∧ x.size ≤ maxLen) from (opn_string Try.underlying9 (by kernel_rfl))).op enc W 0 _ true fu1 _ _ hf1
  have e1 := (List.cons.inj hk1).1
  injection e1 with e1
  have e1 := e1.symm
  subst e1
  refine (globParts_law x0 ⟨Rows.uptoBulk d0, hw0⟩ x1 ⟨Rows.uptoBulk d1, hw1⟩ W).mono fun e W' ⟨he, bel⟩ => ?_
  subst he
  exact ⟨_, rfl, _, _, _, [], _, [], hW', trodAll_mk1 (shut_bool Try.underlying4 _), (trodAll_cons_mk (Below.trod laidOut (by kernel_rfl) (of_decide_eq_true (by kernel_rfl)) k0 bel lt0) (trodAll_cons_mk (Below.trod laidOut (by kernel_rfl) (of_decide_eq_true (by kernel_rfl)) k1 bel lt1) trodAll_mk0)), rfl, bel.frame _, fun h => by cases h⟩
theorem over : Rows.globPartsRow.holds Try.pinned (OpenSpec.ofChange Rows.globPartsSpec) :=
  OpenClaim.holds_of_wide 6 Try.f6 rfl rfl rfl rfl rfl rfl rfl ⟨rfl, rfl, rfl, rfl, rfl⟩ rfl rfl rfl rfl rfl (by kernel_rfl) Try.func6 (by kernel_rfl)
    (of_decide_eq_true (by kernel_rfl)) (by unfold Func.isWrapper; first | (rw [if_pos (by decide +kernel)]; kernel_rfl) | (rw [if_neg (by decide +kernel)]; exact ⟨rfl, rfl⟩))
    (fun os started H enc _ => lifted os started H enc)
theorem proved : Rows.GlobPartsSaid := over
#print axioms proved
end Go.Proofs.Ytiigjnccoeadlaa.globPartsRow
namespace Go.Proofs.Ytiigjnccoeadlaa
/-- The row, under a short name, for the claim. -/
theorem globParts_holds : Rows.GlobPartsSaid := globPartsRow.proved
end Go.Proofs.Ytiigjnccoeadlaa
namespace Go.Proofs.Ytiigjnccoeadlaa.PA
end Go.Proofs.Ytiigjnccoeadlaa.PA
