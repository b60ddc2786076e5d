/- ItemPlain: for any steps the law returns true and leaves its argument as it was. No condition. -/
import Derived.Below
import Derived.Carry
import Derived.ChangeOld
import Derived.OpenShut
import Derived.ProofKit
import Derived.ShutString
import Derived.SizedLaws
import Derived.Test.YtljpcmpjfklloaaPAfremoralaw28ItemPlain
import Derived.Test.YtljpcmpjfklloaaPAfremoralaw28awake
import Derived.Test.YtljpcmpjfklloaaPAx0
import Derived.Test.YtljpcmpjfklloaaRows
import Derived.Test.YtljpcmpjfklloaaXAwakePure28
import Derived.Test.YtljpcmpjfklloaaXLineNums
import Derived.Test.YtljpcmpjfklloaaXLinesPure
import Derived.Test.YtljpcmpjfklloaaXOpn
import Derived.Test.YtljpcmpjfklloaaXSplitSpec
import Derived.WalkKit
namespace Go.Proofs.Ytljpcmpjfklloaa.PA
open Go.RowKit Go.Proofs.YtljpcmpjfklloaaW.PrintWords Go.Proofs.YtljpcmpjfklloaaW.PrintLast Go.Proofs.YtljpcmpjfklloaaW.PrintMore
attribute [local go_sem] max2_int min2_int max_two min_two max_three min_three max_four min_four
set_option linter.unusedVariables false
set_option linter.unusedSimpArgs false
def wf23 (n : Nat) (x : S23) : Prop := ((Lit.int .i64 x.f0).wf = true) ∧ ((Lit.int .i64 x.f1).wf = true) ∧ ((Lit.int .i64 x.f2).wf = true) ∧ ((Lit.int .i64 x.f3).wf = true) ∧ ((Lit.int .i64 x.f4).wf = true)
theorem opn23 : Opn Try.prog 23 k23 wf23 := opn_struct (fun x : S23 => (x.f0, x.f1, x.f2, x.f3, x.f4)) (fun a => (⟨a.1, a.2.1, a.2.2.1, a.2.2.2.1, a.2.2.2.2⟩ : S23)) (fun _ => rfl) Try.underlying23 (opnF_cons rfl (opn_int Try.underlying3 (by kernel_rfl)) rfl (opnF_cons rfl (opn_int Try.underlying3 (by kernel_rfl)) rfl (opnF_cons rfl (opn_int Try.underlying3 (by kernel_rfl)) rfl (opnF_cons rfl (opn_int Try.underlying3 (by kernel_rfl)) rfl (opnF_one rfl (opn_int Try.underlying3 (by kernel_rfl))))))) (by kernel_rfl)
def wf25 (n : Nat) (x : S25) : Prop := (x.f0.size < n ∧ x.f0.size ≤ maxLen) ∧ ((Lit.int .i64 x.f1).wf = true) ∧ ((Lit.int .i64 x.f2).wf = true) ∧ (wf23 n x.f3) ∧ (x.f4.size < n ∧ x.f4.size ≤ maxLen) ∧ (x.f5.size < n ∧ x.f5.size ≤ maxLen) ∧ ((Lit.int .i64 x.f6).wf = true)
theorem opn25 : Opn Try.prog 25 k25 wf25 := opn_struct (fun x : S25 => (x.f0, x.f1, x.f2, x.f3, x.f4, x.f5, x.f6)) (fun a => (⟨a.1, a.2.1, a.2.2.1, a.2.2.2.1, a.2.2.2.2.1, a.2.2.2.2.2.1, a.2.2.2.2.2.2⟩ : S25)) (fun _ => rfl) Try.underlying25 (opnF_cons rfl (opn_string Try.underlying9 (by kernel_rfl)) rfl (opnF_cons rfl (opn_int Try.underlying3 (by kernel_rfl)) rfl (opnF_cons rfl (opn_int Try.underlying3 (by kernel_rfl)) rfl (opnF_cons rfl opn23 rfl (opnF_cons rfl (opn_string Try.underlying9 (by kernel_rfl)) rfl (opnF_cons rfl (opn_string Try.underlying9 (by kernel_rfl)) rfl (opnF_one rfl (opn_int Try.underlying3 (by kernel_rfl))))))))) (by kernel_rfl)
def wf27 (n : Nat) (x : S27) : Prop := ((Lit.int .i64 x.f0).wf = true) ∧ (x.f1.size < n ∧ x.f1.size ≤ maxLen) ∧ (x.f2.size < n ∧ x.f2.size ≤ maxLen) ∧ (wf25 n x.f3) ∧ ((Lit.int .i64 x.f4).wf = true)
theorem opn27 : Opn Try.prog 27 k27 wf27 := opn_struct (fun x : S27 => (x.f0, x.f1, x.f2, x.f3, x.f4)) (fun a => (⟨a.1, a.2.1, a.2.2.1, a.2.2.2.1, a.2.2.2.2⟩ : S27)) (fun _ => rfl) Try.underlying27 (opnF_cons rfl (opn_int Try.underlying3 (by kernel_rfl)) rfl (opnF_cons rfl (opn_string Try.underlying9 (by kernel_rfl)) rfl (opnF_cons rfl (opn_string Try.underlying9 (by kernel_rfl)) rfl (opnF_cons rfl opn25 rfl (opnF_one rfl (opn_int Try.underlying3 (by kernel_rfl))))))) (by kernel_rfl)

theorem plain_ends (L : List S27) (b : ByteArray) (e c : Int) (hb : e = 0 → c = (L.length : Int)) (he : e ≠ 0 → b.toList = []) : (if e = 0 then (if c = (L.length : Int) then ((remoralaw28_awake.f).bind fun t108 => (some t108)) else (some false)) else (if b.toList = ([] : List UInt8) then ((remoralaw28_awake.f).bind fun t109 => (some t109)) else (some false))) = some true := by
  by_cases h : e = 0
  · rw [if_pos h, if_pos (hb h), awake_f28]; rfl
  · rw [if_neg h, if_pos (he h), awake_f28]; rfl
theorem plain_bytes (L : List S27) (xs : List Int) (hx : ∀ y ∈ xs, okN y ∨ y = 10) (e : Int) (hb : e = 0 → xs.count 10 = L.length) (he : e ≠ 0 → xs = []) (hs : xs.length ≤ 1000000) : ∀ (m i k : Nat), xs.length - i = m → i ≤ xs.length → xs.length - i + 1 ≤ k → remoralaw28_ItemPlain.l1 k L (strOfNums xs) e ((xs.take i).count 10 : Nat) ((strOfNums xs).size : Int) (i : Int) = some true := by
  intro m
  induction m with
  | zero =>
    intro i k hm hi hk
    obtain ⟨k, rfl⟩ : ∃ j, k = j + 1 := ⟨k - 1, by omega⟩
    have hz : i = xs.length := by omega
    subst hz
    rw [remoralaw28_ItemPlain.l1, if_neg (by rw [nums_size]; omega), List.take_length]
    exact plain_ends L _ e _ (fun h => by rw [hb h]) (fun h => by rw [he h]; simp [strOfNums])
  | succ m ih =>
    intro i k hm hi hk
    obtain ⟨k, rfl⟩ : ∃ j, k = j + 1 := ⟨k - 1, by omega⟩
    have hlt : i < xs.length := by omega
    have hm' := hx _ (List.getElem_mem hlt)
    have hr : 0 ≤ xs[i] ∧ xs[i] < 256 := by
      rcases hm' with h | h
      · unfold okN at h; omega
      · omega
    have hct : (xs.take (i + 1)).count 10 = (xs.take i).count 10 + if xs[i] = 10 then 1 else 0 := by
      rw [List.take_succ_eq_append_getElem hlt, List.count_append]
      by_cases h10 : xs[i] = 10
      · rw [if_pos h10, h10]; rfl
      · rw [if_neg h10, show [xs[i]].count 10 = 0 from List.count_eq_zero.2 (fun hh => h10 (List.mem_singleton.1 hh).symm)]
    have hcl : (xs.take i).count 10 ≤ 1000000 := Nat.le_trans (List.count_le_length) (by rw [List.length_take]; omega)
    rw [remoralaw28_ItemPlain.l1, if_pos (by rw [nums_size]; omega), if_pos (by omega), if_pos (by rw [nums_size]; omega), bt_nums xs i hlt hr.1 hr.2, wr64 ((i : Int) + 1) (by omega) (by omega)]
    have hrec := ih (i + 1) k (by omega) (by omega) (by omega)
    rw [hct] at hrec
    by_cases h10 : xs[i] = 10
    · rw [if_pos h10, wr64 _ (by omega) (by omega)]
      rw [if_pos h10] at hrec
      exact hrec
    · rw [if_neg h10] at hrec
      rw [if_neg h10]
      unfold okN at hm'
      rw [if_neg (by omega), if_neg (by omega)]
      exact hrec
theorem plain_light (L : List S27) (hL : L.length ≤ 40) : ∀ (m i k : Nat), L.length - i = m → i ≤ L.length → (∀ x ∈ L.take i, litS x) → L.length - i + 1000100 ≤ k → remoralaw28_ItemPlain.l0 k L L (L.length : Int) (i : Int) = some true := by
  intro m
  induction m with
  | zero =>
    intro i k hm hi hl hk
    obtain ⟨k, rfl⟩ : ∃ j, k = j + 1 := ⟨k - 1, by omega⟩
    have hz : i = L.length := by omega
    subst hz
    rw [List.take_length] at hl
    rw [remoralaw28_ItemPlain.l0, if_neg (by omega), lines_f L hL hl k (by omega), Option.bind_some]
    have hn := linesN_len L hl
    unfold linesR
    by_cases h : firstE L = 0
    · rw [if_pos h]
      exact plain_bytes L (linesN L) (linesN_mem L) 0 (fun _ => linesN_count L) (fun h => absurd rfl h) (by omega) _ 0 k rfl (by omega) (by omega)
    · rw [if_neg h]
      exact plain_bytes L [] (fun y hy => absurd hy (by simp)) (firstE L) (fun h' => absurd h' h) (fun _ => rfl) (by simp) _ 0 k rfl (by simp) (by simp only [List.length_nil]; omega)
  | succ m ih =>
    intro i k hm hi hl hk
    obtain ⟨k, rfl⟩ : ∃ j, k = j + 1 := ⟨k - 1, by omega⟩
    have hlt : i < L.length := by omega
    rw [remoralaw28_ItemPlain.l0, if_pos (by omega), if_pos (by omega), if_pos (by omega), rd_get L i hlt, light_f, Option.bind_some, wr64 ((i : Int) + 1) (by omega) (by omega)]
    by_cases hx : litS (L[i])
    · rw [if_pos (by rw [Bool.and_eq_true, decide_eq_true_iff, decide_eq_true_iff]; exact hx)]
      refine ih (i + 1) k (by omega) (by omega) ?_ (by omega)
      intro x h
      rw [List.take_succ_eq_append_getElem hlt, List.mem_append, List.mem_singleton] at h
      rcases h with h | h
      · exact hl x h
      · rw [h]; exact hx
    · rw [if_neg (by rw [Bool.and_eq_true, decide_eq_true_iff, decide_eq_true_iff]; exact hx), awake_f28]
      rfl
theorem itemPlain_f (L : List S27) : ∃ k, remoralaw28_ItemPlain.f k L = some true := by
  refine ⟨1000200, ?_⟩
  generalize hk : 1000200 = k
  unfold remoralaw28_ItemPlain.f
  by_cases h : (L.length : Int) > 40
  · rw [if_pos h, awake_f28]; rfl
  · rw [if_neg h]
    exact plain_light L (by omega) _ 0 k rfl (by omega) (fun x hx => absurd hx (by simp)) (by omega)
theorem itemPlain_law (w : World) (A0 : Option Addr) (c0 : Nat) (x0 : List S27) (hC : Kd.C k27 w A0 x0.length x0) (hL : x0.length ≤ c0) (hw : ∃ n, x0.length < n ∧ ∀ a ∈ x0, wf27 n a) :
    Calls Try.prog 6 #[.slice A0 x0.length c0] w fun e w' => e = .returned (.bool true) ∧ Below w.heap.size w w' := by
  obtain ⟨k, hk⟩ := itemPlain_f x0
  exact remoralaw28_ItemPlain.calls k A0 c0 x0 true w hC hL hk
end Go.Proofs.Ytljpcmpjfklloaa.PA
namespace Go.Proofs.Ytljpcmpjfklloaa.itemPlainRow
open Go.ChangeShapes Go.WideShapes Go.ChangeAt Go.RowKit Go.Proofs.Ytljpcmpjfklloaa.PA Go.Proofs.YtljpcmpjfklloaaW.PrintWords Go.Proofs.YtljpcmpjfklloaaW.PrintLast Go.Proofs.YtljpcmpjfklloaaW.PrintMore
open Go.ChangeMaps (open_string shut_string)
theorem own : ownKnob Try.prog.godebug = none := by kernel_rfl
theorem laidOut : laidOutB Try.prog = true := by kernel_rfl
set_option maxHeartbeats 1000000 in
set_option maxRecDepth 100000 in
theorem lifted (os : Os) (started : os.Started) (H : Type) (enc : TypeId × Value → H) :
    ReturnsInHanded {} Try.checked os 6 .any (Rows.itemPlainSpec.pre6 enc Try.prog Try.f6 Rows.itemPlainRow.domain false) (Rows.itemPlainSpec.post enc Try.prog Try.f6 false true false false) := by
  refine returnsInHanded_of_change_sized (C := Try.checked) own started (by kernel_rfl) Try.func6
    (ChangeSpec.witness6 (enc := enc) (C := Try.checked) false ⟨#[], #[.slice none 0 0], []⟩ 8 (by kernel_rfl) (by kernel_rfl) (by kernel_rfl) (by kernel_rfl)) ?_
  intro W base args ds gs before hval0 hW hcnd hsz0 _
  have hval : ∀ (j : Nat) t v, Try.f6.params[j]? = some t → args[j]? = some v → Value.okWide Try.prog W .any base t v := hval0
  have hW' := hW
  obtain ⟨p, q, hA0, hV, rfl, hfz, hnd⟩ := hW
  have hA : DataW.TrodAll enc Try.prog W 0 (fun _ => true) true Try.f6.params.toList args.toList ds p := hA0
  rw [Try.params6] at hA hval
  obtain ⟨v0, vs0, d0, ds0, p0, q0, hargs, rfl, rfl, h0, r0⟩ := trodAll_cons hA
  obtain ⟨rfl, rfl, rfl⟩ := trodAll_nil r0
  obtain rfl : args = #[v0] := by cases args; simp_all
  obtain ⟨rfl, rfl⟩ := trodVars_none hV
  obtain ⟨A0, l0, c0, rfl⟩ := okWide_slice Try.underlying34 (hval 0 34 v0 rfl rfl)
  have k0 := h0
  have lt0 : ∀ x ∈ p0, x.block < W.heap.size := by obtain ⟨m, hm⟩ := k0; exact DataW.trod_lt m _ _ _ hm
  obtain ⟨fu0, hf0⟩ := h0
  obtain ⟨x0, hk0, hw0⟩ := (show Opn Try.prog 34 (Kd.slice 27 k27) (fun n x => x.length < n ∧ ∀ a ∈ x, wf27 n a) from (opn_slice Try.underlying34 (by kernel_rfl) opn27)).op enc W 0 _ true fu0 _ _ hf0
  obtain ⟨A_, c_, e0, hL0, hC0⟩ := hk0
  simp only [Value.cells, Array.toList, List.cons.injEq, Value.slice.injEq, and_true] at e0
  obtain ⟨rfl, rfl, rfl⟩ := e0
  refine (itemPlain_law W A0 c0 x0 hC0 hL0 ⟨Rows.uptoBulk d0, hw0⟩).mono fun e W' ⟨he, bel⟩ => ?_
  subst he
  exact ⟨_, rfl, _, _, _, [], _, [], hW', trodAll_mk1 (shut_bool Try.underlying4 _), (trodAll_cons_mk (Below.trod laidOut (by kernel_rfl) (of_decide_eq_true (by kernel_rfl)) k0 bel lt0) trodAll_mk0), rfl, bel.frame _, fun h => by cases h⟩
theorem over : Rows.itemPlainRow.holds Try.pinned (OpenSpec.ofChange Rows.itemPlainSpec) :=
  OpenClaim.holds_of_wide 6 Try.f6 rfl rfl rfl rfl rfl rfl rfl ⟨rfl, rfl, rfl, rfl, rfl⟩ rfl rfl rfl rfl rfl (by kernel_rfl) Try.func6 (by kernel_rfl)
    (of_decide_eq_true (by kernel_rfl)) (by unfold Func.isWrapper; first | (rw [if_pos (by decide +kernel)]; kernel_rfl) | (rw [if_neg (by decide +kernel)]; exact ⟨rfl, rfl⟩))
    (fun os started H enc _ => lifted os started H enc)
theorem proved : Rows.ItemPlainSaid := over
#print axioms proved
end Go.Proofs.Ytljpcmpjfklloaa.itemPlainRow
namespace Go.Proofs.Ytljpcmpjfklloaa
/-- The row, under a short name, for the claim. -/
theorem itemPlain_holds : Rows.ItemPlainSaid := itemPlainRow.proved
end Go.Proofs.Ytljpcmpjfklloaa
namespace Go.Proofs.Ytljpcmpjfklloaa.PA
end Go.Proofs.Ytljpcmpjfklloaa.PA
