/- QuickSkips: for any two entries and any options the law returns true and leaves its arguments as they were. No condition. -/
import Derived.Below
import Derived.Carry
import Derived.ChangeOld
import Derived.OpenShut
import Derived.ProofKit
import Derived.ShutString
import Derived.SizedLaws
import Derived.Test.YtniedfbchcgaoaaPAfremoraref21Skips
import Derived.Test.YtniedfbchcgaoaaPAx0
import Derived.Test.YtniedfbchcgaoaaRows
import Derived.Test.YtniedfbchcgaoaaXOpn
import Derived.Test.YtniedfbchcgaoaaXQuickPure
import Derived.Test.YtniedfbchcgaoaaXQuickSkipsW
import Derived.Test.YtniedfbchcgaoaaXquickSkips
import Derived.Test.YtniedfbchcgaoaaXremoralaw21awake
import Derived.WalkKit
namespace Go.Proofs.Ytniedfbchcgaoaa.PA
open Go.RowKit Go.Proofs.YtniedfbchcgaoaaW.PrintWords Go.Proofs.YtniedfbchcgaoaaW.PrintLast Go.Proofs.YtniedfbchcgaoaaW.PrintMore
attribute [local go_sem] max2_int min2_int max_two min_two max_three min_three max_four min_four
set_option linter.unusedVariables false
set_option linter.unusedSimpArgs false
def wf23 (n : Nat) (x : S23) : Prop := ((Lit.int .i64 x.f0).wf = true) ∧ ((Lit.int .i64 x.f1).wf = true) ∧ ((Lit.int .i64 x.f2).wf = true) ∧ ((Lit.int .i64 x.f3).wf = true) ∧ ((Lit.int .i64 x.f4).wf = true)
theorem opn23 : Opn Try.prog 23 k23 wf23 := opn_struct (fun x : S23 => (x.f0, x.f1, x.f2, x.f3, x.f4)) (fun a => (⟨a.1, a.2.1, a.2.2.1, a.2.2.2.1, a.2.2.2.2⟩ : S23)) (fun _ => rfl) Try.underlying23 (opnF_cons rfl (opn_int Try.underlying3 (by kernel_rfl)) rfl (opnF_cons rfl (opn_int Try.underlying3 (by kernel_rfl)) rfl (opnF_cons rfl (opn_int Try.underlying3 (by kernel_rfl)) rfl (opnF_cons rfl (opn_int Try.underlying3 (by kernel_rfl)) rfl (opnF_one rfl (opn_int Try.underlying3 (by kernel_rfl))))))) (by kernel_rfl)
def wf25 (n : Nat) (x : S25) : Prop := (x.f0.size < n ∧ x.f0.size ≤ maxLen) ∧ ((Lit.int .i64 x.f1).wf = true) ∧ ((Lit.int .i64 x.f2).wf = true) ∧ (wf23 n x.f3) ∧ (x.f4.size < n ∧ x.f4.size ≤ maxLen) ∧ (x.f5.size < n ∧ x.f5.size ≤ maxLen) ∧ ((Lit.int .i64 x.f6).wf = true)
theorem opn25 : Opn Try.prog 25 k25 wf25 := opn_struct (fun x : S25 => (x.f0, x.f1, x.f2, x.f3, x.f4, x.f5, x.f6)) (fun a => (⟨a.1, a.2.1, a.2.2.1, a.2.2.2.1, a.2.2.2.2.1, a.2.2.2.2.2.1, a.2.2.2.2.2.2⟩ : S25)) (fun _ => rfl) Try.underlying25 (opnF_cons rfl (opn_string Try.underlying9 (by kernel_rfl)) rfl (opnF_cons rfl (opn_int Try.underlying3 (by kernel_rfl)) rfl (opnF_cons rfl (opn_int Try.underlying3 (by kernel_rfl)) rfl (opnF_cons rfl opn23 rfl (opnF_cons rfl (opn_string Try.underlying9 (by kernel_rfl)) rfl (opnF_cons rfl (opn_string Try.underlying9 (by kernel_rfl)) rfl (opnF_one rfl (opn_int Try.underlying3 (by kernel_rfl))))))))) (by kernel_rfl)
def wf27 (n : Nat) (x : S27) : Prop := ((Lit.int .i64 x.f0).wf = true) ∧ ((Lit.int .i64 x.f1).wf = true) ∧ (True) ∧ (True) ∧ (True) ∧ (True) ∧ (True) ∧ (True) ∧ (True) ∧ (True) ∧ (True) ∧ (True) ∧ (True) ∧ (True) ∧ (True) ∧ (True) ∧ (True) ∧ (True) ∧ ((Lit.int .i64 x.f18).wf = true) ∧ ((Lit.int .i64 x.f19).wf = true) ∧ ((Lit.int .i64 x.f20).wf = true)
theorem opn27 : Opn Try.prog 27 k27 wf27 := opn_struct (fun x : S27 => (x.f0, x.f1, x.f2, x.f3, x.f4, x.f5, x.f6, x.f7, x.f8, x.f9, x.f10, x.f11, x.f12, x.f13, x.f14, x.f15, x.f16, x.f17, x.f18, x.f19, x.f20)) (fun a => (⟨a.1, a.2.1, a.2.2.1, a.2.2.2.1, a.2.2.2.2.1, a.2.2.2.2.2.1, a.2.2.2.2.2.2.1, a.2.2.2.2.2.2.2.1, a.2.2.2.2.2.2.2.2.1, a.2.2.2.2.2.2.2.2.2.1, a.2.2.2.2.2.2.2.2.2.2.1, a.2.2.2.2.2.2.2.2.2.2.2.1, a.2.2.2.2.2.2.2.2.2.2.2.2.1, a.2.2.2.2.2.2.2.2.2.2.2.2.2.1, a.2.2.2.2.2.2.2.2.2.2.2.2.2.2.1, a.2.2.2.2.2.2.2.2.2.2.2.2.2.2.2.1, a.2.2.2.2.2.2.2.2.2.2.2.2.2.2.2.2.1, a.2.2.2.2.2.2.2.2.2.2.2.2.2.2.2.2.2.1, a.2.2.2.2.2.2.2.2.2.2.2.2.2.2.2.2.2.2.1, a.2.2.2.2.2.2.2.2.2.2.2.2.2.2.2.2.2.2.2.1, a.2.2.2.2.2.2.2.2.2.2.2.2.2.2.2.2.2.2.2.2⟩ : S27)) (fun _ => rfl) Try.underlying27 (opnF_cons rfl (opn_int Try.underlying3 (by kernel_rfl)) rfl (opnF_cons rfl (opn_int Try.underlying3 (by kernel_rfl)) rfl (opnF_cons rfl (opn_bool Try.underlying4 (by kernel_rfl)) rfl (opnF_cons rfl (opn_bool Try.underlying4 (by kernel_rfl)) rfl (opnF_cons rfl (opn_bool Try.underlying4 (by kernel_rfl)) rfl (opnF_cons rfl (opn_bool Try.underlying4 (by kernel_rfl)) rfl (opnF_cons rfl (opn_bool Try.underlying4 (by kernel_rfl)) rfl (opnF_cons rfl (opn_bool Try.underlying4 (by kernel_rfl)) rfl (opnF_cons rfl (opn_bool Try.underlying4 (by kernel_rfl)) rfl (opnF_cons rfl (opn_bool Try.underlying4 (by kernel_rfl)) rfl (opnF_cons rfl (opn_bool Try.underlying4 (by kernel_rfl)) rfl (opnF_cons rfl (opn_bool Try.underlying4 (by kernel_rfl)) rfl (opnF_cons rfl (opn_bool Try.underlying4 (by kernel_rfl)) rfl (opnF_cons rfl (opn_bool Try.underlying4 (by kernel_rfl)) rfl (opnF_cons rfl (opn_bool Try.underlying4 (by kernel_rfl)) rfl (opnF_cons rfl (opn_bool Try.underlying4 (by kernel_rfl)) rfl (opnF_cons rfl (opn_bool Try.underlying4 (by kernel_rfl)) rfl (opnF_cons rfl (opn_bool Try.underlying4 (by kernel_rfl)) rfl (opnF_cons rfl (opn_int Try.underlying3 (by kernel_rfl)) rfl (opnF_cons rfl (opn_int Try.underlying3 (by kernel_rfl)) rfl (opnF_one rfl (opn_int Try.underlying3 (by kernel_rfl))))))))))))))))))))))) (by kernel_rfl)
theorem quickSkips_law (x0 : S25) (h0 : ∃ n, wf25 n x0) (x1 : S25) (h1 : ∃ n, wf25 n x1) (x2 : Bool) (h2 : ∃ n : Nat, True) (x3 : S27) (h3 : ∃ n, wf27 n x3) (w : World) :
    Calls Try.prog 6 #[.agg #[.string x0.f0, .int .i64 x0.f1, .int .i64 x0.f2, .int .i64 x0.f3.f0, .int .i64 x0.f3.f1, .int .i64 x0.f3.f2, .int .i64 x0.f3.f3, .int .i64 x0.f3.f4, .string x0.f4, .string x0.f5, .int .i64 x0.f6], .agg #[.string x1.f0, .int .i64 x1.f1, .int .i64 x1.f2, .int .i64 x1.f3.f0, .int .i64 x1.f3.f1, .int .i64 x1.f3.f2, .int .i64 x1.f3.f3, .int .i64 x1.f3.f4, .string x1.f4, .string x1.f5, .int .i64 x1.f6], .bool x2, .agg #[.int .i64 x3.f0, .int .i64 x3.f1, .bool x3.f2, .bool x3.f3, .bool x3.f4, .bool x3.f5, .bool x3.f6, .bool x3.f7, .bool x3.f8, .bool x3.f9, .bool x3.f10, .bool x3.f11, .bool x3.f12, .bool x3.f13, .bool x3.f14, .bool x3.f15, .bool x3.f16, .bool x3.f17, .int .i64 x3.f18, .int .i64 x3.f19, .int .i64 x3.f20]] w fun e w' => e = .returned (.bool true) ∧ Below w.heap.size w w' :=
  quickSkips_walk _ _ _ rfl rfl rfl x2 _ ⟨fun w => quick_Skips.calls _ _ _ _ _ _ _ _ _ _ _ _ _ _ _ _ _ _ _ _ _ _ _ _ _ _ _ _ _ _ _ _ _ _ _ _ _ _ _ _ _ _ _ _ _ w (skips_prog _ _ _ _ _ _ _ _ _ _ _ _ _ _ _ _ _ _ _ _ _ _ _ _ _ _ _ _ _ _ _ _ _ _ _ _ _ _ _ _ _ _ _ _)⟩ ⟨fun w => remoraref21_Skips.calls 100 _ _ _ _ _ _ _ _ _ _ _ _ _ _ _ _ _ _ _ _ _ _ _ _ _ _ _ _ _ _ _ _ _ _ _ _ _ _ _ _ _ _ _ _ _ w (skips_ref _ _ _ _ _ _ _ _ _ _ _ _ _ _ _ _ _ _ _ _ _ _ _ _ _ _ _ _ _ _ _ _ _ _ _ _ _ _ _ _ _ _ _ _)⟩ ⟨awake_call⟩ w
end Go.Proofs.Ytniedfbchcgaoaa.PA
namespace Go.Proofs.Ytniedfbchcgaoaa.quickSkipsRow
open Go.ChangeShapes Go.WideShapes Go.ChangeAt Go.RowKit Go.Proofs.Ytniedfbchcgaoaa.PA Go.Proofs.YtniedfbchcgaoaaW.PrintWords Go.Proofs.YtniedfbchcgaoaaW.PrintLast Go.Proofs.YtniedfbchcgaoaaW.PrintMore
open Go.ChangeMaps (open_string shut_string)
theorem own : ownKnob Try.prog.godebug = none := by kernel_rfl
theorem laidOut : laidOutB Try.prog = true := by kernel_rfl
set_option maxHeartbeats 1000000 in
set_option maxRecDepth 100000 in
theorem lifted (os : Os) (started : os.Started) (H : Type) (enc : TypeId × Value → H) :
    ReturnsInHanded {} Try.checked os 6 .any (Rows.quickSkipsSpec.pre6 enc Try.prog Try.f6 Rows.quickSkipsRow.domain false) (Rows.quickSkipsSpec.post enc Try.prog Try.f6 false true false false) := by
  refine returnsInHanded_of_change_sized (C := Try.checked) own started (by kernel_rfl) Try.func6
    (ChangeSpec.witness6 (enc := enc) (C := Try.checked) false ⟨#[], #[.agg #[.string ByteArray.empty, .int .i64 0, .int .i64 0, .int .i64 0, .int .i64 0, .int .i64 0, .int .i64 0, .int .i64 0, .string ByteArray.empty, .string ByteArray.empty, .int .i64 0], .agg #[.string ByteArray.empty, .int .i64 0, .int .i64 0, .int .i64 0, .int .i64 0, .int .i64 0, .int .i64 0, .int .i64 0, .string ByteArray.empty, .string ByteArray.empty, .int .i64 0], .bool false, .agg #[.int .i64 0, .int .i64 0, .bool false, .bool false, .bool false, .bool false, .bool false, .bool false, .bool false, .bool false, .bool false, .bool false, .bool false, .bool false, .bool false, .bool false, .bool false, .bool false, .int .i64 0, .int .i64 0, .int .i64 0]], []⟩ 8 (by kernel_rfl) (by kernel_rfl) (by kernel_rfl) (by kernel_rfl)) ?_
  intro W base args ds gs before hval0 hW hcnd hsz0 _
  have hval : ∀ (j : Nat) t v, Try.f6.params[j]? = some t → args[j]? = some v → Value.okWide Try.prog W .any base t v := hval0
  have hW' := hW
  obtain ⟨p, q, hA0, hV, rfl, hfz, hnd⟩ := hW
  have hA : DataW.TrodAll enc Try.prog W 0 (fun _ => true) true Try.f6.params.toList args.toList ds p := hA0
  rw [Try.params6] at hA hval
  obtain ⟨v0, vs0, d0, ds0, p0, q0, hargs, rfl, rfl, h0, r0⟩ := trodAll_cons hA
  obtain ⟨v1, vs1, d1, ds1, p1, q1, rfl, rfl, rfl, h1, r1⟩ := trodAll_cons r0
  obtain ⟨v2, vs2, d2, ds2, p2, q2, rfl, rfl, rfl, h2, r2⟩ := trodAll_cons r1
  obtain ⟨v3, vs3, d3, ds3, p3, q3, rfl, rfl, rfl, h3, r3⟩ := trodAll_cons r2
  obtain ⟨rfl, rfl, rfl⟩ := trodAll_nil r3
  obtain rfl : args = #[v0, v1, v2, v3] := by cases args; simp_all
  obtain ⟨rfl, rfl⟩ := trodVars_none hV
  obtain ⟨cs0, rfl, _⟩ := okWide_struct Try.underlying25 (hval 0 25 v0 rfl rfl)
  have k0 := h0
  have lt0 : ∀ x ∈ p0, x.block < W.heap.size := by obtain ⟨m, hm⟩ := k0; exact DataW.trod_lt m _ _ _ hm
  obtain ⟨fu0, hf0⟩ := h0
  obtain ⟨x0, hk0, hw0⟩ := (show Opn Try.prog 25 k25 (fun n x => wf25 n x) from opn25).op enc W 0 _ true fu0 _ _ hf0
  have e0 := k25_open hk0
  obtain rfl : cs0 = #[.string x0.f0, .int .i64 x0.f1, .int .i64 x0.f2, .int .i64 x0.f3.f0, .int .i64 x0.f3.f1, .int .i64 x0.f3.f2, .int .i64 x0.f3.f3, .int .i64 x0.f3.f4, .string x0.f4, .string x0.f5, .int .i64 x0.f6] := by cases cs0; simpa [Value.cells] using e0
  obtain ⟨cs1, rfl, _⟩ := okWide_struct Try.underlying25 (hval 1 25 v1 rfl rfl)
  have k1 := h1
  have lt1 : ∀ x ∈ p1, x.block < W.heap.size := by obtain ⟨m, hm⟩ := k1; exact DataW.trod_lt m _ _ _ hm
  obtain ⟨fu1, hf1⟩ := h1
  obtain ⟨x1, hk1, hw1⟩ := (show Opn Try.prog 25 k25 (fun n x => wf25 n x) from opn25).op enc W 0 _ true fu1 _ _ hf1
  have e1 := k25_open hk1
  obtain rfl : cs1 = #[.string x1.f0, .int .i64 x1.f1, .int .i64 x1.f2, .int .i64 x1.f3.f0, .int .i64 x1.f3.f1, .int .i64 x1.f3.f2, .int .i64 x1.f3.f3, .int .i64 x1.f3.f4, .string x1.f4, .string x1.f5, .int .i64 x1.f6] := by cases cs1; simpa [Value.cells] using e1
  obtain ⟨y2, rfl⟩ := okWide_bool Try.underlying4 (hval 2 4 v2 rfl rfl)
  have k2 := h2
  have lt2 : ∀ x ∈ p2, x.block < W.heap.size := by obtain ⟨m, hm⟩ := k2; exact DataW.trod_lt m _ _ _ hm
  obtain ⟨fu2, hf2⟩ := h2
  obtain ⟨x2, hk2, hw2⟩ := (show Opn Try.prog 4 Kd.bool (fun n x => True) from (opn_bool Try.underlying4 (by kernel_rfl))).op enc W 0 _ true fu2 _ _ hf2
  have e2 := (List.cons.inj hk2).1
  injection e2 with e2
  have e2 := e2.symm
  subst e2
  obtain ⟨cs3, rfl, _⟩ := okWide_struct Try.underlying27 (hval 3 27 v3 rfl rfl)
  have k3 := h3
  have lt3 : ∀ x ∈ p3, x.block < W.heap.size := by obtain ⟨m, hm⟩ := k3; exact DataW.trod_lt m _ _ _ hm
  obtain ⟨fu3, hf3⟩ := h3
  obtain ⟨x3, hk3, hw3⟩ := (show Opn Try.prog 27 k27 (fun n x => wf27 n x) from opn27).op enc W 0 _ true fu3 _ _ hf3
  have e3 := k27_open hk3
  obtain rfl : cs3 = #[.int .i64 x3.f0, .int .i64 x3.f1, .bool x3.f2, .bool x3.f3, .bool x3.f4, .bool x3.f5, .bool x3.f6, .bool x3.f7, .bool x3.f8, .bool x3.f9, .bool x3.f10, .bool x3.f11, .bool x3.f12, .bool x3.f13, .bool x3.f14, .bool x3.f15, .bool x3.f16, .bool x3.f17, .int .i64 x3.f18, .int .i64 x3.f19, .int .i64 x3.f20] := by cases cs3; simpa [Value.cells] using e3
  refine (quickSkips_law x0 ⟨Rows.uptoBulk d0, hw0⟩ x1 ⟨Rows.uptoBulk d1, hw1⟩ x2 ⟨Rows.uptoBulk d2, hw2⟩ x3 ⟨Rows.uptoBulk d3, hw3⟩ W).mono fun e W' ⟨he, bel⟩ => ?_
  subst he
  exact ⟨_, rfl, _, _, _, [], _, [], hW', trodAll_mk1 (shut_bool Try.underlying4 _), (trodAll_cons_mk (Below.trod laidOut (by kernel_rfl) (of_decide_eq_true (by kernel_rfl)) k0 bel lt0) (trodAll_cons_mk (Below.trod laidOut (by kernel_rfl) (of_decide_eq_true (by kernel_rfl)) k1 bel lt1) (trodAll_cons_mk (Below.trod laidOut (by kernel_rfl) (of_decide_eq_true (by kernel_rfl)) k2 bel lt2) (trodAll_cons_mk (Below.trod laidOut (by kernel_rfl) (of_decide_eq_true (by kernel_rfl)) k3 bel lt3) trodAll_mk0)))), rfl, bel.frame _, fun h => by cases h⟩
theorem over : Rows.quickSkipsRow.holds Try.pinned (OpenSpec.ofChange Rows.quickSkipsSpec) :=
  OpenClaim.holds_of_wide 6 Try.f6 rfl rfl rfl rfl rfl rfl rfl ⟨rfl, rfl, rfl, rfl, rfl⟩ rfl rfl rfl rfl rfl (by kernel_rfl) Try.func6 (by kernel_rfl)
    (of_decide_eq_true (by kernel_rfl)) (by unfold Func.isWrapper; first | (rw [if_pos (by decide +kernel)]; kernel_rfl) | (rw [if_neg (by decide +kernel)]; exact ⟨rfl, rfl⟩))
    (fun os started H enc _ => lifted os started H enc)
theorem proved : Rows.QuickSkipsSaid := over
#print axioms proved
end Go.Proofs.Ytniedfbchcgaoaa.quickSkipsRow
namespace Go.Proofs.Ytniedfbchcgaoaa
/-- The row, under a short name, for the claim. -/
theorem quickSkips_holds : Rows.QuickSkipsSaid := quickSkipsRow.proved
end Go.Proofs.Ytniedfbchcgaoaa
namespace Go.Proofs.Ytniedfbchcgaoaa.PA
end Go.Proofs.Ytniedfbchcgaoaa.PA
