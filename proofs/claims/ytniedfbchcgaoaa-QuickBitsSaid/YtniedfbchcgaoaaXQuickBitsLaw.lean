/- QuickBits: for any differences, any number and any options the law returns true and leaves its arguments as they were. No condition. -/
import Derived.Below
import Derived.Carry
import Derived.ChangeOld
import Derived.OpenShut
import Derived.ProofKit
import Derived.ShutString
import Derived.SizedLaws
import Derived.Test.YtniedfbchcgaoaaPAfquickData
import Derived.Test.YtniedfbchcgaoaaPAx0
import Derived.Test.YtniedfbchcgaoaaRows
import Derived.Test.YtniedfbchcgaoaaXBitsPure
import Derived.Test.YtniedfbchcgaoaaXNearPure
import Derived.Test.YtniedfbchcgaoaaXOpn
import Derived.Test.YtniedfbchcgaoaaXQuickBitsW
import Derived.Test.YtniedfbchcgaoaaXQuickPure
import Derived.Test.YtniedfbchcgaoaaXremoralaw21awake
import Derived.WalkKit
namespace Go.Proofs.Ytniedfbchcgaoaa.PA
open Go.RowKit Go.Proofs.YtniedfbchcgaoaaW.PrintWords Go.Proofs.YtniedfbchcgaoaaW.PrintLast Go.Proofs.YtniedfbchcgaoaaW.PrintMore
attribute [local go_sem] max2_int min2_int max_two min_two max_three min_three max_four min_four
set_option linter.unusedVariables false
set_option linter.unusedSimpArgs false
def wf27 (n : Nat) (x : S27) : Prop := ((Lit.int .i64 x.f0).wf = true) ∧ ((Lit.int .i64 x.f1).wf = true) ∧ (True) ∧ (True) ∧ (True) ∧ (True) ∧ (True) ∧ (True) ∧ (True) ∧ (True) ∧ (True) ∧ (True) ∧ (True) ∧ (True) ∧ (True) ∧ (True) ∧ (True) ∧ (True) ∧ ((Lit.int .i64 x.f18).wf = true) ∧ ((Lit.int .i64 x.f19).wf = true) ∧ ((Lit.int .i64 x.f20).wf = true)
theorem opn27 : Opn Try.prog 27 k27 wf27 := opn_struct (fun x : S27 => (x.f0, x.f1, x.f2, x.f3, x.f4, x.f5, x.f6, x.f7, x.f8, x.f9, x.f10, x.f11, x.f12, x.f13, x.f14, x.f15, x.f16, x.f17, x.f18, x.f19, x.f20)) (fun a => (⟨a.1, a.2.1, a.2.2.1, a.2.2.2.1, a.2.2.2.2.1, a.2.2.2.2.2.1, a.2.2.2.2.2.2.1, a.2.2.2.2.2.2.2.1, a.2.2.2.2.2.2.2.2.1, a.2.2.2.2.2.2.2.2.2.1, a.2.2.2.2.2.2.2.2.2.2.1, a.2.2.2.2.2.2.2.2.2.2.2.1, a.2.2.2.2.2.2.2.2.2.2.2.2.1, a.2.2.2.2.2.2.2.2.2.2.2.2.2.1, a.2.2.2.2.2.2.2.2.2.2.2.2.2.2.1, a.2.2.2.2.2.2.2.2.2.2.2.2.2.2.2.1, a.2.2.2.2.2.2.2.2.2.2.2.2.2.2.2.2.1, a.2.2.2.2.2.2.2.2.2.2.2.2.2.2.2.2.2.1, a.2.2.2.2.2.2.2.2.2.2.2.2.2.2.2.2.2.2.1, a.2.2.2.2.2.2.2.2.2.2.2.2.2.2.2.2.2.2.2.1, a.2.2.2.2.2.2.2.2.2.2.2.2.2.2.2.2.2.2.2.2⟩ : S27)) (fun _ => rfl) Try.underlying27 (opnF_cons rfl (opn_int Try.underlying3 (by kernel_rfl)) rfl (opnF_cons rfl (opn_int Try.underlying3 (by kernel_rfl)) rfl (opnF_cons rfl (opn_bool Try.underlying4 (by kernel_rfl)) rfl (opnF_cons rfl (opn_bool Try.underlying4 (by kernel_rfl)) rfl (opnF_cons rfl (opn_bool Try.underlying4 (by kernel_rfl)) rfl (opnF_cons rfl (opn_bool Try.underlying4 (by kernel_rfl)) rfl (opnF_cons rfl (opn_bool Try.underlying4 (by kernel_rfl)) rfl (opnF_cons rfl (opn_bool Try.underlying4 (by kernel_rfl)) rfl (opnF_cons rfl (opn_bool Try.underlying4 (by kernel_rfl)) rfl (opnF_cons rfl (opn_bool Try.underlying4 (by kernel_rfl)) rfl (opnF_cons rfl (opn_bool Try.underlying4 (by kernel_rfl)) rfl (opnF_cons rfl (opn_bool Try.underlying4 (by kernel_rfl)) rfl (opnF_cons rfl (opn_bool Try.underlying4 (by kernel_rfl)) rfl (opnF_cons rfl (opn_bool Try.underlying4 (by kernel_rfl)) rfl (opnF_cons rfl (opn_bool Try.underlying4 (by kernel_rfl)) rfl (opnF_cons rfl (opn_bool Try.underlying4 (by kernel_rfl)) rfl (opnF_cons rfl (opn_bool Try.underlying4 (by kernel_rfl)) rfl (opnF_cons rfl (opn_bool Try.underlying4 (by kernel_rfl)) rfl (opnF_cons rfl (opn_int Try.underlying3 (by kernel_rfl)) rfl (opnF_cons rfl (opn_int Try.underlying3 (by kernel_rfl)) rfl (opnF_one rfl (opn_int Try.underlying3 (by kernel_rfl))))))))))))))))))))))) (by kernel_rfl)
theorem quickBits_law (x0 : Int) (h0 : ∃ n : Nat, (Lit.int .i64 x0).wf = true) (x1 : Int) (h1 : ∃ n : Nat, (Lit.int .u64 x1).wf = true) (x2 : S27) (h2 : ∃ n, wf27 n x2) (w : World) :
    Calls Try.prog 5 #[.int .i64 x0, .int .u64 x1, .agg #[.int .i64 x2.f0, .int .i64 x2.f1, .bool x2.f2, .bool x2.f3, .bool x2.f4, .bool x2.f5, .bool x2.f6, .bool x2.f7, .bool x2.f8, .bool x2.f9, .bool x2.f10, .bool x2.f11, .bool x2.f12, .bool x2.f13, .bool x2.f14, .bool x2.f15, .bool x2.f16, .bool x2.f17, .int .i64 x2.f18, .int .i64 x2.f19, .int .i64 x2.f20]] w fun e w' => e = .returned (.bool true) ∧ Below w.heap.size w w' := by
  obtain ⟨_, hw⟩ := h1
  have hi : 0 ≤ x1 ∧ x1 < 18446744073709551616 := by
    have hw2 : (decide (IntKind.u64.min ≤ x1) && decide (x1 ≤ IntKind.u64.max)) = true := hw
    rw [Bool.and_eq_true, decide_eq_true_iff, decide_eq_true_iff] at hw2
    have a : IntKind.u64.min = 0 := by decide
    have b : IntKind.u64.max = 18446744073709551615 := by decide
    omega
  exact quickBits_walk _ rfl x0 x1 hi.1 hi.2 _ _ _ rfl
    (fun h => by
      have hp : (2 : Int) ^ (x1 % 9).toNat ≤ 256 := pow9 _ (by omega)
      have hq : (0 : Int) < 2 ^ (x1 % 9).toNat := Int.pow_pos (by decide)
      rw [w64 (by omega) (by omega)]
      exact data_more x0 _ (by omega) _ _ h)
    ⟨fun w => quick_Data.calls _ _ _ _ _ _ _ _ _ _ _ _ _ _ _ _ _ _ _ _ _ _ _ w (data_prog _ _ _ _ _ _ _ _ _ _ _ _ _ _ _ _ _ _ _ _ _ _)⟩ ⟨fun w => quick_Data.calls _ _ _ _ _ _ _ _ _ _ _ _ _ _ _ _ _ _ _ _ _ _ _ w (data_prog _ _ _ _ _ _ _ _ _ _ _ _ _ _ _ _ _ _ _ _ _ _)⟩ ⟨awake_call⟩ w
end Go.Proofs.Ytniedfbchcgaoaa.PA
namespace Go.Proofs.Ytniedfbchcgaoaa.quickBitsRow
open Go.ChangeShapes Go.WideShapes Go.ChangeAt Go.RowKit Go.Proofs.Ytniedfbchcgaoaa.PA Go.Proofs.YtniedfbchcgaoaaW.PrintWords Go.Proofs.YtniedfbchcgaoaaW.PrintLast Go.Proofs.YtniedfbchcgaoaaW.PrintMore
open Go.ChangeMaps (open_string shut_string)
theorem own : ownKnob Try.prog.godebug = none := by kernel_rfl
theorem laidOut : laidOutB Try.prog = true := by kernel_rfl
set_option maxHeartbeats 1000000 in
set_option maxRecDepth 100000 in
theorem lifted (os : Os) (started : os.Started) (H : Type) (enc : TypeId × Value → H) :
    ReturnsInHanded {} Try.checked os 5 .any (Rows.quickBitsSpec.pre6 enc Try.prog Try.f5 Rows.quickBitsRow.domain false) (Rows.quickBitsSpec.post enc Try.prog Try.f5 false true false false) := by
  refine returnsInHanded_of_change_sized (C := Try.checked) own started (by kernel_rfl) Try.func5
    (ChangeSpec.witness6 (enc := enc) (C := Try.checked) false ⟨#[], #[.int .i64 0, .int .u64 0, .agg #[.int .i64 0, .int .i64 0, .bool false, .bool false, .bool false, .bool false, .bool false, .bool false, .bool false, .bool false, .bool false, .bool false, .bool false, .bool false, .bool false, .bool false, .bool false, .bool false, .int .i64 0, .int .i64 0, .int .i64 0]], []⟩ 8 (by kernel_rfl) (by kernel_rfl) (by kernel_rfl) (by kernel_rfl)) ?_
  intro W base args ds gs before hval0 hW hcnd hsz0 _
  have hval : ∀ (j : Nat) t v, Try.f5.params[j]? = some t → args[j]? = some v → Value.okWide Try.prog W .any base t v := hval0
  have hW' := hW
  obtain ⟨p, q, hA0, hV, rfl, hfz, hnd⟩ := hW
  have hA : DataW.TrodAll enc Try.prog W 0 (fun _ => true) true Try.f5.params.toList args.toList ds p := hA0
  rw [Try.params5] at hA hval
  obtain ⟨v0, vs0, d0, ds0, p0, q0, hargs, rfl, rfl, h0, r0⟩ := trodAll_cons hA
  obtain ⟨v1, vs1, d1, ds1, p1, q1, rfl, rfl, rfl, h1, r1⟩ := trodAll_cons r0
  obtain ⟨v2, vs2, d2, ds2, p2, q2, rfl, rfl, rfl, h2, r2⟩ := trodAll_cons r1
  obtain ⟨rfl, rfl, rfl⟩ := trodAll_nil r2
  obtain rfl : args = #[v0, v1, v2] := by cases args; simp_all
  obtain ⟨rfl, rfl⟩ := trodVars_none hV
  obtain ⟨y0, rfl⟩ := okWide_int Try.underlying3 (hval 0 3 v0 rfl rfl)
  have k0 := h0
  have lt0 : ∀ x ∈ p0, x.block < W.heap.size := by obtain ⟨m, hm⟩ := k0; exact DataW.trod_lt m _ _ _ hm
  obtain ⟨fu0, hf0⟩ := h0
  obtain ⟨x0, hk0, hw0⟩ := (show Opn Try.prog 3 (Kd.int .i64) (fun n x => (Lit.int .i64 x).wf = true) from (opn_int Try.underlying3 (by kernel_rfl))).op enc W 0 _ true fu0 _ _ hf0
  have e0 := (List.cons.inj hk0).1
  injection e0 with _ e0
  have e0 := e0.symm
  subst e0
  obtain ⟨y1, rfl⟩ := okWide_int Try.underlying33 (hval 1 33 v1 rfl rfl)
  have k1 := h1
  have lt1 : ∀ x ∈ p1, x.block < W.heap.size := by obtain ⟨m, hm⟩ := k1; exact DataW.trod_lt m _ _ _ hm
  obtain ⟨fu1, hf1⟩ := h1
  obtain ⟨x1, hk1, hw1⟩ := (show Opn Try.prog 33 (Kd.int .u64) (fun n x => (Lit.int .u64 x).wf = true) from (opn_int Try.underlying33 (by kernel_rfl))).op enc W 0 _ true fu1 _ _ hf1
  have e1 := (List.cons.inj hk1).1
  injection e1 with _ e1
  have e1 := e1.symm
  subst e1
  obtain ⟨cs2, rfl, _⟩ := okWide_struct Try.underlying27 (hval 2 27 v2 rfl rfl)
  have k2 := h2
  have lt2 : ∀ x ∈ p2, x.block < W.heap.size := by obtain ⟨m, hm⟩ := k2; exact DataW.trod_lt m _ _ _ hm
  obtain ⟨fu2, hf2⟩ := h2
  obtain ⟨x2, hk2, hw2⟩ := (show Opn Try.prog 27 k27 (fun n x => wf27 n x) from opn27).op enc W 0 _ true fu2 _ _ hf2
  have e2 := k27_open hk2
  obtain rfl : cs2 = #[.int .i64 x2.f0, .int .i64 x2.f1, .bool x2.f2, .bool x2.f3, .bool x2.f4, .bool x2.f5, .bool x2.f6, .bool x2.f7, .bool x2.f8, .bool x2.f9, .bool x2.f10, .bool x2.f11, .bool x2.f12, .bool x2.f13, .bool x2.f14, .bool x2.f15, .bool x2.f16, .bool x2.f17, .int .i64 x2.f18, .int .i64 x2.f19, .int .i64 x2.f20] := by cases cs2; simpa [Value.cells] using e2
  refine (quickBits_law x0 ⟨Rows.uptoBulk d0, hw0⟩ x1 ⟨Rows.uptoBulk d1, hw1⟩ x2 ⟨Rows.uptoBulk d2, hw2⟩ W).mono fun e W' ⟨he, bel⟩ => ?_
  subst he
  exact ⟨_, rfl, _, _, _, [], _, [], hW', trodAll_mk1 (shut_bool Try.underlying4 _), (trodAll_cons_mk (Below.trod laidOut (by kernel_rfl) (of_decide_eq_true (by kernel_rfl)) k0 bel lt0) (trodAll_cons_mk (Below.trod laidOut (by kernel_rfl) (of_decide_eq_true (by kernel_rfl)) k1 bel lt1) (trodAll_cons_mk (Below.trod laidOut (by kernel_rfl) (of_decide_eq_true (by kernel_rfl)) k2 bel lt2) trodAll_mk0))), rfl, bel.frame _, fun h => by cases h⟩
theorem over : Rows.quickBitsRow.holds Try.pinned (OpenSpec.ofChange Rows.quickBitsSpec) :=
  OpenClaim.holds_of_wide 5 Try.f5 rfl rfl rfl rfl rfl rfl rfl ⟨rfl, rfl, rfl, rfl, rfl⟩ rfl rfl rfl rfl rfl (by kernel_rfl) Try.func5 (by kernel_rfl)
    (of_decide_eq_true (by kernel_rfl)) (by unfold Func.isWrapper; first | (rw [if_pos (by decide +kernel)]; kernel_rfl) | (rw [if_neg (by decide +kernel)]; exact ⟨rfl, rfl⟩))
    (fun os started H enc _ => lifted os started H enc)
theorem proved : Rows.QuickBitsSaid := over
#print axioms proved
end Go.Proofs.Ytniedfbchcgaoaa.quickBitsRow
namespace Go.Proofs.Ytniedfbchcgaoaa
/-- The row, under a short name, for the claim. -/
theorem quickBits_holds : Rows.QuickBitsSaid := quickBitsRow.proved
end Go.Proofs.Ytniedfbchcgaoaa
namespace Go.Proofs.Ytniedfbchcgaoaa.PA
end Go.Proofs.Ytniedfbchcgaoaa.PA
