/- QuickTaken: for any two entries and any options the law returns true and leaves its arguments as they were. No condition. -/
import Derived.Below
import Derived.Carry
import Derived.ChangeOld
import Derived.OpenShut
import Derived.ProofKit
import Derived.ShutString
import Derived.SizedLaws
import Derived.Test.YtniedfbchcgaoaaPAfmetaTake
import Derived.Test.YtniedfbchcgaoaaPAx0
import Derived.Test.YtniedfbchcgaoaaRows
import Derived.Test.YtniedfbchcgaoaaXDiffPure
import Derived.Test.YtniedfbchcgaoaaXOpn
import Derived.Test.YtniedfbchcgaoaaXQuickTakenW
import Derived.Test.YtniedfbchcgaoaaXSumPure
import Derived.Test.YtniedfbchcgaoaaXmetaCheck
import Derived.Test.YtniedfbchcgaoaaXquickDiff
import Derived.Test.YtniedfbchcgaoaaXremoralaw21awake
import Derived.Test.YtniedfbchcgaoaaXremoraref21Diff
import Derived.WalkKit
namespace Go.Proofs.Ytniedfbchcgaoaa.PA
open Go.RowKit Go.Proofs.YtniedfbchcgaoaaW.PrintWords Go.Proofs.YtniedfbchcgaoaaW.PrintLast Go.Proofs.YtniedfbchcgaoaaW.PrintMore
attribute [local go_sem] max2_int min2_int max_two min_two max_three min_three max_four min_four
set_option linter.unusedVariables false
set_option linter.unusedSimpArgs false
def wf23 (n : Nat) (x : S23) : Prop := ((Lit.int .i64 x.f0).wf = true) ∧ ((Lit.int .i64 x.f1).wf = true) ∧ ((Lit.int .i64 x.f2).wf = true) ∧ ((Lit.int .i64 x.f3).wf = true) ∧ ((Lit.int .i64 x.f4).wf = true)
theorem opn23 : Opn Try.prog 23 k23 wf23 := opn_struct (fun x : S23 => (x.f0, x.f1, x.f2, x.f3, x.f4)) (fun a => (⟨a.1, a.2.1, a.2.2.1, a.2.2.2.1, a.2.2.2.2⟩ : S23)) (fun _ => rfl) Try.underlying23 (opnF_cons rfl (opn_int Try.underlying3 (by kernel_rfl)) rfl (opnF_cons rfl (opn_int Try.underlying3 (by kernel_rfl)) rfl (opnF_cons rfl (opn_int Try.underlying3 (by kernel_rfl)) rfl (opnF_cons rfl (opn_int Try.underlying3 (by kernel_rfl)) rfl (opnF_one rfl (opn_int Try.underlying3 (by kernel_rfl))))))) (by kernel_rfl)
def wf25 (n : Nat) (x : S25) : Prop := (x.f0.size < n ∧ x.f0.size ≤ maxLen) ∧ ((Lit.int .i64 x.f1).wf = true) ∧ ((Lit.int .i64 x.f2).wf = true) ∧ (wf23 n x.f3) ∧ (x.f4.size < n ∧ x.f4.size ≤ maxLen) ∧ (x.f5.size < n ∧ x.f5.size ≤ maxLen) ∧ ((Lit.int .i64 x.f6).wf = true)
theorem opn25 : Opn Try.prog 25 k25 wf25 := opn_struct (fun x : S25 => (x.f0, x.f1, x.f2, x.f3, x.f4, x.f5, x.f6)) (fun a => (⟨a.1, a.2.1, a.2.2.1, a.2.2.2.1, a.2.2.2.2.1, a.2.2.2.2.2.1, a.2.2.2.2.2.2⟩ : S25)) (fun _ => rfl) Try.underlying25 (opnF_cons rfl (opn_string Try.underlying9 (by kernel_rfl)) rfl (opnF_cons rfl (opn_int Try.underlying3 (by kernel_rfl)) rfl (opnF_cons rfl (opn_int Try.underlying3 (by kernel_rfl)) rfl (opnF_cons rfl opn23 rfl (opnF_cons rfl (opn_string Try.underlying9 (by kernel_rfl)) rfl (opnF_cons rfl (opn_string Try.underlying9 (by kernel_rfl)) rfl (opnF_one rfl (opn_int Try.underlying3 (by kernel_rfl))))))))) (by kernel_rfl)
def wf27 (n : Nat) (x : S27) : Prop := ((Lit.int .i64 x.f0).wf = true) ∧ ((Lit.int .i64 x.f1).wf = true) ∧ (True) ∧ (True) ∧ (True) ∧ (True) ∧ (True) ∧ (True) ∧ (True) ∧ (True) ∧ (True) ∧ (True) ∧ (True) ∧ (True) ∧ (True) ∧ (True) ∧ (True) ∧ (True) ∧ ((Lit.int .i64 x.f18).wf = true) ∧ ((Lit.int .i64 x.f19).wf = true) ∧ ((Lit.int .i64 x.f20).wf = true)
theorem opn27 : Opn Try.prog 27 k27 wf27 := opn_struct (fun x : S27 => (x.f0, x.f1, x.f2, x.f3, x.f4, x.f5, x.f6, x.f7, x.f8, x.f9, x.f10, x.f11, x.f12, x.f13, x.f14, x.f15, x.f16, x.f17, x.f18, x.f19, x.f20)) (fun a => (⟨a.1, a.2.1, a.2.2.1, a.2.2.2.1, a.2.2.2.2.1, a.2.2.2.2.2.1, a.2.2.2.2.2.2.1, a.2.2.2.2.2.2.2.1, a.2.2.2.2.2.2.2.2.1, a.2.2.2.2.2.2.2.2.2.1, a.2.2.2.2.2.2.2.2.2.2.1, a.2.2.2.2.2.2.2.2.2.2.2.1, a.2.2.2.2.2.2.2.2.2.2.2.2.1, a.2.2.2.2.2.2.2.2.2.2.2.2.2.1, a.2.2.2.2.2.2.2.2.2.2.2.2.2.2.1, a.2.2.2.2.2.2.2.2.2.2.2.2.2.2.2.1, a.2.2.2.2.2.2.2.2.2.2.2.2.2.2.2.2.1, a.2.2.2.2.2.2.2.2.2.2.2.2.2.2.2.2.2.1, a.2.2.2.2.2.2.2.2.2.2.2.2.2.2.2.2.2.2.1, a.2.2.2.2.2.2.2.2.2.2.2.2.2.2.2.2.2.2.2.1, a.2.2.2.2.2.2.2.2.2.2.2.2.2.2.2.2.2.2.2.2⟩ : S27)) (fun _ => rfl) Try.underlying27 (opnF_cons rfl (opn_int Try.underlying3 (by kernel_rfl)) rfl (opnF_cons rfl (opn_int Try.underlying3 (by kernel_rfl)) rfl (opnF_cons rfl (opn_bool Try.underlying4 (by kernel_rfl)) rfl (opnF_cons rfl (opn_bool Try.underlying4 (by kernel_rfl)) rfl (opnF_cons rfl (opn_bool Try.underlying4 (by kernel_rfl)) rfl (opnF_cons rfl (opn_bool Try.underlying4 (by kernel_rfl)) rfl (opnF_cons rfl (opn_bool Try.underlying4 (by kernel_rfl)) rfl (opnF_cons rfl (opn_bool Try.underlying4 (by kernel_rfl)) rfl (opnF_cons rfl (opn_bool Try.underlying4 (by kernel_rfl)) rfl (opnF_cons rfl (opn_bool Try.underlying4 (by kernel_rfl)) rfl (opnF_cons rfl (opn_bool Try.underlying4 (by kernel_rfl)) rfl (opnF_cons rfl (opn_bool Try.underlying4 (by kernel_rfl)) rfl (opnF_cons rfl (opn_bool Try.underlying4 (by kernel_rfl)) rfl (opnF_cons rfl (opn_bool Try.underlying4 (by kernel_rfl)) rfl (opnF_cons rfl (opn_bool Try.underlying4 (by kernel_rfl)) rfl (opnF_cons rfl (opn_bool Try.underlying4 (by kernel_rfl)) rfl (opnF_cons rfl (opn_bool Try.underlying4 (by kernel_rfl)) rfl (opnF_cons rfl (opn_bool Try.underlying4 (by kernel_rfl)) rfl (opnF_cons rfl (opn_int Try.underlying3 (by kernel_rfl)) rfl (opnF_cons rfl (opn_int Try.underlying3 (by kernel_rfl)) rfl (opnF_one rfl (opn_int Try.underlying3 (by kernel_rfl))))))))))))))))))))))) (by kernel_rfl)
theorem metaOk_mix {a0 a1 a2 a3 a4 b0 b1 b2 b3 b4 : Int} (p t o : Bool) (ha : metaOk a0 a1 a2 a3 a4 = true) (hb : metaOk b0 b1 b2 b3 b4 = true) : metaOk (if p = true then a0 else b0) (if t = true then a1 else b1) (if t = true then a2 else b2) (if o = true then a3 else b3) (if o = true then a4 else b4) = true := by
  unfold metaOk at *
  simp only [Bool.and_eq_true] at *
  cases p <;> cases t <;> cases o <;> simp [ha, hb]
theorem taken_facts (x0 : S25) (x1 : S25) (x2 : S27) (ha : metaOk x0.f3.f0 x0.f3.f1 x0.f3.f2 x0.f3.f3 x0.f3.f4 = true) (hb : metaOk x1.f3.f0 x1.f3.f1 x1.f3.f2 x1.f3.f3 x1.f3.f4 = true) :
    (Go.bits .and .i64 (diffD x0.f0 x0.f1 x0.f2 x0.f3.f0 x0.f3.f1 x0.f3.f2 x0.f3.f3 x0.f3.f4 x0.f4 x0.f5 x0.f6 x1.f0 x1.f1 x1.f2 (if x2.f7 = true then x0.f3.f0 else x1.f3.f0) (if x2.f8 = true then x0.f3.f1 else x1.f3.f1) (if x2.f8 = true then x0.f3.f2 else x1.f3.f2) (if x2.f9 = true then x0.f3.f3 else x1.f3.f3) (if x2.f9 = true then x0.f3.f4 else x1.f3.f4) x1.f4 x1.f5 x1.f6 x2.f0 x2.f1 x2.f2 x2.f3 x2.f4 x2.f5 x2.f6 x2.f7 x2.f8 x2.f9 x2.f10 x2.f11 x2.f12 x2.f13 x2.f14 x2.f15 x2.f16 x2.f17 x2.f18 x2.f19 x2.f20) 48 != 0) = false ∧ (x2.f8 = true → (Go.bits .and .i64 (diffD x0.f0 x0.f1 x0.f2 x0.f3.f0 x0.f3.f1 x0.f3.f2 x0.f3.f3 x0.f3.f4 x0.f4 x0.f5 x0.f6 x1.f0 x1.f1 x1.f2 (if x2.f7 = true then x0.f3.f0 else x1.f3.f0) (if x2.f8 = true then x0.f3.f1 else x1.f3.f1) (if x2.f8 = true then x0.f3.f2 else x1.f3.f2) (if x2.f9 = true then x0.f3.f3 else x1.f3.f3) (if x2.f9 = true then x0.f3.f4 else x1.f3.f4) x1.f4 x1.f5 x1.f6 x2.f0 x2.f1 x2.f2 x2.f3 x2.f4 x2.f5 x2.f6 x2.f7 x2.f8 x2.f9 x2.f10 x2.f11 x2.f12 x2.f13 x2.f14 x2.f15 x2.f16 x2.f17 x2.f18 x2.f19 x2.f20) 8 != 0) = false) ∧ (Go.bits .and .i64 (diffD x0.f0 x0.f1 x0.f2 x0.f3.f0 x0.f3.f1 x0.f3.f2 x0.f3.f3 x0.f3.f4 x0.f4 x0.f5 x0.f6 x1.f0 x1.f1 x1.f2 (if x2.f7 = true then x0.f3.f0 else x1.f3.f0) (if x2.f8 = true then x0.f3.f1 else x1.f3.f1) (if x2.f8 = true then x0.f3.f2 else x1.f3.f2) (if x2.f9 = true then x0.f3.f3 else x1.f3.f3) (if x2.f9 = true then x0.f3.f4 else x1.f3.f4) x1.f4 x1.f5 x1.f6 x2.f0 x2.f1 x2.f2 x2.f3 x2.f4 x2.f5 x2.f6 x2.f7 x2.f8 x2.f9 x2.f10 x2.f11 x2.f12 x2.f13 x2.f14 x2.f15 x2.f16 x2.f17 x2.f18 x2.f19 x2.f20) 198 == Go.bits .and .i64 (diffD x0.f0 x0.f1 x0.f2 x0.f3.f0 x0.f3.f1 x0.f3.f2 x0.f3.f3 x0.f3.f4 x0.f4 x0.f5 x0.f6 x1.f0 x1.f1 x1.f2 x1.f3.f0 x1.f3.f1 x1.f3.f2 x1.f3.f3 x1.f3.f4 x1.f4 x1.f5 x1.f6 x2.f0 x2.f1 x2.f2 x2.f3 x2.f4 x2.f5 x2.f6 x2.f7 x2.f8 x2.f9 x2.f10 x2.f11 x2.f12 x2.f13 x2.f14 x2.f15 x2.f16 x2.f17 x2.f18 x2.f19 x2.f20) 198) = true := by
  unfold diffD
  by_cases hk : x0.f1 = x1.f1
  · rw [if_pos hk, if_pos hk, rDiff_sum, rDiff_sum, sumB_48, sumB_8, sumB_198, sumB_198]
    refine ⟨?_, ?_, by simp⟩
    · cases hp : x2.f7 <;> cases ho : x2.f9 <;> simp [bitI]
    · intro ht
      rw [ht]
      simp only [if_true]
      rw [nearB_same _ _ _ _ _ _ _ _ _ ha]
      · simp [bitI]
      · have := metaOk_mix x2.f7 x2.f8 x2.f9 ha hb
        rw [ht] at this
        simpa using this
  · rw [if_neg hk, if_neg hk]
    exact ⟨by decide, fun _ => by decide, by decide⟩
theorem quickTaken_law (x0 : S25) (h0 : ∃ n, wf25 n x0) (x1 : S25) (h1 : ∃ n, wf25 n x1) (x2 : S27) (h2 : ∃ n, wf27 n x2) (w : World) :
    Calls Try.prog 8 #[.agg #[.string x0.f0, .int .i64 x0.f1, .int .i64 x0.f2, .int .i64 x0.f3.f0, .int .i64 x0.f3.f1, .int .i64 x0.f3.f2, .int .i64 x0.f3.f3, .int .i64 x0.f3.f4, .string x0.f4, .string x0.f5, .int .i64 x0.f6], .agg #[.string x1.f0, .int .i64 x1.f1, .int .i64 x1.f2, .int .i64 x1.f3.f0, .int .i64 x1.f3.f1, .int .i64 x1.f3.f2, .int .i64 x1.f3.f3, .int .i64 x1.f3.f4, .string x1.f4, .string x1.f5, .int .i64 x1.f6], .agg #[.int .i64 x2.f0, .int .i64 x2.f1, .bool x2.f2, .bool x2.f3, .bool x2.f4, .bool x2.f5, .bool x2.f6, .bool x2.f7, .bool x2.f8, .bool x2.f9, .bool x2.f10, .bool x2.f11, .bool x2.f12, .bool x2.f13, .bool x2.f14, .bool x2.f15, .bool x2.f16, .bool x2.f17, .int .i64 x2.f18, .int .i64 x2.f19, .int .i64 x2.f20]] w fun e w' => e = .returned (.bool true) ∧ Below w.heap.size w w' := by
  cases ha : metaOk x0.f3.f0 x0.f3.f1 x0.f3.f2 x0.f3.f3 x0.f3.f4 with
  | false => exact quickTaken_a _ _ _ rfl rfl rfl _ _ _ _ _ _ _ _ _ _ rfl rfl rfl rfl rfl rfl rfl rfl rfl rfl ⟨fun w => meta_Check.calls _ _ _ _ _ 2 w (by unfold meta_Check.f; rw [ha]; rfl)⟩ ⟨awake_call⟩ w
  | true =>
    cases hb : metaOk x1.f3.f0 x1.f3.f1 x1.f3.f2 x1.f3.f3 x1.f3.f4 with
    | false => exact quickTaken_b _ _ _ rfl rfl rfl _ _ _ _ _ _ _ _ _ _ rfl rfl rfl rfl rfl rfl rfl rfl rfl rfl ⟨fun w => meta_Check.calls _ _ _ _ _ 0 w (by unfold meta_Check.f; rw [ha]; rfl)⟩ ⟨fun w => meta_Check.calls _ _ _ _ _ 2 w (by unfold meta_Check.f; rw [hb]; rfl)⟩ ⟨awake_call⟩ w
    | true =>
      have F := taken_facts x0 x1 x2 ha hb
      exact quickTaken_c _ _ _ rfl rfl rfl _ _ _ _ _ _ _ _ _ _ rfl rfl rfl rfl rfl rfl rfl rfl rfl rfl (if x2.f7 = true then x0.f3.f0 else x1.f3.f0) (if x2.f8 = true then x0.f3.f1 else x1.f3.f1) (if x2.f8 = true then x0.f3.f2 else x1.f3.f2) (if x2.f9 = true then x0.f3.f3 else x1.f3.f3) (if x2.f9 = true then x0.f3.f4 else x1.f3.f4) _ _ _ rfl F.1 F.2.1 F.2.2 ⟨fun w => meta_Check.calls _ _ _ _ _ 0 w (by unfold meta_Check.f; rw [ha]; rfl)⟩ ⟨fun w => meta_Check.calls _ _ _ _ _ 0 w (by unfold meta_Check.f; rw [hb]; rfl)⟩ ⟨fun w => quick_Diff.calls _ _ _ _ _ _ _ _ _ _ _ _ _ _ _ _ _ _ _ _ _ _ _ _ _ _ _ _ _ _ _ _ _ _ _ _ _ _ _ _ _ _ _ _ w (diff_prog _ _ _ _ _ _ _ _ _ _ _ _ _ _ _ _ _ _ _ _ _ _ _ _ _ _ _ _ _ _ _ _ _ _ _ _ _ _ _ _ _ _ _)⟩ ⟨fun w => meta_Take.calls 100 _ _ _ _ _ _ _ _ _ _ _ _ _ _ _ _ _ _ _ _ _ _ _ _ _ _ _ _ _ _ _ _ _ _ _ _ w (take_f _ _ _ _ _ _ _ _ _ _ _ _ _ _ _ _ _ _ _ _ _ _ _ _ _ _ _ _ _ _ _)⟩ ⟨fun w => quick_Diff.calls _ _ _ _ _ _ _ _ _ _ _ _ _ _ _ _ _ _ _ _ _ _ _ _ _ _ _ _ _ _ _ _ _ _ _ _ _ _ _ _ _ _ _ _ w (diff_prog x0.f0 x0.f1 x0.f2 x0.f3.f0 x0.f3.f1 x0.f3.f2 x0.f3.f3 x0.f3.f4 x0.f4 x0.f5 x0.f6 x1.f0 x1.f1 x1.f2 (if x2.f7 = true then x0.f3.f0 else x1.f3.f0) (if x2.f8 = true then x0.f3.f1 else x1.f3.f1) (if x2.f8 = true then x0.f3.f2 else x1.f3.f2) (if x2.f9 = true then x0.f3.f3 else x1.f3.f3) (if x2.f9 = true then x0.f3.f4 else x1.f3.f4) x1.f4 x1.f5 x1.f6 x2.f0 x2.f1 x2.f2 x2.f3 x2.f4 x2.f5 x2.f6 x2.f7 x2.f8 x2.f9 x2.f10 x2.f11 x2.f12 x2.f13 x2.f14 x2.f15 x2.f16 x2.f17 x2.f18 x2.f19 x2.f20)⟩ ⟨awake_call⟩ w
end Go.Proofs.Ytniedfbchcgaoaa.PA
namespace Go.Proofs.Ytniedfbchcgaoaa.quickTakenRow
open Go.ChangeShapes Go.WideShapes Go.ChangeAt Go.RowKit Go.Proofs.Ytniedfbchcgaoaa.PA Go.Proofs.YtniedfbchcgaoaaW.PrintWords Go.Proofs.YtniedfbchcgaoaaW.PrintLast Go.Proofs.YtniedfbchcgaoaaW.PrintMore
open Go.ChangeMaps (open_string shut_string)
theorem own : ownKnob Try.prog.godebug = none := by kernel_rfl
theorem laidOut : laidOutB Try.prog = true := by kernel_rfl
set_option maxHeartbeats 1000000 in
set_option maxRecDepth 100000 in
theorem lifted (os : Os) (started : os.Started) (H : Type) (enc : TypeId × Value → H) :
    ReturnsInHanded {} Try.checked os 8 .any (Rows.quickTakenSpec.pre6 enc Try.prog Try.f8 Rows.quickTakenRow.domain false) (Rows.quickTakenSpec.post enc Try.prog Try.f8 false true false false) := by
  refine returnsInHanded_of_change_sized (C := Try.checked) own started (by kernel_rfl) Try.func8
    (ChangeSpec.witness6 (enc := enc) (C := Try.checked) false ⟨#[], #[.agg #[.string ByteArray.empty, .int .i64 0, .int .i64 0, .int .i64 0, .int .i64 0, .int .i64 0, .int .i64 0, .int .i64 0, .string ByteArray.empty, .string ByteArray.empty, .int .i64 0], .agg #[.string ByteArray.empty, .int .i64 0, .int .i64 0, .int .i64 0, .int .i64 0, .int .i64 0, .int .i64 0, .int .i64 0, .string ByteArray.empty, .string ByteArray.empty, .int .i64 0], .agg #[.int .i64 0, .int .i64 0, .bool false, .bool false, .bool false, .bool false, .bool false, .bool false, .bool false, .bool false, .bool false, .bool false, .bool false, .bool false, .bool false, .bool false, .bool false, .bool false, .int .i64 0, .int .i64 0, .int .i64 0]], []⟩ 8 (by kernel_rfl) (by kernel_rfl) (by kernel_rfl) (by kernel_rfl)) ?_
  intro W base args ds gs before hval0 hW hcnd hsz0 _
  have hval : ∀ (j : Nat) t v, Try.f8.params[j]? = some t → args[j]? = some v → Value.okWide Try.prog W .any base t v := hval0
  have hW' := hW
  obtain ⟨p, q, hA0, hV, rfl, hfz, hnd⟩ := hW
  have hA : DataW.TrodAll enc Try.prog W 0 (fun _ => true) true Try.f8.params.toList args.toList ds p := hA0
  rw [Try.params8] at hA hval
  obtain ⟨v0, vs0, d0, ds0, p0, q0, hargs, rfl, rfl, h0, r0⟩ := trodAll_cons hA
  obtain ⟨v1, vs1, d1, ds1, p1, q1, rfl, rfl, rfl, h1, r1⟩ := trodAll_cons r0
  obtain ⟨v2, vs2, d2, ds2, p2, q2, rfl, rfl, rfl, h2, r2⟩ := trodAll_cons r1
  obtain ⟨rfl, rfl, rfl⟩ := trodAll_nil r2
  obtain rfl : args = #[v0, v1, v2] := by cases args; simp_all
  obtain ⟨rfl, rfl⟩ := trodVars_none hV
  obtain ⟨cs0, rfl, _⟩ := okWide_struct Try.underlying25 (hval 0 25 v0 rfl rfl)
  have k0 := h0
  have lt0 : ∀ x ∈ p0, x.block < W.heap.size := by obtain ⟨m, hm⟩ := k0; exact DataW.trod_lt m _ _ _ hm
  obtain ⟨fu0, hf0⟩ := h0
  obtain ⟨x0, hk0, hw0⟩ := (show Opn Try.prog 25 k25 (fun n x => wf25 n x) from opn25).op enc W 0 _ true fu0 _ _ hf0
  have e0 := k25_open hk0
  obtain rfl : cs0 = #[.string x0.f0, .int .i64 x0.f1, .int .i64 x0.f2, .int .i64 x0.f3.f0, .int .i64 x0.f3.f1, .int .i64 x0.f3.f2, .int .i64 x0.f3.f3, .int .i64 x0.f3.f4, .string x0.f4, .string x0.f5, .int .i64 x0.f6] := by cases cs0; simpa [Value.cells] using e0
  obtain ⟨cs1, rfl, _⟩ := okWide_struct Try.underlying25 (hval 1 25 v1 rfl rfl)
  have k1 := h1
  have lt1 : ∀ x ∈ p1, x.block < W.heap.size := by obtain ⟨m, hm⟩ := k1; exact DataW.trod_lt m _ _ _ hm
  obtain ⟨fu1, hf1⟩ := h1
  obtain ⟨x1, hk1, hw1⟩ := (show Opn Try.prog 25 k25 (fun n x => wf25 n x) from opn25).op enc W 0 _ true fu1 _ _ hf1
  have e1 := k25_open hk1
  obtain rfl : cs1 = #[.string x1.f0, .int .i64 x1.f1, .int .i64 x1.f2, .int .i64 x1.f3.f0, .int .i64 x1.f3.f1, .int .i64 x1.f3.f2, .int .i64 x1.f3.f3, .int .i64 x1.f3.f4, .string x1.f4, .string x1.f5, .int .i64 x1.f6] := by cases cs1; simpa [Value.cells] using e1
  obtain ⟨cs2, rfl, _⟩ := okWide_struct Try.underlying27 (hval 2 27 v2 rfl rfl)
  have k2 := h2
  have lt2 : ∀ x ∈ p2, x.block < W.heap.size := by obtain ⟨m, hm⟩ := k2; exact DataW.trod_lt m _ _ _ hm
  obtain ⟨fu2, hf2⟩ := h2
  obtain ⟨x2, hk2, hw2⟩ := (show Opn Try.prog 27 k27 (fun n x => wf27 n x) from opn27).op enc W 0 _ true fu2 _ _ hf2
  have e2 := k27_open hk2
  obtain rfl : cs2 = #[.int .i64 x2.f0, .int .i64 x2.f1, .bool x2.f2, .bool x2.f3, .bool x2.f4, .bool x2.f5, .bool x2.f6, .bool x2.f7, .bool x2.f8, .bool x2.f9, .bool x2.f10, .bool x2.f11, .bool x2.f12, .bool x2.f13, .bool x2.f14, .bool x2.f15, .bool x2.f16, .bool x2.f17, .int .i64 x2.f18, .int .i64 x2.f19, .int .i64 x2.f20] := by cases cs2; simpa [Value.cells] using e2
  refine (quickTaken_law x0 ⟨Rows.uptoBulk d0, hw0⟩ x1 ⟨Rows.uptoBulk d1, hw1⟩ x2 ⟨Rows.uptoBulk d2, hw2⟩ W).mono fun e W' ⟨he, bel⟩ => ?_
  subst he
  exact ⟨_, rfl, _, _, _, [], _, [], hW', trodAll_mk1 (shut_bool Try.underlying4 _), (trodAll_cons_mk (Below.trod laidOut (by kernel_rfl) (of_decide_eq_true (by kernel_rfl)) k0 bel lt0) (trodAll_cons_mk (Below.trod laidOut (by kernel_rfl) (of_decide_eq_true (by kernel_rfl)) k1 bel lt1) (trodAll_cons_mk (Below.trod laidOut (by kernel_rfl) (of_decide_eq_true (by kernel_rfl)) k2 bel lt2) trodAll_mk0))), rfl, bel.frame _, fun h => by cases h⟩
theorem over : Rows.quickTakenRow.holds Try.pinned (OpenSpec.ofChange Rows.quickTakenSpec) :=
  OpenClaim.holds_of_wide 8 Try.f8 rfl rfl rfl rfl rfl rfl rfl ⟨rfl, rfl, rfl, rfl, rfl⟩ rfl rfl rfl rfl rfl (by kernel_rfl) Try.func8 (by kernel_rfl)
    (of_decide_eq_true (by kernel_rfl)) (by unfold Func.isWrapper; first | (rw [if_pos (by decide +kernel)]; kernel_rfl) | (rw [if_neg (by decide +kernel)]; exact ⟨rfl, rfl⟩))
    (fun os started H enc _ => lifted os started H enc)
theorem proved : Rows.QuickTakenSaid := over
#print axioms proved
end Go.Proofs.Ytniedfbchcgaoaa.quickTakenRow
namespace Go.Proofs.Ytniedfbchcgaoaa
/-- The row, under a short name, for the claim. -/
theorem quickTaken_holds : Rows.QuickTakenSaid := quickTakenRow.proved
end Go.Proofs.Ytniedfbchcgaoaa
namespace Go.Proofs.Ytniedfbchcgaoaa.PA
end Go.Proofs.Ytniedfbchcgaoaa.PA
