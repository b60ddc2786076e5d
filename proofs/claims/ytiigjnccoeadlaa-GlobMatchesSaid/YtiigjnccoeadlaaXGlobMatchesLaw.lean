/- GlobMatches: for any pattern and text the law returns true and leaves its arguments as they were. No condition. -/
import Derived.Below
import Derived.Carry
import Derived.ChangeOld
import Derived.OpenShut
import Derived.ProofKit
import Derived.ShutString
import Derived.SizedLaws
import Derived.Test.YtiigjnccoeadlaaPAfremoralaw14GlobMatches
import Derived.Test.YtiigjnccoeadlaaPAx0
import Derived.Test.YtiigjnccoeadlaaRows
import Derived.Test.YtiigjnccoeadlaaXAwake14
import Derived.Test.YtiigjnccoeadlaaXOpn
import Derived.WalkKit
namespace Go.Proofs.Ytiigjnccoeadlaa.PA
open Go.RowKit Go.Proofs.YtiigjnccoeadlaaW.PrintWords Go.Proofs.YtiigjnccoeadlaaW.PrintLast Go.Proofs.YtiigjnccoeadlaaW.PrintMore
attribute [local go_sem] max2_int min2_int max_two min_two max_three min_three max_four min_four
set_option linter.unusedVariables false
set_option linter.unusedSimpArgs false
theorem globMatches_j (a0 a1 : ByteArray) (b : Bool) (h : b = false → a0.size < 1000000 ∧ a1.size < 1000000) : remoralaw14_GlobMatches.j0 5 a0 a1 b = some true := by
  rw [remoralaw14_GlobMatches.j0, awake14]
  cases b with
  | true => rfl
  | false =>
    obtain ⟨h1, h2⟩ := h rfl
    rw [if_neg (by decide), mat_f _ _ h1 h2, rmat_f _ _ h1 h2]
    simp only [Option.bind_some, beq_self_eq_true, if_true]
theorem globMatches_f (a0 a1 : ByteArray) : remoralaw14_GlobMatches.f 5 a0 a1 = some true := by
  unfold remoralaw14_GlobMatches.f
  by_cases h : (a0.size : Int) > 400
  · rw [if_pos h]
    exact globMatches_j a0 a1 true (fun h => by cases h)
  · rw [if_neg h]
    refine globMatches_j a0 a1 _ (fun h2 => ?_)
    have h2 := of_decide_eq_false h2
    omega
theorem globMatches_law (a0 : ByteArray) (hw : ∃ n, a0.size < n ∧ a0.size ≤ maxLen) (a1 : ByteArray) (hw1 : ∃ n, a1.size < n ∧ a1.size ≤ maxLen) (w : World) :
    Calls Try.prog 4 #[.string a0, .string a1] w fun e w' => e = .returned (.bool true) ∧ Below w.heap.size w w' :=
  remoralaw14_GlobMatches.calls 5 a0 a1 true w (globMatches_f a0 a1)
end Go.Proofs.Ytiigjnccoeadlaa.PA
namespace Go.Proofs.Ytiigjnccoeadlaa.globMatchesRow
open Go.ChangeShapes Go.WideShapes Go.ChangeAt Go.RowKit Go.Proofs.Ytiigjnccoeadlaa.PA Go.Proofs.YtiigjnccoeadlaaW.PrintWords Go.Proofs.YtiigjnccoeadlaaW.PrintLast Go.Proofs.YtiigjnccoeadlaaW.PrintMore
open Go.ChangeMaps (open_string shut_string)
theorem own : ownKnob Try.prog.godebug = none := by kernel_rfl
theorem laidOut : laidOutB Try.prog = true := by kernel_rfl
set_option maxHeartbeats 1000000 in
set_option maxRecDepth 100000 in
theorem lifted (os : Os) (started : os.Started) (H : Type) (enc : TypeId × Value → H) :
    ReturnsInHanded {} Try.checked os 4 .any (Rows.globMatchesSpec.pre6 enc Try.prog Try.f4 Rows.globMatchesRow.domain false) (Rows.globMatchesSpec.post enc Try.prog Try.f4 false true false false) := by
  refine returnsInHanded_of_change_sized (C := Try.checked) own started (by kernel_rfl) Try.func4
    (ChangeSpec.witness6 (enc := enc) (C := Try.checked) false ⟨#[], #[.string ByteArray.empty, .string ByteArray.empty], []⟩ 8 (by kernel_rfl) (by kernel_rfl) (by kernel_rfl) (by kernel_rfl)) ?_
  intro W base args ds gs before hval0 hW hcnd hsz0 _
  have hval : ∀ (j : Nat) t v, Try.f4.params[j]? = some t → args[j]? = some v → Value.okWide Try.prog W .any base t v := hval0
  have hW' := hW
  obtain ⟨p, q, hA0, hV, rfl, hfz, hnd⟩ := hW
  have hA : DataW.TrodAll enc Try.prog W 0 (fun _ => true) true Try.f4.params.toList args.toList ds p := hA0
  rw [Try.params4] at hA hval
  obtain ⟨v0, vs0, d0, ds0, p0, q0, hargs, rfl, rfl, h0, r0⟩ := trodAll_cons hA
  obtain ⟨v1, vs1, d1, ds1, p1, q1, rfl, rfl, rfl, h1, r1⟩ := trodAll_cons r0
  obtain ⟨rfl, rfl, rfl⟩ := trodAll_nil r1
  obtain rfl : args = #[v0, v1] := by cases args; simp_all
  obtain ⟨rfl, rfl⟩ := trodVars_none hV
  obtain ⟨y0, rfl⟩ := okWide_string Try.underlying9 (hval 0 9 v0 rfl rfl)
  have k0 := h0
  have lt0 : ∀ x ∈ p0, x.block < W.heap.size := by obtain ⟨m, hm⟩ := k0; exact DataW.trod_lt m _ _ _ hm
  obtain ⟨fu0, hf0⟩ := h0
  obtain ⟨x0, hk0, hw0⟩ := (show Opn Try.prog 9 Kd.string (fun n x => x.size < n ∧ x.size ≤ maxLen) from (opn_string Try.underlying9 (by kernel_rfl))).op enc W 0 _ true fu0 _ _ hf0
  have e0 := (List.cons.inj hk0).1
  injection e0 with e0
  have e0 := e0.symm
  subst e0
  obtain ⟨y1, rfl⟩ := okWide_string Try.underlying9 (hval 1 9 v1 rfl rfl)
  have k1 := h1
  have lt1 : ∀ x ∈ p1, x.block < W.heap.size := by obtain ⟨m, hm⟩ := k1; exact DataW.trod_lt m _ _ _ hm
  obtain ⟨fu1, hf1⟩ := h1
  obtain ⟨x1, hk1, hw1⟩ := (show Opn Try.prog 9 Kd.string (fun n x => x.size < n ∧ x.size ≤ maxLen) from (opn_string Try.underlying9 (by kernel_rfl))).op enc W 0 _ true fu1 _ _ hf1
  have e1 := (List.cons.inj hk1).1
  injection e1 with e1
  have e1 := e1.symm
  subst e1
  refine (globMatches_law x0 ⟨Rows.uptoBulk d0, hw0⟩ x1 ⟨Rows.uptoBulk d1, hw1⟩ W).mono fun e W' ⟨he, bel⟩ => ?_
  subst he
  exact ⟨_, rfl, _, _, _, [], _, [], hW', trodAll_mk1 (shut_bool Try.underlying4 _), (trodAll_cons_mk (Below.trod laidOut (by kernel_rfl) (of_decide_eq_true (by kernel_rfl)) k0 bel lt0) (trodAll_cons_mk (Below.trod laidOut (by kernel_rfl) (of_decide_eq_true (by kernel_rfl)) k1 bel lt1) trodAll_mk0)), rfl, bel.frame _, fun h => by cases h⟩
theorem over : Rows.globMatchesRow.holds Try.pinned (OpenSpec.ofChange Rows.globMatchesSpec) :=
  OpenClaim.holds_of_wide 4 Try.f4 rfl rfl rfl rfl rfl rfl rfl ⟨rfl, rfl, rfl, rfl, rfl⟩ rfl rfl rfl rfl rfl (by kernel_rfl) Try.func4 (by kernel_rfl)
    (of_decide_eq_true (by kernel_rfl)) (by unfold Func.isWrapper; first | (rw [if_pos (by decide +kernel)]; kernel_rfl) | (rw [if_neg (by decide +kernel)]; exact ⟨rfl, rfl⟩))
    (fun os started H enc _ => lifted os started H enc)
theorem proved : Rows.GlobMatchesSaid := over
#print axioms proved
end Go.Proofs.Ytiigjnccoeadlaa.globMatchesRow
namespace Go.Proofs.Ytiigjnccoeadlaa
/-- The row, under a short name, for the claim. -/
theorem globMatches_holds : Rows.GlobMatchesSaid := globMatchesRow.proved
end Go.Proofs.Ytiigjnccoeadlaa
namespace Go.Proofs.Ytiigjnccoeadlaa.PA
end Go.Proofs.Ytiigjnccoeadlaa.PA
