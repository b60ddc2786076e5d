/- ItemSigns: for any step the law returns true and leaves its argument as it was. No condition. -/
import Derived.Below
import Derived.Carry
import Derived.ChangeOld
import Derived.OpenShut
import Derived.ProofKit
import Derived.ShutString
import Derived.SizedLaws
import Derived.Test.YtljpcmpjfklloaaPAfremoralaw28awake
import Derived.Test.YtljpcmpjfklloaaPAfremoralaw28light
import Derived.Test.YtljpcmpjfklloaaPAx0
import Derived.Test.YtljpcmpjfklloaaRows
import Derived.Test.YtljpcmpjfklloaaXAwakePure28
import Derived.Test.YtljpcmpjfklloaaXItemSignsW
import Derived.Test.YtljpcmpjfklloaaXOpn
import Derived.Test.YtljpcmpjfklloaaXSignsPure
import Derived.Test.YtljpcmpjfklloaaXitemLine
import Derived.Test.YtljpcmpjfklloaaXitemcheck
import Derived.Test.YtljpcmpjfklloaaXquickText
import Derived.WalkKit
namespace Go.Proofs.Ytljpcmpjfklloaa.PA
open Go.RowKit Go.Proofs.YtljpcmpjfklloaaW.PrintWords Go.Proofs.YtljpcmpjfklloaaW.PrintLast Go.Proofs.YtljpcmpjfklloaaW.PrintMore
attribute [local go_sem] max2_int min2_int max_two min_two max_three min_three max_four min_four
set_option linter.unusedVariables false
set_option linter.unusedSimpArgs false
def wf23 (n : Nat) (x : S23) : Prop := ((Lit.int .i64 x.f0).wf = true) ∧ ((Lit.int .i64 x.f1).wf = true) ∧ ((Lit.int .i64 x.f2).wf = true) ∧ ((Lit.int .i64 x.f3).wf = true) ∧ ((Lit.int .i64 x.f4).wf = true)
theorem opn23 : Opn Try.prog 23 k23 wf23 := opn_struct (fun x : S23 => (x.f0, x.f1, x.f2, x.f3, x.f4)) (fun a => (⟨a.1, a.2.1, a.2.2.1, a.2.2.2.1, a.2.2.2.2⟩ : S23)) (fun _ => rfl) Try.underlying23 (opnF_cons rfl (opn_int Try.underlying3 (by kernel_rfl)) rfl (opnF_cons rfl (opn_int Try.underlying3 (by kernel_rfl)) rfl (opnF_cons rfl (opn_int Try.underlying3 (by kernel_rfl)) rfl (opnF_cons rfl (opn_int Try.underlying3 (by kernel_rfl)) rfl (opnF_one rfl (opn_int Try.underlying3 (by kernel_rfl))))))) (by kernel_rfl)
def wf25 (n : Nat) (x : S25) : Prop := (x.f0.size < n ∧ x.f0.size ≤ maxLen) ∧ ((Lit.int .i64 x.f1).wf = true) ∧ ((Lit.int .i64 x.f2).wf = true) ∧ (wf23 n x.f3) ∧ (x.f4.size < n ∧ x.f4.size ≤ maxLen) ∧ (x.f5.size < n ∧ x.f5.size ≤ maxLen) ∧ ((Lit.int .i64 x.f6).wf = true)
theorem opn25 : Opn Try.prog 25 k25 wf25 := opn_struct (fun x : S25 => (x.f0, x.f1, x.f2, x.f3, x.f4, x.f5, x.f6)) (fun a => (⟨a.1, a.2.1, a.2.2.1, a.2.2.2.1, a.2.2.2.2.1, a.2.2.2.2.2.1, a.2.2.2.2.2.2⟩ : S25)) (fun _ => rfl) Try.underlying25 (opnF_cons rfl (opn_string Try.underlying9 (by kernel_rfl)) rfl (opnF_cons rfl (opn_int Try.underlying3 (by kernel_rfl)) rfl (opnF_cons rfl (opn_int Try.underlying3 (by kernel_rfl)) rfl (opnF_cons rfl opn23 rfl (opnF_cons rfl (opn_string Try.underlying9 (by kernel_rfl)) rfl (opnF_cons rfl (opn_string Try.underlying9 (by kernel_rfl)) rfl (opnF_one rfl (opn_int Try.underlying3 (by kernel_rfl))))))))) (by kernel_rfl)
def wf27 (n : Nat) (x : S27) : Prop := ((Lit.int .i64 x.f0).wf = true) ∧ (x.f1.size < n ∧ x.f1.size ≤ maxLen) ∧ (x.f2.size < n ∧ x.f2.size ≤ maxLen) ∧ (wf25 n x.f3) ∧ ((Lit.int .i64 x.f4).wf = true)
theorem opn27 : Opn Try.prog 27 k27 wf27 := opn_struct (fun x : S27 => (x.f0, x.f1, x.f2, x.f3, x.f4)) (fun a => (⟨a.1, a.2.1, a.2.2.1, a.2.2.2.1, a.2.2.2.2⟩ : S27)) (fun _ => rfl) Try.underlying27 (opnF_cons rfl (opn_int Try.underlying3 (by kernel_rfl)) rfl (opnF_cons rfl (opn_string Try.underlying9 (by kernel_rfl)) rfl (opnF_cons rfl (opn_string Try.underlying9 (by kernel_rfl)) rfl (opnF_cons rfl opn25 rfl (opnF_one rfl (opn_int Try.underlying3 (by kernel_rfl))))))) (by kernel_rfl)
theorem itemSigns_law (x0 : S27) (h0 : ∃ n, wf27 n x0) (w : World) :
    Calls Try.prog 4 #[.agg #[.int .i64 x0.f0, .string x0.f1, .string x0.f2, .string x0.f3.f0, .int .i64 x0.f3.f1, .int .i64 x0.f3.f2, .int .i64 x0.f3.f3.f0, .int .i64 x0.f3.f3.f1, .int .i64 x0.f3.f3.f2, .int .i64 x0.f3.f3.f3, .int .i64 x0.f3.f3.f4, .string x0.f3.f4, .string x0.f3.f5, .int .i64 x0.f3.f6, .int .i64 x0.f4]] w fun e w' => e = .returned (.bool true) ∧ Below w.heap.size w w' := by
  have hb : ∀ {P : Prop}, ((decide ((x0.f1.size : Int) ≤ 1000) && decide ((x0.f2.size : Int) ≤ 1000)) = true) → (((x0.f1.size : Int) ≤ 1000) → ((x0.f2.size : Int) ≤ 1000) → P) → P := fun h k => by
    rw [Bool.and_eq_true, decide_eq_true_iff, decide_eq_true_iff] at h
    exact k h.1 h.2
  refine itemSigns_walk _ rfl x0.f4 rfl (decide ((x0.f1.size : Int) ≤ 1000) && decide ((x0.f2.size : Int) ≤ 1000)) (if checkI x0.f0 x0.f1 x0.f2 x0.f3.f1 x0.f4 = 0 then (lineB x0.f0 x0.f1 x0.f2 x0.f3.f1 x0.f4, (0 : Int)) else ((⟨#[]⟩ : ByteArray), checkI x0.f0 x0.f1 x0.f2 x0.f3.f1 x0.f4)).1 (textSpec x0.f4) (if checkI x0.f0 x0.f1 x0.f2 x0.f3.f1 x0.f4 = 0 then (lineB x0.f0 x0.f1 x0.f2 x0.f3.f1 x0.f4, (0 : Int)) else ((⟨#[]⟩ : ByteArray), checkI x0.f0 x0.f1 x0.f2 x0.f3.f1 x0.f4)).2 (fun hx => ?_) (fun hx => ?_) ⟨fun w => remoralaw28_light.calls x0.f0 x0.f1 x0.f2 x0.f3.f0 x0.f3.f1 x0.f3.f2 x0.f3.f3.f0 x0.f3.f3.f1 x0.f3.f3.f2 x0.f3.f3.f3 x0.f3.f3.f4 x0.f3.f4 x0.f3.f5 x0.f3.f6 x0.f4 _ w (light_f x0.f0 x0.f1 x0.f2 x0.f3.f0 x0.f3.f1 x0.f3.f2 x0.f3.f3.f0 x0.f3.f3.f1 x0.f3.f3.f2 x0.f3.f3.f3 x0.f3.f3.f4 x0.f3.f4 x0.f3.f5 x0.f3.f6 x0.f4)⟩ (fun h => ⟨fun w => ?_⟩) ⟨fun w => quick_Text.calls _ _ w rfl⟩ ⟨fun w => remoralaw28_awake.calls true w awake_f28⟩ w
  · by_cases hc : checkI x0.f0 x0.f1 x0.f2 x0.f3.f1 x0.f4 = 0
    · rw [if_pos hc] at hx
      exact absurd rfl hx
    · rw [if_neg hc]
  · by_cases hc : checkI x0.f0 x0.f1 x0.f2 x0.f3.f1 x0.f4 = 0
    · rw [if_pos hc]
      exact signs_line _ _ _ _ _ (chk_path hc)
    · rw [if_neg hc] at hx
      exact absurd hx hc
  · exact hb h (fun a b => item_Line.calls x0.f0 x0.f1 x0.f2 x0.f3.f0 x0.f3.f1 x0.f3.f2 x0.f3.f3.f0 x0.f3.f3.f1 x0.f3.f3.f2 x0.f3.f3.f3 x0.f3.f3.f4 x0.f3.f4 x0.f3.f5 x0.f3.f6 x0.f4 _ _ w (line_f x0.f0 x0.f1 x0.f2 x0.f3.f0 x0.f3.f1 x0.f3.f2 x0.f3.f3.f0 x0.f3.f3.f1 x0.f3.f3.f2 x0.f3.f3.f3 x0.f3.f3.f4 x0.f3.f4 x0.f3.f5 x0.f3.f6 x0.f4 a b))
end Go.Proofs.Ytljpcmpjfklloaa.PA
namespace Go.Proofs.Ytljpcmpjfklloaa.itemSignsRow
open Go.ChangeShapes Go.WideShapes Go.ChangeAt Go.RowKit Go.Proofs.Ytljpcmpjfklloaa.PA Go.Proofs.YtljpcmpjfklloaaW.PrintWords Go.Proofs.YtljpcmpjfklloaaW.PrintLast Go.Proofs.YtljpcmpjfklloaaW.PrintMore
open Go.ChangeMaps (open_string shut_string)
theorem own : ownKnob Try.prog.godebug = none := by kernel_rfl
theorem laidOut : laidOutB Try.prog = true := by kernel_rfl
set_option maxHeartbeats 1000000 in
set_option maxRecDepth 100000 in
theorem lifted (os : Os) (started : os.Started) (H : Type) (enc : TypeId × Value → H) :
    ReturnsInHanded {} Try.checked os 4 .any (Rows.itemSignsSpec.pre6 enc Try.prog Try.f4 Rows.itemSignsRow.domain false) (Rows.itemSignsSpec.post enc Try.prog Try.f4 false true false false) := by
  refine returnsInHanded_of_change_sized (C := Try.checked) own started (by kernel_rfl) Try.func4
    (ChangeSpec.witness6 (enc := enc) (C := Try.checked) false ⟨#[], #[.agg #[.int .i64 0, .string ByteArray.empty, .string ByteArray.empty, .string ByteArray.empty, .int .i64 0, .int .i64 0, .int .i64 0, .int .i64 0, .int .i64 0, .int .i64 0, .int .i64 0, .string ByteArray.empty, .string ByteArray.empty, .int .i64 0, .int .i64 0]], []⟩ 8 (by kernel_rfl) (by kernel_rfl) (by kernel_rfl) (by kernel_rfl)) ?_
  intro W base args ds gs before hval0 hW hcnd hsz0 _
  have hval : ∀ (j : Nat) t v, Try.f4.params[j]? = some t → args[j]? = some v → Value.okWide Try.prog W .any base t v := hval0
  have hW' := hW
  obtain ⟨p, q, hA0, hV, rfl, hfz, hnd⟩ := hW
  have hA : DataW.TrodAll enc Try.prog W 0 (fun _ => true) true Try.f4.params.toList args.toList ds p := hA0
  rw [Try.params4] at hA hval
  obtain ⟨v0, vs0, d0, ds0, p0, q0, hargs, rfl, rfl, h0, r0⟩ := trodAll_cons hA
  obtain ⟨rfl, rfl, rfl⟩ := trodAll_nil r0
  obtain rfl : args = #[v0] := by cases args; simp_all
  obtain ⟨rfl, rfl⟩ := trodVars_none hV
  obtain ⟨cs0, rfl, _⟩ := okWide_struct Try.underlying27 (hval 0 27 v0 rfl rfl)
  have k0 := h0
  have lt0 : ∀ x ∈ p0, x.block < W.heap.size := by obtain ⟨m, hm⟩ := k0; exact DataW.trod_lt m _ _ _ hm
  obtain ⟨fu0, hf0⟩ := h0
  obtain ⟨x0, hk0, hw0⟩ := (show Opn Try.prog 27 k27 (fun n x => wf27 n x) from opn27).op enc W 0 _ true fu0 _ _ hf0
  have e0 := k27_open hk0
  obtain rfl : cs0 = #[.int .i64 x0.f0, .string x0.f1, .string x0.f2, .string x0.f3.f0, .int .i64 x0.f3.f1, .int .i64 x0.f3.f2, .int .i64 x0.f3.f3.f0, .int .i64 x0.f3.f3.f1, .int .i64 x0.f3.f3.f2, .int .i64 x0.f3.f3.f3, .int .i64 x0.f3.f3.f4, .string x0.f3.f4, .string x0.f3.f5, .int .i64 x0.f3.f6, .int .i64 x0.f4] := by cases cs0; simpa [Value.cells] using e0
  refine (itemSigns_law x0 ⟨Rows.uptoBulk d0, hw0⟩ W).mono fun e W' ⟨he, bel⟩ => ?_
  subst he
  exact ⟨_, rfl, _, _, _, [], _, [], hW', trodAll_mk1 (shut_bool Try.underlying4 _), (trodAll_cons_mk (Below.trod laidOut (by kernel_rfl) (of_decide_eq_true (by kernel_rfl)) k0 bel lt0) trodAll_mk0), rfl, bel.frame _, fun h => by cases h⟩
theorem over : Rows.itemSignsRow.holds Try.pinned (OpenSpec.ofChange Rows.itemSignsSpec) :=
  OpenClaim.holds_of_wide 4 Try.f4 rfl rfl rfl rfl rfl rfl rfl ⟨rfl, rfl, rfl, rfl, rfl⟩ rfl rfl rfl rfl rfl (by kernel_rfl) Try.func4 (by kernel_rfl)
    (of_decide_eq_true (by kernel_rfl)) (by unfold Func.isWrapper; first | (rw [if_pos (by decide +kernel)]; kernel_rfl) | (rw [if_neg (by decide +kernel)]; exact ⟨rfl, rfl⟩))
    (fun os started H enc _ => lifted os started H enc)
theorem proved : Rows.ItemSignsSaid := over
#print axioms proved
end Go.Proofs.Ytljpcmpjfklloaa.itemSignsRow
namespace Go.Proofs.Ytljpcmpjfklloaa
/-- The row, under a short name, for the claim. -/
theorem itemSigns_holds : Rows.ItemSignsSaid := itemSignsRow.proved
end Go.Proofs.Ytljpcmpjfklloaa
namespace Go.Proofs.Ytljpcmpjfklloaa.PA
end Go.Proofs.Ytljpcmpjfklloaa.PA
