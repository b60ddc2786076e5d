/- PathTwo: for any two texts of bulk at most 1048576 the law returns true and leaves its arguments as they were. -/
import Derived.Below
import Derived.ChangeOld
import Derived.JoinedCond
import Derived.OpenShut
import Derived.ProofKit
import Derived.ShutString
import Derived.Test.YtdomeeaaidjmpaaPAfremoralaw13PathTwo
import Derived.Test.YtdomeeaaidjmpaaPAx0
import Derived.Test.YtdomeeaaidjmpaaRows
import Derived.Test.YtdomeeaaidjmpaaXPathSpec
import Derived.WalkKit
namespace Go.Proofs.Ytdomeeaaidjmpaa.PA
open Go.RowKit Go.Proofs.YtdomeeaaidjmpaaW.PrintWords Go.Proofs.YtdomeeaaidjmpaaW.PrintLast Go.Proofs.YtdomeeaaidjmpaaW.PrintMore
attribute [local go_sem] max2_int min2_int max_two min_two max_three min_three max_four min_four
set_option linter.unusedVariables false
set_option linter.unusedSimpArgs false
theorem pathTwo_f (a b : ByteArray) (ha : sml a) (hb : sml b) : remoralaw13_PathTwo.f 3000000 a b = some true := by
  generalize hk : 3000000 = k
  have hk1 : 3000000 ≤ k := by omega
  have hk2 : 1048580 ≤ k := by omega
  clear hk
  have q : ∀ l : List UInt8, (l = l) = True := fun l => eq_true rfl
  rw [remoralaw13_PathTwo.f, rel_f a b ha hb k hk2, Option.bind_some, rrel_f a b ha hb k hk1, Option.bind_some, less_f a b ha hb k hk2, Option.bind_some, rless_f a b ha hb k hk1, Option.bind_some, if_pos (beq_self_eq_true _), under_f a b ha hb k hk2, Option.bind_some, runder_f a b ha hb k hk2, Option.bind_some, if_pos (beq_self_eq_true _), if_pos rfl, if_pos (beq_self_eq_true _), common_f a b ha hb k hk2, Option.bind_some, rcommon_f a b ha hb k hk1, Option.bind_some, if_pos rfl, awake13 k (by omega), Option.bind_some]
theorem pathTwo_law (a0 a1 : ByteArray) (h0 : a0.size ≤ 1048576) (h1 : a1.size ≤ 1048576) (w : World) :
    Calls Try.prog 6 #[.string a0, .string a1] w fun e w' => e = .returned (.bool true) ∧ Below w.heap.size w w' :=
  remoralaw13_PathTwo.calls 3000000 a0 a1 true w (pathTwo_f a0 a1 h0 h1)
end Go.Proofs.Ytdomeeaaidjmpaa.PA
namespace Go.Proofs.Ytdomeeaaidjmpaa.pathTwoUptoRow
open Go.ChangeShapes Go.WideShapes Go.ChangeAt Go.RowKit Go.Proofs.Ytdomeeaaidjmpaa.PA
open Go.ChangeMaps (open_string shut_string)
theorem own : ownKnob Try.prog.godebug = none := by kernel_rfl
set_option maxHeartbeats 1000000 in
set_option maxRecDepth 100000 in
theorem lifted (os : Os) (started : os.Started) (H : Type) (enc : TypeId × Value → H) (F : Stop.Interp) :
    ReturnsInHanded {} Try.checked os 6 .any ((Rows.OpenSpec.upto Rows.pathTwoSpec).pre6 enc Try.prog Try.f6 Rows.pathTwoUptoRow.domain false) (((Rows.OpenSpec.upto Rows.pathTwoSpec).at F).post enc Try.prog Try.f6 false true false false) := by
  refine returnsInHanded_of_cond (C := Try.checked) (s := (Rows.OpenSpec.upto Rows.pathTwoSpec)) (k := Rows.uptoSmall) rfl own started (by kernel_rfl) Try.func6
    (OpenSpec.witness (enc := enc) (C := Try.checked) (s := (Rows.OpenSpec.upto Rows.pathTwoSpec)) (k := Rows.uptoSmall) rfl false ⟨#[], #[.string .empty, .string .empty], []⟩ 8 (by kernel_rfl) (by kernel_rfl) (by kernel_rfl)
      (x := ([.lit (.string []), .lit (.string [])], [], [])) (by kernel_rfl) rfl (by kernel_rfl)) ?_
  intro W base args ds gs before hval0 hW _ hk _
  have hval : ∀ (j : Nat) t v, Try.f6.params[j]? = some t → args[j]? = some v → Value.okWide Try.prog W .any base t v := hval0
  have hW' := hW
  obtain ⟨p, q, hA0, hV, rfl, hfz, hnd⟩ := hW
  have hA : DataW.TrodAll enc Try.prog W 0 (fun _ => true) true Try.f6.params.toList args.toList ds p := hA0
  rw [Try.params6] at hA hval
  obtain ⟨v0, vs0, d0, ds0, p0, q0, hargs, rfl, rfl, h0, r0⟩ := trodAll_cons hA
  obtain ⟨v1, vs1, d1, ds1, p1, q1, rfl, rfl, rfl, h1, r1⟩ := trodAll_cons r0
  obtain ⟨rfl, rfl, rfl⟩ := trodAll_nil r1
  obtain rfl : args = #[v0, v1] := by cases args; simp_all
  obtain ⟨rfl, rfl⟩ := trodVars_none hV
  obtain ⟨a0, rfl, rfl, rfl, y0⟩ := open_string Try.underlying9 (hval 0 9 v0 rfl rfl) h0
  obtain ⟨a1, rfl, rfl, rfl, y1⟩ := open_string Try.underlying9 (hval 1 9 v1 rfl rfl) h1
  clear hA0 hval0
  simp only [List.append_nil] at hW' hk
  have hb : Rows.uptoBulkAll [DataW.lit (H := H) (.string a0.data.toList), DataW.lit (H := H) (.string a1.data.toList)] ≤ 1048576 := of_decide_eq_true hk
  simp only [Rows.uptoBulkAll, Rows.uptoBulk] at hb
  have e0 : a0.data.toList.length = a0.size := by rw [Array.length_toList]; rfl
  have e1 : a1.data.toList.length = a1.size := by rw [Array.length_toList]; rfl
  refine (pathTwo_law a0 a1 (by omega) (by omega) W).mono fun e W' ⟨he, bel⟩ => ?_
  subst he
  exact ⟨_, rfl, _, _, _, [], _, [], hW', trodAll_mk1 (shut_bool Try.underlying4 _), (trodAll_cons_mk (shut_string Try.underlying9 y0) (trodAll_cons_mk (shut_string Try.underlying9 y1) trodAll_mk0)), rfl, bel.frame _, fun h => by cases h⟩
theorem proved : Rows.PathTwoUptoSaid :=
  OpenClaim.holds_of_cond 6 Try.f6 rfl rfl rfl rfl rfl rfl rfl ⟨rfl, rfl, rfl, rfl, rfl⟩ rfl rfl rfl rfl rfl (by kernel_rfl) Try.func6 (by kernel_rfl)
    (of_decide_eq_true (by kernel_rfl)) (by unfold Func.isWrapper; first | (rw [if_pos (by decide +kernel)]; kernel_rfl) | (rw [if_neg (by decide +kernel)]; exact ⟨rfl, rfl⟩))
    (fun os started H enc _ F => lifted os started H enc F)
#print axioms proved
end Go.Proofs.Ytdomeeaaidjmpaa.pathTwoUptoRow
namespace Go.Proofs.Ytdomeeaaidjmpaa
/-- The row, under a short name, for the claim. -/
theorem pathTwo_holds : Rows.PathTwoUptoSaid := pathTwoUptoRow.proved
end Go.Proofs.Ytdomeeaaidjmpaa
namespace Go.Proofs.Ytdomeeaaidjmpaa.PA
end Go.Proofs.Ytdomeeaaidjmpaa.PA
