/- FlistBytes: for any list the law returns true and leaves its arguments as they were. The table of package crc is laid. -/
import Derived.Below
import Derived.Carry
import Derived.ChangeOld
import Derived.LaidMore
import Derived.Lay
import Derived.OpenShut
import Derived.ProofKit
import Derived.SevenTiedAt
import Derived.ShutString
import Derived.SizedLaws
import Derived.Stop.Joined
import Derived.Test.YtcdmgdegohcmhaaDoorCards
import Derived.Test.YtcdmgdegohcmhaaDoorMG7
import Derived.Test.YtcdmgdegohcmhaaDoorMG1
import Derived.Test.YtcdmgdegohcmhaaDoorRows
import Derived.Test.YtcdmgdegohcmhaaDoorTie
import Derived.WalkKit
namespace Go.Proofs.YtcdmgdegohcmhaaDoor.PA
open Go.RowKit Go.Proofs.YtcdmgdegohcmhaaDoorW.PrintWords Go.Proofs.YtcdmgdegohcmhaaDoorW.PrintLast Go.Proofs.YtcdmgdegohcmhaaDoorW.PrintMore
attribute [local go_sem] max2_int min2_int max_two min_two max_three min_three max_four min_four
set_option linter.unusedVariables false
set_option linter.unusedSimpArgs false
def wf33 (n : Nat) (x : S33) : Prop := ((Lit.int .i64 x.f0).wf = true) ∧ ((Lit.int .i64 x.f1).wf = true) ∧ ((Lit.int .i64 x.f2).wf = true) ∧ ((Lit.int .i64 x.f3).wf = true) ∧ ((Lit.int .i64 x.f4).wf = true)
theorem opn33 : Opn Tryd.prog 33 k33 wf33 := opn_struct (fun x : S33 => (x.f0, x.f1, x.f2, x.f3, x.f4)) (fun a => (⟨a.1, a.2.1, a.2.2.1, a.2.2.2.1, a.2.2.2.2⟩ : S33)) (fun _ => rfl) Tryd.underlying33 (opnF_cons rfl (opn_int Tryd.underlying3 (by kernel_rfl)) rfl (opnF_cons rfl (opn_int Tryd.underlying3 (by kernel_rfl)) rfl (opnF_cons rfl (opn_int Tryd.underlying3 (by kernel_rfl)) rfl (opnF_cons rfl (opn_int Tryd.underlying3 (by kernel_rfl)) rfl (opnF_one rfl (opn_int Tryd.underlying3 (by kernel_rfl))))))) (by kernel_rfl)
def wf35 (n : Nat) (x : S35) : Prop := (x.f0.size < n ∧ x.f0.size ≤ maxLen) ∧ ((Lit.int .i64 x.f1).wf = true) ∧ ((Lit.int .i64 x.f2).wf = true) ∧ (wf33 n x.f3) ∧ (x.f4.size < n ∧ x.f4.size ≤ maxLen) ∧ (x.f5.size < n ∧ x.f5.size ≤ maxLen) ∧ ((Lit.int .i64 x.f6).wf = true)
theorem opn35 : Opn Tryd.prog 35 k35 wf35 := opn_struct (fun x : S35 => (x.f0, x.f1, x.f2, x.f3, x.f4, x.f5, x.f6)) (fun a => (⟨a.1, a.2.1, a.2.2.1, a.2.2.2.1, a.2.2.2.2.1, a.2.2.2.2.2.1, a.2.2.2.2.2.2⟩ : S35)) (fun _ => rfl) Tryd.underlying35 (opnF_cons rfl (opn_string Tryd.underlying9 (by kernel_rfl)) rfl (opnF_cons rfl (opn_int Tryd.underlying3 (by kernel_rfl)) rfl (opnF_cons rfl (opn_int Tryd.underlying3 (by kernel_rfl)) rfl (opnF_cons rfl opn33 rfl (opnF_cons rfl (opn_string Tryd.underlying9 (by kernel_rfl)) rfl (opnF_cons rfl (opn_string Tryd.underlying9 (by kernel_rfl)) rfl (opnF_one rfl (opn_int Tryd.underlying3 (by kernel_rfl))))))))) (by kernel_rfl)
theorem flistBytes_law (w : World) (hT : TabW w) (A0 : Option Addr) (c0 : Nat) (x0 : List S35) (hC : Kd.C k35 w A0 x0.length x0) (hL : x0.length ≤ c0) (hw : ∃ n, x0.length < n ∧ ∀ a ∈ x0, wf35 n a) :
  Calls Tryd.prog 4 #[.slice A0 x0.length c0] w fun e w' => e = .returned (.bool true) ∧ Below w.heap.size w w' := by
 obtain ⟨k, hk⟩ := flistBytes_f x0 hC.2.1
 exact remoralaw20_FlistBytes.calls k A0 c0 x0 true w hC hL hk hT
end Go.Proofs.YtcdmgdegohcmhaaDoor.PA
namespace Go.Proofs.YtcdmgdegohcmhaaDoor.flistBytesRow
open Go.ChangeShapes Go.WideShapes Go.ChangeAt Go.RowKit Go.Proofs.YtcdmgdegohcmhaaDoor.PA Go.Proofs.YtcdmgdegohcmhaaDoorW.PrintWords Go.Proofs.YtcdmgdegohcmhaaDoorW.PrintLast Go.Proofs.YtcdmgdegohcmhaaDoorW.PrintMore
open Go.ChangeMaps (open_string shut_string)
theorem own : ownKnob Tryd.prog.godebug = none := by kernel_rfl
theorem laidOut : laidOutB Tryd.prog = true := by kernel_rfl
set_option linter.unusedSimpArgs false in
set_option maxHeartbeats 1000000 in
set_option maxRecDepth 100000 in
theorem lifted (os : Os) (started : os.Started) (H : Type) (enc : TypeId × Value → H) :
  ReturnsInHanded {} Tryd.checked os 4 .any (fun w args => (Rows.flistBytesSpec.pre enc Tryd.prog Tryd.f4 Rows.flistBytesRow.domain false w args ∧ laidMetH Tryd.prog Rows.flistBytesRow.laid w) ∧ sizedMet enc Tryd.prog Tryd.f4 (OpenSpec.ofChange Rows.flistBytesSpec) false w args)
   (Rows.flistBytesSpec.post enc Tryd.prog Tryd.f4 false true false false) := by
 refine returnsInHanded_of_change_and (C := Tryd.checked) (X := fun w _ => laidMetH Tryd.prog Rows.flistBytesRow.laid w) (fun _ _ _ hh h => h.of_heap hh) own started (by kernel_rfl) Tryd.func4
  (ChangeSpec.witness_shaped (enc := enc) (C := Tryd.checked) (os := os) (X := fun w _ => laidMetH Tryd.prog Rows.flistBytesRow.laid w) false (World.laidAll Tryd.prog os Rows.flistBytesRow.laid) #[.slice none 0 0] 8 (World.laidAll_os _ _ _)
   (World.shaped_of_ZipB (by kernel_rfl) (by kernel_rfl)) (by kernel_rfl) (by kernel_rfl) (by kernel_rfl)
   (by rw [MakeChecks.laidMetH_plain _ _ _ (by kernel_rfl)]; exact laidMet_laidAll _ (by kernel_rfl) (by kernel_rfl))) ?_
 intro W base args ds gs before hval0 hW hcnd _ hL_ _
 have hval : ∀ (j : Nat) t v, Tryd.f4.params[j]? = some t → args[j]? = some v → Value.okWide Tryd.prog W .any base t v := hval0
 have hW' := hW
 obtain ⟨p, q, hA0, hV, rfl, hfz, hnd⟩ := hW
 have hA : DataW.TrodAll enc Tryd.prog W 0 (fun _ => true) true Tryd.f4.params.toList args.toList ds p := hA0
 rw [Tryd.params4] at hA hval
 obtain ⟨v0, vs0, d0, ds0, p0, q0, hargs, rfl, rfl, h0, r0⟩ := trodAll_cons hA
 obtain ⟨rfl, rfl, rfl⟩ := trodAll_nil r0
 obtain rfl : args = #[v0] := by cases args; simp_all
 obtain ⟨rfl, rfl⟩ := trodVars_none hV
 obtain ⟨A0, l0, c0, rfl⟩ := okWide_slice Tryd.underlying22 (hval 0 22 v0 rfl rfl)
 have k0 := h0
 have lt0 : ∀ x ∈ p0, x.block < W.heap.size := by obtain ⟨m, hm⟩ := k0; exact DataW.trod_lt m _ _ _ hm
 obtain ⟨fu0, hf0⟩ := h0
 obtain ⟨x0, hk0, hw0⟩ := (show Opn Tryd.prog 22 (Kd.slice 35 k35) (fun n x => x.length < n ∧ ∀ a ∈ x, wf35 n a) from (opn_slice Tryd.underlying22 (by kernel_rfl) opn35)).op enc W 0 _ true fu0 _ _ hf0
 obtain ⟨A_, c_, e0, hL0, hC0⟩ := hk0
 simp only [Value.cells, Array.toList, List.cons.injEq, Value.slice.injEq, and_true] at e0
 obtain ⟨rfl, rfl, rfl⟩ := e0
 refine (flistBytes_law W (tabW_laid hL_) A0 c0 x0 hC0 hL0 ⟨Rows.uptoBulk d0, hw0⟩).mono fun e W' ⟨he, bel⟩ => ?_
 subst he
 exact ⟨_, rfl, _, _, _, [], _, [], hW', trodAll_mk1 (shut_bool Tryd.underlying4 _), (trodAll_cons_mk (Below.trod laidOut (by kernel_rfl) (of_decide_eq_true (by kernel_rfl)) k0 bel lt0) trodAll_mk0), rfl, bel.frame _, fun h => by cases h⟩
theorem over : Rows.flistBytesRow.holds Tryd.pinned (OpenSpec.ofChange Rows.flistBytesSpec) :=
 OpenClaim.holds_of_wide 4 Tryd.f4 rfl rfl rfl rfl rfl rfl rfl ⟨rfl, rfl, rfl, rfl, rfl⟩ rfl rfl rfl rfl rfl (by kernel_rfl) Tryd.func4 (by kernel_rfl)
  (of_decide_eq_true (by kernel_rfl)) (by unfold Func.isWrapper; first | (rw [if_pos (by decide +kernel)]; kernel_rfl) | (rw [if_neg (by decide +kernel)]; exact ⟨rfl, rfl⟩))
  (fun os started H enc _ => lifted os started H enc)
theorem proved : Rows.FlistBytesSaid := over
theorem card : Rows.FlistBytesCardSaid :=
 Claim7.holds_tied_plain_at .later [] _ _ _ _ proved (fun _ h => by cases h) (by kernel_rfl) (fun _ h => by cases h) flistBytes_row_tie rfl ⟨rfl, rfl⟩ (by kernel_rfl) rfl
  (fun f fn hf hfn => by
   obtain rfl : f = 4 := Option.some.inj ((show Tryd.prog.funcNamed "remora/remoralaw20.FlistBytes" = some 4 by kernel_rfl).symm.trans hf) |>.symm
   obtain rfl : fn = Tryd.f4 := (Option.some.inj (Tryd.func4.symm.trans hfn)).symm
   exact ⟨by kernel_rfl, fun j t ht => by
    rw [Tryd.params4] at ht
    have hm : t ∈ [22] := by simpa using Array.mem_of_getElem? ht
    have hall : ([22].all fun u => !Tryd.prog.wantsStandIn u) = true := by kernel_rfl
    exact (show Tryd.prog.wantsStandIn t = false by simpa using List.all_eq_true.1 hall t hm)⟩)
  (by kernel_rfl)
#print axioms card
end Go.Proofs.YtcdmgdegohcmhaaDoor.flistBytesRow
namespace Go.Proofs.YtcdmgdegohcmhaaDoor
theorem flistBytes_holds : Rows.FlistBytesCardSaid := flistBytesRow.card
end Go.Proofs.YtcdmgdegohcmhaaDoor
namespace Go.Proofs.YtcdmgdegohcmhaaDoor.PA
end Go.Proofs.YtcdmgdegohcmhaaDoor.PA
