/- ArchAll: for two lists of bulk at most 1048576 the law returns true and leaves its arguments as they were. -/
import Derived.Test.YtodbmagneaiocaaASG1
import Derived.Test.YtodbmagneaiocaaASG11
import Derived.Test.YtodbmagneaiocaaASG8
import Derived.Test.YtodbmagneaiocaaASG9
import Derived.Test.YtodbmagneaiocaaASG5
import Derived.Test.YtodbmagneaiocaaASG6
import Derived.Test.YtodbmagneaiocaaASG3
import Derived.Test.YtodbmagneaiocaaASG12
import Derived.Test.YtodbmagneaiocaaASG7
import Derived.Below
import Derived.Carry
import Derived.ChangeOld
import Derived.JoinedCond
import Derived.LaidMore
import Derived.Lay
import Derived.OpenShut
import Derived.ProofKit
import Derived.ShutString
import Derived.SizedLaws
import Derived.Stop.Joined
import Derived.Test.YtodbmagneaiocaaRows
import Derived.WalkKit
namespace Go.Proofs.Ytodbmagneaiocaa.PA
open Go.RowKit Go.Proofs.YtodbmagneaiocaaW.PrintWords Go.Proofs.YtodbmagneaiocaaW.PrintLast Go.Proofs.YtodbmagneaiocaaW.PrintMore
attribute [local go_sem] max2_int min2_int max_two min_two max_three min_three max_four min_four   -- for this text's walks alone
set_option linter.unusedVariables false
set_option linter.unusedSimpArgs false
attribute [local go_sem high] eqA41
end Go.Proofs.Ytodbmagneaiocaa.PA
namespace Go.Proofs.Ytodbmagneaiocaa.PA
open Go.RowKit Go.Proofs.YtodbmagneaiocaaW.PrintWords Go.Proofs.YtodbmagneaiocaaW.PrintLast Go.Proofs.YtodbmagneaiocaaW.PrintMore
attribute [local go_sem] max2_int min2_int max_two min_two max_three min_three max_four min_four
set_option linter.unusedVariables false
set_option linter.unusedSimpArgs false
theorem bec_zero {x y : Option S43} (h : becameI x y = 0) : ∃ a b, x = some a ∧ y = some b ∧ a.f1 = b.f1 ∧ mEq a.f3 b.f3 = true := by
 cases x with
 | none => exact absurd h (show ¬ (1 : Int) = 0 by decide)
 | some a =>
  cases y with
  | none => exact absurd h (show ¬ (2 : Int) = 0 by decide)
  | some b =>
   rw [became_eq] at h
   by_cases hc : a.f1 ≠ b.f1 ∨ (a.f1 = 1 ∧ (a.f2 ≠ b.f2 ∨ a.f5 ≠ b.f5)) ∨ (a.f1 = 3 ∧ a.f4 ≠ b.f4)
   ·rw [if_pos hc] at h
    exact absurd h (by decide)
   ·rw [if_neg hc] at h
    by_cases hm : mEq a.f3 b.f3 = true
    ·exact ⟨a, b, rfl, rfl, Classical.byContradiction (fun e => hc (Or.inl e)), hm⟩
    ·rw [if_neg hm] at h
     exact absurd h (by decide)
def notNew (l : List S28) : Nat := (l.filter (fun c => decide (c.f1 ≠ 1))).length
theorem first_form (u v : List S43) : fstL u = (KL u v).flatMap (fun p => (findE p u).toList) :=
 (both_first _ (fstL u) (fstL v) (Nat.le_refl _)).symm.trans (both_form u v (fun e => e.1.toList))
theorem common_count (u v : List S43) : (commonL u v).length + notNew (sinceL u v) = (fstL u).length := by
 rw [first_form u v, common_form, since_form]
 have : ∀ k : List ByteArray, (∀ p ∈ k, p ∈ KL u v) → (k.flatMap (fun p => (gC u v p).toList)).length + notNew (k.flatMap (fun p => if bec u v p = 0 then [] else [(⟨p, bec u v p⟩ : S28)])) = (k.flatMap (fun p => (findE p u).toList)).length := by
  intro k
  induction k with
  | nil => exact fun _ => rfl
  | cons p k ih =>
   intro hk
   have h := ih (fun q hq => hk q (List.mem_cons_of_mem _ hq))
   rw [List.flatMap_cons, List.flatMap_cons, List.flatMap_cons, List.length_append, List.length_append]
   have hn : ∀ (a b : List S28), notNew (a ++ b) = notNew a + notNew b := fun a b => by unfold notNew; rw [List.filter_append, List.length_append]
   rw [hn, ← h]
   by_cases h0 : bec u v p = 0
   ·obtain ⟨a, b, ea, eb, e1, e2⟩ := bec_zero h0
    have ga : gC u v p = some a := by unfold gC; rw [if_pos h0, ea]
    rw [ga, ea, if_pos h0]
    show 1 + _ + (0 + _) = 1 + _
    omega
   ·have ga : gC u v p = none := by unfold gC; rw [if_neg h0]
    rw [ga, if_neg h0]
    cases hu : findE p u with
    | none =>
     have hb : bec u v p = 1 := by unfold bec; rw [hu]; rfl
     have : notNew [(⟨p, bec u v p⟩ : S28)] = 0 := by unfold notNew; rw [hb]; rfl
     rw [this]
     show 0 + _ + (0 + _) = 0 + _
     omega
    | some x =>
     have hb : bec u v p ≠ 1 := by
      unfold bec
      rw [hu]
      cases hv : findE p v with
      | none => exact show ¬ (2 : Int) = 1 by decide
      | some y => exact (bec_comm x y).2.1
     have : notNew [(⟨p, bec u v p⟩ : S28)] = 1 := by
      unfold notNew
      rw [List.filter_cons, if_pos (by simpa using hb)]
      rfl
     rw [this]
     show 0 + _ + (1 + _) = 1 + _
     omega
 exact this _ (fun p hp => hp)
end Go.Proofs.Ytodbmagneaiocaa.PA
namespace Go.Proofs.Ytodbmagneaiocaa.PA
open Go.RowKit Go.Proofs.YtodbmagneaiocaaW.PrintWords Go.Proofs.YtodbmagneaiocaaW.PrintLast Go.Proofs.YtodbmagneaiocaaW.PrintMore
attribute [local go_sem] max2_int min2_int max_two min_two max_three min_three max_four min_four   -- for this text's walks alone
set_option linter.unusedVariables false
set_option linter.unusedSimpArgs false
end Go.Proofs.Ytodbmagneaiocaa.PA
namespace Go.Proofs.Ytodbmagneaiocaa.PA
open Go.RowKit Go.Proofs.YtodbmagneaiocaaW.PrintWords Go.Proofs.YtodbmagneaiocaaW.PrintLast Go.Proofs.YtodbmagneaiocaaW.PrintMore
attribute [local go_sem] max2_int min2_int max_two min_two max_three min_three max_four min_four
set_option linter.unusedVariables false
set_option linter.unusedSimpArgs false
theorem app_okL {u v : List S43} (l : List S28) (hu : okL43 u) (hv : okL43 v) (h : u.length + v.length < 1000000000) : okL43 (applyL u v l) := by
 have := apply_ok l hu.2 hv.2
 exact ⟨by omega, this.2⟩
end Go.Proofs.Ytodbmagneaiocaa.PA
namespace Go.Proofs.Ytodbmagneaiocaa.PA
open Go.RowKit Go.Proofs.YtodbmagneaiocaaW.PrintWords Go.Proofs.YtodbmagneaiocaaW.PrintLast Go.Proofs.YtodbmagneaiocaaW.PrintMore
attribute [local go_sem] max2_int min2_int max_two min_two max_three min_three max_four min_four
set_option linter.unusedVariables false
set_option linter.unusedSimpArgs false
theorem since_nil {u v : List S43} (h : ∀ p, p ∈ KL u v → bec u v p = 0) : sinceL u v = [] := by
 rw [since_form]
 exact List.flatMap_eq_nil_iff.2 (fun p hp => if_pos (h p hp))
theorem bec_selfO {x : Option S43} (h : x ≠ none) : becameI x x = 0 := by
 cases x with
 | none => exact absurd rfl h
 | some x => exact bec_self x
theorem chg_since {u v : List S43} (p : ByteArray) : chg (sinceL u v) p = true ↔ p ∈ KL u v ∧ bec u v p ≠ 0 := by
 unfold chg
 rw [List.any_eq_true]
 constructor
 ·rintro ⟨c, hc, e⟩
  obtain ⟨h1, h2, h3⟩ := since_mem hc
  have e : c.f0 = p := of_decide_eq_true e
  rw [e] at h1 h2
  exact ⟨h1, fun h0 => h3 (h2.trans h0)⟩
 ·rintro ⟨h1, h2⟩
  refine ⟨⟨p, bec u v p⟩, ?_, decide_eq_true rfl⟩
  rw [since_form]
  refine List.mem_flatMap.2 ⟨p, h1, ?_⟩
  rw [if_neg h2]
  simp
theorem all_since (u v : List S43) : sinceL (applyL u v (sinceL u v)) v = [] := by
 refine since_nil (fun p hp => ?_)
 rw [inK, apply_find] at hp
 unfold bec
 rw [apply_find]
 by_cases h : chg (sinceL u v) p = true
 ·rw [if_pos h] at hp ⊢
  exact bec_selfO (hp.elim id id)
 ·rw [if_neg h] at hp ⊢
  have hk : p ∈ KL u v := (inK u v p).2 hp
  exact Classical.byContradiction fun h0 => h ((chg_since p).2 ⟨hk, h0⟩)
theorem none_since (u v : List S43) : sinceL u (applyL u v []) = [] := by
 refine since_nil (fun p hp => ?_)
 rw [inK, apply_find] at hp
 unfold bec
 rw [apply_find]
 have hn : chg ([] : List S28) p = false := rfl
 rw [hn, if_neg (by decide)] at hp ⊢
 exact bec_selfO (hp.elim id id)
theorem fst_self {l : List S43} (h : SS l) : fstL l = l := ss_ext _ _ (fst_ss l) h (fun p => fst_find p l)
theorem all_common (u v : List S43) : (commonL (applyL u v (sinceL u v)) v).length = (applyL u v (sinceL u v)).length := by
 have h := common_count (applyL u v (sinceL u v)) v
 rw [all_since, fst_self (apply_ss u v _)] at h
 exact h
theorem all_l (u v x : List S43) (hu : okL43 u) (hv : okL43 v) (hul : u.length ≤ 60) (hvl : v.length ≤ 60) (hx : okL43 x) (hc : (commonL x v).length = x.length) (l : List S28) (hl : l.length ≤ 1000) (hm : ∀ c ∈ l, c ∈ sinceL u v) : ∀ (n i k : Nat), l.length - i = n → i ≤ l.length → n + 1 ≤ k → remoralaw43_ArchAll.l0 k u v l x (i : Int) = some true := by
 intro n
 induction n with
 | zero =>
  intro i k hn hi hk
  obtain ⟨k, rfl⟩ : ∃ j, k = j + 1 := ⟨k - 1, by omega⟩
  rw [remoralaw43_ArchAll.l0, if_neg (by omega), arch_Common.f, if_pos ⟨hx, hv⟩, Option.bind_some, if_pos (by rw [hc])]
  rfl
 | succ n ih =>
  intro i k hn hi hk
  obtain ⟨k, rfl⟩ : ∃ j, k = j + 1 := ⟨k - 1, by omega⟩
  have hlt : i < l.length := by omega
  obtain ⟨h1, h2, h3⟩ := since_mem (hm l[i] (List.getElem_mem hlt))
  have hr := bec_range (findE (l[i]).f0 u) (findE (l[i]).f0 v)
  have hr : 0 ≤ bec u v (l[i]).f0 ∧ bec u v (l[i]).f0 ≤ 4 := hr
  rw [remoralaw43_ArchAll.l0, if_pos (by omega), if_pos (by omega), rd28 l i hlt, remoraref43_Became.f, if_pos ⟨by omega, by omega⟩, Option.bind_some, becR_key h1, if_pos h2, if_neg (by omega), if_neg (by omega), wrapE i (by omega)]
  exact ih (i + 1) k (by omega) (by omega) (by omega)
theorem archAll_f (a b : List S43) (ha : ∀ y ∈ a, y.f0.size ≤ 1048576) (hb : ∀ y ∈ b, y.f0.size ≤ 1048576) : ∃ k, remoralaw43_ArchAll.f k a b = some true := by
 refine ⟨5001, ?_⟩
 unfold remoralaw43_ArchAll.f
 rw [few_f, Option.bind_some]
 by_cases h : (decide (a.length ≤ 60) && decide (b.length ≤ 60)) = true
 ·rw [if_pos h]
  simp only [Bool.and_eq_true, decide_eq_true_eq] at h
  have oa : okL43 a := ⟨by omega, ha⟩
  have ob : okL43 b := ⟨by omega, hb⟩
  have hs := since_ok ha hb
  have ol : okC43 (sinceL a b) := ⟨by omega, hs.2⟩
  have hx := app_okL (sinceL a b) oa ob (by omega)
  have hn := app_okL ([] : List S28) oa ob (by omega)
  rw [arch_Since.f, if_pos ⟨oa, ob⟩, Option.bind_some, arch_Apply.f, if_pos ⟨oa, ob, ol⟩, Option.bind_some, arch_Since.f, if_pos ⟨hx, ob⟩, Option.bind_some, all_since, if_pos (show (([] : List S28).length : Int) = 0 from rfl), arch_Apply.f, if_pos ⟨oa, ob, ⟨by simp, fun y hy => by cases hy⟩⟩, Option.bind_some, arch_Since.f, if_pos ⟨oa, hn⟩, Option.bind_some, none_since]
  have hne : ((([] : List S28).length : Int) != 0) = false := rfl
  rw [hne, remoralaw43_ArchAll.j0, if_neg (by decide)]
  exact all_l a b _ oa ob h.1 h.2 hx (all_common a b) _ (by omega) (fun c hc => hc) _ 0 5000 rfl (Nat.zero_le _) (by omega)
 ·rw [if_neg h]
  rfl
end Go.Proofs.Ytodbmagneaiocaa.PA
namespace Go.Proofs.Ytodbmagneaiocaa.PA
open Go.RowKit Go.Proofs.YtodbmagneaiocaaW.PrintWords Go.Proofs.YtodbmagneaiocaaW.PrintLast Go.Proofs.YtodbmagneaiocaaW.PrintMore
attribute [local go_sem] max2_int min2_int max_two min_two max_three min_three max_four min_four
set_option linter.unusedVariables false
set_option linter.unusedSimpArgs false
def wf41 (n : Nat) (x : S41) : Prop := ((Lit.int .i64 x.f0).wf = true) ∧ ((Lit.int .i64 x.f1).wf = true) ∧ ((Lit.int .i64 x.f2).wf = true) ∧ ((Lit.int .i64 x.f3).wf = true) ∧ ((Lit.int .i64 x.f4).wf = true)
theorem opn41 : Opn Try.prog 41 k41 wf41 := opn_struct (fun x : S41 => (x.f0, x.f1, x.f2, x.f3, x.f4)) (fun a => (⟨a.1, a.2.1, a.2.2.1, a.2.2.2.1, a.2.2.2.2⟩ : S41)) (fun _ => rfl) Try.underlying41 (opnF_cons rfl (opn_int Try.underlying3 (by kernel_rfl)) rfl (opnF_cons rfl (opn_int Try.underlying3 (by kernel_rfl)) rfl (opnF_cons rfl (opn_int Try.underlying3 (by kernel_rfl)) rfl (opnF_cons rfl (opn_int Try.underlying3 (by kernel_rfl)) rfl (opnF_one rfl (opn_int Try.underlying3 (by kernel_rfl))))))) (by kernel_rfl)
def wf43 (n : Nat) (x : S43) : Prop := (x.f0.size < n ∧ x.f0.size ≤ maxLen) ∧ ((Lit.int .i64 x.f1).wf = true) ∧ ((Lit.int .i64 x.f2).wf = true) ∧ (wf41 n x.f3) ∧ (x.f4.size < n ∧ x.f4.size ≤ maxLen) ∧ (x.f5.size < n ∧ x.f5.size ≤ maxLen) ∧ ((Lit.int .i64 x.f6).wf = true)
theorem opn43 : Opn Try.prog 43 k43 wf43 := opn_struct (fun x : S43 => (x.f0, x.f1, x.f2, x.f3, x.f4, x.f5, x.f6)) (fun a => (⟨a.1, a.2.1, a.2.2.1, a.2.2.2.1, a.2.2.2.2.1, a.2.2.2.2.2.1, a.2.2.2.2.2.2⟩ : S43)) (fun _ => rfl) Try.underlying43 (opnF_cons rfl (opn_string Try.underlying9 (by kernel_rfl)) rfl (opnF_cons rfl (opn_int Try.underlying3 (by kernel_rfl)) rfl (opnF_cons rfl (opn_int Try.underlying3 (by kernel_rfl)) rfl (opnF_cons rfl opn41 rfl (opnF_cons rfl (opn_string Try.underlying9 (by kernel_rfl)) rfl (opnF_cons rfl (opn_string Try.underlying9 (by kernel_rfl)) rfl (opnF_one rfl (opn_int Try.underlying3 (by kernel_rfl))))))))) (by kernel_rfl)
theorem archAll_law (w : World) (A0 : Option Addr) (c0 : Nat) (x0 : List S43) (hC : Kd.C k43 w A0 x0.length x0) (hL : x0.length ≤ c0) (hw : ∃ n, n ≤ 1048576 ∧ x0.length < n ∧ ∀ a ∈ x0, wf43 n a) (A1 : Option Addr) (c1 : Nat) (x1 : List S43) (hC1 : Kd.C k43 w A1 x1.length x1) (hL1 : x1.length ≤ c1) (hw1 : ∃ n, n ≤ 1048576 ∧ x1.length < n ∧ ∀ a ∈ x1, wf43 n a) :
  Calls Try.prog 7 #[.slice A0 x0.length c0, .slice A1 x1.length c1] w fun e w' => e = .returned (.bool true) ∧ Below w.heap.size w w' := by
 obtain ⟨n0, b0, _, z0⟩ := hw
 obtain ⟨n1, b1, _, z1⟩ := hw1
 obtain ⟨k, hk⟩ := archAll_f x0 x1 (fun a ha => by have := (z0 a ha).1.1; omega) (fun a ha => by have := (z1 a ha).1.1; omega)
 exact remoralaw43_ArchAll.calls k A0 c0 x0 A1 c1 x1 true w hC hL hC1 hL1 hk
end Go.Proofs.Ytodbmagneaiocaa.PA
namespace Go.Proofs.Ytodbmagneaiocaa.archAllRow
open Go.ChangeShapes Go.WideShapes Go.ChangeAt Go.RowKit Go.Proofs.Ytodbmagneaiocaa.PA Go.Proofs.YtodbmagneaiocaaW.PrintWords Go.Proofs.YtodbmagneaiocaaW.PrintLast Go.Proofs.YtodbmagneaiocaaW.PrintMore
open Go.ChangeMaps (open_string shut_string)
theorem own : ownKnob Try.prog.godebug = none := by kernel_rfl
theorem laidOut : laidOutB Try.prog = true := by kernel_rfl
set_option linter.unusedSimpArgs false in
set_option maxHeartbeats 1000000 in
set_option maxRecDepth 100000 in
theorem lifted (os : Os) (started : os.Started) (H : Type) (enc : TypeId × Value → H) (F : Stop.Interp) :
  ReturnsInHanded {} Try.checked os 7 .any ((Rows.OpenSpec.upto Rows.archAllSpec).pre6 enc Try.prog Try.f7 Rows.archAllUptoRow.domain false) (((Rows.OpenSpec.upto Rows.archAllSpec).at F).post enc Try.prog Try.f7 false true false false) := by
 refine returnsInHanded_of_cond (C := Try.checked) (s := (Rows.OpenSpec.upto Rows.archAllSpec)) (k := Rows.uptoSmall) rfl own started (by kernel_rfl) Try.func7
  (OpenSpec.witness (enc := enc) (C := Try.checked) (s := (Rows.OpenSpec.upto Rows.archAllSpec)) (k := Rows.uptoSmall) rfl false ⟨#[], #[.slice none 0 0, .slice none 0 0], []⟩ 8 (by kernel_rfl) (by kernel_rfl) (by kernel_rfl)
   (x := ([.nil, .nil], [], [])) (by kernel_rfl) rfl (by kernel_rfl)) ?_
 intro W base args ds gs before hval0 hW _ hk _
 have hval : ∀ (j : Nat) t v, Try.f7.params[j]? = some t → args[j]? = some v → Value.okWide Try.prog W .any base t v := hval0
 have hW' := hW
 obtain ⟨p, q, hA0, hV, rfl, hfz, hnd⟩ := hW
 have hA : DataW.TrodAll enc Try.prog W 0 (fun _ => true) true Try.f7.params.toList args.toList ds p := hA0
 rw [Try.params7] at hA hval
 obtain ⟨v0, vs0, d0, ds0, p0, q0, hargs, rfl, rfl, h0, r0⟩ := trodAll_cons hA
 obtain ⟨v1, vs1, d1, ds1, p1, q1, rfl, rfl, rfl, h1, r1⟩ := trodAll_cons r0
 obtain ⟨rfl, rfl, rfl⟩ := trodAll_nil r1
 obtain rfl : args = #[v0, v1] := by cases args; simp_all
 obtain ⟨rfl, rfl⟩ := trodVars_none hV
 obtain ⟨A0, l0, c0, rfl⟩ := okWide_slice Try.underlying22 (hval 0 22 v0 rfl rfl)
 have k0 := h0
 have lt0 : ∀ x ∈ p0, x.block < W.heap.size := by obtain ⟨m, hm⟩ := k0; exact DataW.trod_lt m _ _ _ hm
 obtain ⟨fu0, hf0⟩ := h0
 obtain ⟨x0, hk0, hw0⟩ := (show Opn Try.prog 22 (Kd.slice 43 k43) (fun n x => x.length < n ∧ ∀ a ∈ x, wf43 n a) from (opn_slice Try.underlying22 (by kernel_rfl) opn43)).op enc W 0 _ true fu0 _ _ hf0
 obtain ⟨A_, c_, e0, hL0, hC0⟩ := hk0
 simp only [Value.cells, Array.toList, List.cons.injEq, Value.slice.injEq, and_true] at e0
 obtain ⟨rfl, rfl, rfl⟩ := e0
 obtain ⟨A1, l1, c1, rfl⟩ := okWide_slice Try.underlying22 (hval 1 22 v1 rfl rfl)
 have k1 := h1
 have lt1 : ∀ x ∈ p1, x.block < W.heap.size := by obtain ⟨m, hm⟩ := k1; exact DataW.trod_lt m _ _ _ hm
 obtain ⟨fu1, hf1⟩ := h1
 obtain ⟨x1, hk1, hw1⟩ := (show Opn Try.prog 22 (Kd.slice 43 k43) (fun n x => x.length < n ∧ ∀ a ∈ x, wf43 n a) from (opn_slice Try.underlying22 (by kernel_rfl) opn43)).op enc W 0 _ true fu1 _ _ hf1
 obtain ⟨A_, c_, e1, hL1, hC1⟩ := hk1
 simp only [Value.cells, Array.toList, List.cons.injEq, Value.slice.injEq, and_true] at e1
 obtain ⟨rfl, rfl, rfl⟩ := e1
 simp only [List.append_nil, List.cons_append, List.nil_append] at hk
 have hb : Rows.uptoBulkAll [d0, d1] ≤ 1048576 := of_decide_eq_true hk
 simp only [Rows.uptoBulkAll] at hb
 refine (archAll_law W A0 c0 x0 hC0 hL0 ⟨Rows.uptoBulk d0, by omega, hw0⟩ A1 c1 x1 hC1 hL1 ⟨Rows.uptoBulk d1, by omega, hw1⟩).mono fun e W' ⟨he, bel⟩ => ?_
 subst he
 exact ⟨_, rfl, _, _, _, [], _, [], hW', trodAll_mk1 (shut_bool Try.underlying4 _), (trodAll_cons_mk (Below.trod laidOut (by kernel_rfl) (of_decide_eq_true (by kernel_rfl)) k0 bel lt0) (trodAll_cons_mk (Below.trod laidOut (by kernel_rfl) (of_decide_eq_true (by kernel_rfl)) k1 bel lt1) trodAll_mk0)), rfl, bel.frame _, fun h => by cases h⟩
theorem proved : Rows.ArchAllUptoSaid :=
 OpenClaim.holds_of_cond 7 Try.f7 rfl rfl rfl rfl rfl rfl rfl ⟨rfl, rfl, rfl, rfl, rfl⟩ rfl rfl rfl rfl rfl (by kernel_rfl) Try.func7 (by kernel_rfl)
  (of_decide_eq_true (by kernel_rfl)) (by unfold Func.isWrapper; first | (rw [if_pos (by decide +kernel)]; kernel_rfl) | (rw [if_neg (by decide +kernel)]; exact ⟨rfl, rfl⟩))
  (fun os started H enc _ F => lifted os started H enc F)
#print axioms proved
end Go.Proofs.Ytodbmagneaiocaa.archAllRow
namespace Go.Proofs.Ytodbmagneaiocaa
theorem archAll_holds : Rows.ArchAllUptoSaid := archAllRow.proved
end Go.Proofs.Ytodbmagneaiocaa
namespace Go.Proofs.Ytodbmagneaiocaa.PA
end Go.Proofs.Ytodbmagneaiocaa.PA
