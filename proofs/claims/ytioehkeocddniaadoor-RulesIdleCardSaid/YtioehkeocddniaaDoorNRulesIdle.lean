/- RulesIdle: for any rules, number, path and flag the law returns true and leaves its arguments as they were. No condition. -/
import Derived.Below
import Derived.Carry
import Derived.ChangeOld
import Derived.LaidMore
import Derived.Lay
import Derived.OpenShut
import Derived.ProofKit
import Derived.SevenTiedAt
import Derived.ShutString
import Derived.SizedLaws
import Derived.Stop.Joined
import Derived.Test.YtioehkeocddniaaDoorCards
import Derived.Test.YtioehkeocddniaaDoorNG16
import Derived.Test.YtioehkeocddniaaDoorNG1
import Derived.Test.YtioehkeocddniaaDoorRows
import Derived.Test.YtioehkeocddniaaDoorTie
import Derived.Test.YtioehkeocddniaaDoorNG4
import Derived.Test.YtioehkeocddniaaDoorNG7
import Derived.Test.YtioehkeocddniaaDoorNG9
import Derived.Test.YtioehkeocddniaaDoorNG6
import Derived.Test.YtioehkeocddniaaDoorNG5
import Derived.Test.YtioehkeocddniaaDoorNG2
import Derived.WalkKit
namespace Go.Proofs.YtioehkeocddniaaDoor.PA
open Go.RowKit Go.Proofs.YtioehkeocddniaaDoorW.PrintWords Go.Proofs.YtioehkeocddniaaDoorW.PrintLast Go.Proofs.YtioehkeocddniaaDoorW.PrintMore
attribute [local go_sem] max2_int min2_int max_two min_two max_three min_three max_four min_four
set_option linter.unusedVariables false
set_option linter.unusedSimpArgs false
def wf24 (n : Nat) (x : S24) : Prop := ((Lit.int .i64 x.f0).wf = true) ∧ (x.f1.size < n ∧ x.f1.size ≤ maxLen) ∧ (True) ∧ (True)
theorem opn24 : Opn Tryd.prog 24 k24 wf24 := opn_struct (fun x : S24 => (x.f0, x.f1, x.f2, x.f3)) (fun a => (⟨a.1, a.2.1, a.2.2.1, a.2.2.2⟩ : S24)) (fun _ => rfl) Tryd.underlying24 (opnF_cons rfl (opn_int Tryd.underlying3 (by kernel_rfl)) rfl (opnF_cons rfl (opn_string Tryd.underlying9 (by kernel_rfl)) rfl (opnF_cons rfl (opn_bool Tryd.underlying4 (by kernel_rfl)) rfl (opnF_one rfl (opn_bool Tryd.underlying4 (by kernel_rfl)))))) (by kernel_rfl)
theorem actR_app (a b : List S24) (p : ByteArray) (dir drop : Bool) : actR (a ++ b) p dir drop = if actR a p dir drop = 0 then actR b p dir drop else actR a p dir drop := by
 induction a with
 | nil => rw [List.nil_append, actR_nil, if_pos rfl]
 | cons x l ih =>
  rw [List.cons_append, actR_cons, actR_cons]
  by_cases h : (matB x p dir && (drop || decide (x.f0 < 3))) = true
  ·have hm := mat_act x p dir (by rw [Bool.and_eq_true] at h; exact h.1)
   rw [if_pos h, if_pos h, if_neg (by omega)]
  ·rw [if_neg h, if_neg h, ih]
theorem actR_skip (a : List S24) (p : ByteArray) (dir drop : Bool) : actR (a.filter (fun x => !matB x p dir)) p dir drop = 0 := by
 induction a with
 | nil => rfl
 | cons x l ih =>
  by_cases h : matB x p dir = true
  ·rw [List.filter_cons_of_neg (by rw [h]; decide)]
   exact ih
  ·have hf : matB x p dir = false := by simpa using h
   rw [List.filter_cons_of_pos (by rw [hf]; rfl), actR_cons, if_neg (by rw [hf]; simp)]
   exact ih
theorem actR_mid (a b d : List S24) (p : ByteArray) (dir drop : Bool) (hb : actR b p dir drop = 0) : actR (a ++ b ++ d) p dir drop = actR (a ++ d) p dir drop := by
 rw [actR_app (a ++ b) d, actR_app a b, actR_app a d, hb]
 by_cases h : actR a p dir drop = 0
 ·rw [if_pos h, if_pos rfl, if_pos h]
 ·simp only [if_neg h]
theorem hidR_same (A B : List S24) (h : ∀ q d, actR A q d false = actR B q d false) : ∀ (n : Nat) (p : ByteArray) (dir : Bool), hidR n A p dir = hidR n B p dir := by
 intro n
 induction n with
 | zero => intro p dir; rfl
 | succ n ih =>
  intro p dir
  unfold hidR
  rw [h, ih]
def sm24 (A : List S24) : Prop := ∀ x ∈ A, x.f1.size < 1000000
theorem idle_l1 (L M : List S24) (p : ByteArray) (dir : Bool) (hp : p.size ≤ 300) (hM : sm24 M) (hML : M.length ≤ 200) (hL : sm24 L) (hLL : L.length ≤ 200) : ∀ (m i k : Nat) (acc : List S24), M.length - i = m → i ≤ M.length → m + 2060000 ≤ k → (∀ q d, actR acc q d false = actR L q d false) → sm24 acc → acc.length ≤ 200 + i → remoralaw15_RulesIdle.l1 k L p dir acc M (M.length : Int) (i : Int) = some true := by
 intro m
 induction m with
 | zero =>
  intro i k acc hm hi hk ha hs hn
  obtain ⟨k, rfl⟩ : ∃ j, k = j + 1 := ⟨k - 1, by omega⟩
  obtain rfl : i = M.length := by omega
  rw [remoralaw15_RulesIdle.l1, if_neg (by omega), hidden_f acc hs (by omega) p dir (by omega) k (by omega), hidden_f L hL (by omega) p dir (by omega) k (by omega), hidR_same acc L ha, awake15]
  simp only [Option.bind_some, beq_self_eq_true, if_true]
 | succ m ih =>
  intro i k acc hm hi hk ha hs hn
  obtain ⟨k, rfl⟩ : ∃ j, k = j + 1 := ⟨k - 1, by omega⟩
  have hlt : i < M.length := by omega
  have e1 : wrap64 ((i : Int) + 1) = ((i + 1 : Nat) : Int) := by rw [wr64 _ (by omega) (by omega)]; rfl
  rw [remoralaw15_RulesIdle.l1, if_pos (by omega), if_pos (by omega), if_pos (by omega), rd24_get M i hlt, e1, Option.bind_some, if_pos (by simp; omega)]
  refine ih (i + 1) k _ (by omega) (by omega) (by omega) ?_ ?_ ?_
  ·intro q d
   rw [List.cons_append, List.nil_append, actR_cons, if_neg, ha]
   simp
  ·intro x hx
   rcases List.mem_append.1 hx with h | h
   ·rw [List.mem_singleton.1 h]
    exact hM (M[i]) (List.getElem_mem hlt)
   ·exact hs x h
  ·simp
   omega
theorem idle_j3 (L M : List S24) (p : ByteArray) (dir : Bool) (hp : p.size ≤ 300) (hM : sm24 M) (hML : M.length ≤ 200) (hL : sm24 L) (hLL : L.length ≤ 200) (k : Nat) (hk : 2070000 ≤ k) : remoralaw15_RulesIdle.j3 k L M p dir false = some true := by
 obtain ⟨k, rfl⟩ : ∃ j, k = j + 1 := ⟨k - 1, by omega⟩
 rw [remoralaw15_RulesIdle.j3, if_neg (by decide), Option.bind_some, if_pos (by simp; omega)]
 exact idle_l1 L M p dir hp hM hML hL hLL M.length 0 k _ (by omega) (by omega) (by omega) (fun q d => by rw [List.nil_append]) (by rw [List.nil_append]; exact hL) (by simp; omega)
theorem idle_j2 (L M : List S24) (p : ByteArray) (dir : Bool) (hp : p.size ≤ 300) (hM : sm24 M) (hML : M.length ≤ 200) (hL : sm24 L) (hLL : L.length ≤ 200) (k : Nat) (hk : 2070010 ≤ k) : remoralaw15_RulesIdle.j2 k L M p dir false = some true := by
 obtain ⟨k, rfl⟩ : ∃ j, k = j + 1 := ⟨k - 1, by omega⟩
 have hLM : sm24 (L ++ M) := fun x hx => (List.mem_append.1 hx).elim (hL x) (hM x)
 have h3 := idle_j3 L M p dir hp hM hML hL hLL k (by omega)
 rw [remoralaw15_RulesIdle.j2, if_neg (by decide), Option.bind_some, if_pos (by simp; omega), Option.bind_some, if_pos (by simp; omega), List.nil_append, act_f L p dir true hL (by omega) (by omega) k (by omega), Option.bind_some]
 by_cases h : actR L p dir true = 0
 ·rw [if_pos h]
  exact h3
 ·rw [if_neg h, act_f (L ++ M) p dir true hLM (by omega) (by simp; omega) k (by omega), Option.bind_some, actR_app, if_neg h, bne_self_eq_false]
  exact h3
theorem idle_l0 (L M : List S24) (p : ByteArray) (dir : Bool) (hp : p.size ≤ 300) (hM : sm24 M) (hML : M.length ≤ 200) (hL : sm24 L) (hLL : L.length ≤ 200) (kk : Nat) (hkk : kk ≤ L.length) : ∀ (m i k : Nat), M.length - i = m → i ≤ M.length → m + 2080000 ≤ k → remoralaw15_RulesIdle.l0 k L M p dir (kk : Int) (L.take kk ++ (M.take i).filter (fun x => !matB x p dir)) M (M.length : Int) (i : Int) = some true := by
 intro m
 induction m with
 | zero =>
  intro i k hm hi hk
  obtain ⟨k, rfl⟩ : ∃ j, k = j + 1 := ⟨k - 1, by omega⟩
  obtain rfl : i = M.length := by omega
  have hlf : (M.filter (fun x => !matB x p dir)).length ≤ M.length := List.length_filter_le _ _
  obtain ⟨A, hA⟩ : ∃ A, A = L.take kk ++ M.filter (fun x => !matB x p dir) ++ L.drop kk := ⟨_, rfl⟩
  have hact : ∀ drop, actR A p dir drop = actR L p dir drop := fun drop => by
   rw [hA, actR_mid _ _ _ _ _ _ (actR_skip M p dir drop), List.take_append_drop]
  have hsA : sm24 A := fun x hx => by
   rw [hA, List.mem_append, List.mem_append] at hx
   rcases hx with (h | h) | h
   ·exact hL x (List.mem_of_mem_take h)
   ·exact hM x (List.mem_filter.1 h).1
   ·exact hL x (List.mem_of_mem_drop h)
  have hnA : A.length ≤ 400 := by
   rw [hA]
   simp only [List.length_append, List.length_take, List.length_drop]
   omega
  have hlen : (L.take kk ++ M.filter (fun x => !matB x p dir)).length + (L.drop kk).length < 4398046511104 := by
   rw [← List.length_append, ← hA]
   omega
  rw [remoralaw15_RulesIdle.l0, if_neg (by omega), if_pos (by omega), if_pos (by omega), Option.bind_some, List.take_length, Int.toNat_natCast, if_pos hlen, Option.bind_some, ← hA,
   act_f A p dir true hsA (by omega) (by omega) k (by omega), act_f L p dir true hL (by omega) (by omega) k (by omega), act_f A p dir false hsA (by omega) (by omega) k (by omega), act_f L p dir false hL (by omega) (by omega) k (by omega), safe_f A p dir hsA (by omega) (by omega) k (by omega), safe_f L p dir hL (by omega) (by omega) k (by omega), hact, hact]
  simp only [Option.bind_some, if_true, bne_self_eq_false]
  exact idle_j2 L M p dir hp hM hML hL hLL k (by omega)
 | succ m ih =>
  intro i k hm hi hk
  obtain ⟨k, rfl⟩ : ∃ j, k = j + 1 := ⟨k - 1, by omega⟩
  have hlt : i < M.length := by omega
  have e1 : wrap64 ((i : Int) + 1) = ((i + 1 : Nat) : Int) := by rw [wr64 _ (by omega) (by omega)]; rfl
  have hx := hM _ (List.getElem_mem hlt)
  have hlf : ((M.take i).filter (fun x => !matB x p dir)).length ≤ (M.take i).length := List.length_filter_le _ _
  have hlt2 : (M.take i).length ≤ M.length := by rw [List.length_take]; omega
  have hlt3 : (L.take kk).length ≤ L.length := by rw [List.length_take]; omega
  have hih := ih (i + 1) k (by omega) (by omega) (by omega)
  rw [List.take_succ_eq_append_getElem hlt, List.filter_append] at hih
  rw [remoralaw15_RulesIdle.l0, if_pos (by omega), if_pos (by omega), if_pos (by omega), rd24_get M i hlt, e1, matches_f (M[i]) p dir hx (by omega) k (by omega), Option.bind_some]
  by_cases h : matB (M[i]) p dir = true
  ·have e2 : [M[i]].filter (fun x => !matB x p dir) = [] := List.filter_cons_of_neg (by rw [h]; decide)
   rw [e2, List.append_nil] at hih
   rw [if_pos h]
   exact hih
  ·have hf : matB (M[i]) p dir = false := by simpa using h
   have e2 : [M[i]].filter (fun x => !matB x p dir) = [M[i]] := List.filter_cons_of_pos (by rw [hf]; rfl)
   rw [e2, ← List.append_assoc] at hih
   rw [if_neg h, if_pos (by rw [List.length_append]; omega)]
   exact hih
theorem idle_f (L M : List S24) (a : Int) (ha0 : 0 ≤ a) (ha1 : a < 18446744073709551616) (p : ByteArray) (dir : Bool) : ∃ k, remoralaw15_RulesIdle.f k L M a p dir = some true := by
 obtain ⟨k, hk⟩ : ∃ k, k = 3000000 := ⟨_, rfl⟩
 refine ⟨k + 1, ?_⟩
 have jt : remoralaw15_RulesIdle.j0 (k + 1) L M a p dir true = some true := by
  rw [remoralaw15_RulesIdle.j0, if_pos rfl, awake15, Option.bind_some]
 unfold remoralaw15_RulesIdle.f
 rw [light15_f L _ (by omega), light15_f M _ (by omega), Option.bind_some, Option.bind_some]
 by_cases hl : lightB L = true
 ·rw [if_pos hl]
  by_cases hm : lightB M = true
  ·rw [if_pos hm]
   obtain ⟨h1, h2⟩ := lightB_facts hl
   obtain ⟨h3, h4⟩ := lightB_facts hm
   by_cases h5 : wrap64 ((L.length : Int) + (M.length : Int)) > 120
   ·rw [if_pos h5, jt]
   ·rw [if_neg h5]
    by_cases h6 : (p.size : Int) > 300
    ·rw [if_pos h6, jt]
    ·rw [if_neg h6, right_f p (by omega) (k + 1) (by omega), Option.bind_some]
     by_cases hr : rightB p = true
     ·rw [if_pos hr]
      by_cases h0 : p.size = 0
      ·rw [beq_iff_eq.2 ((size_tl p).2 h0), jt]
      ·rw [beq_eq_false_iff_ne.2 (fun e => h0 ((size_tl p).1 e)), remoralaw15_RulesIdle.j0, if_neg (by decide)]
       have w1 : wrap64 ((L.length : Int) + 1) = ((L.length + 1 : Nat) : Int) := by rw [wr64 _ (by omega) (by omega)]; rfl
       have w2 : IntKind.u64.wrap ((L.length + 1 : Nat) : Int) = ((L.length + 1 : Nat) : Int) := by
        exact Go.IntWalk.u64_in _ ⟨by omega, by omega⟩
       obtain ⟨b, rfl⟩ : ∃ b : Nat, a = (b : Int) := ⟨a.toNat, by omega⟩
       have w3 : Int.tmod (b : Int) ((L.length + 1 : Nat) : Int) = ((b % (L.length + 1) : Nat) : Int) := rfl
       have w4 : b % (L.length + 1) < L.length + 1 := Nat.mod_lt _ (by omega)
       rw [w1, w2, w3, if_neg (by omega), Option.bind_some, wr64 _ (by omega) (by omega), if_pos (by omega), if_pos (by omega), Option.bind_some, Int.toNat_natCast, if_pos (by simp; omega), List.nil_append]
       have := idle_l0 L M p dir (by omega) (fun x hx => by have := h4 x hx; omega) (by omega) (fun x hx => by have := h2 x hx; omega) (by omega) (b % (L.length + 1)) (by omega) M.length 0 k (by omega) (by omega) (by omega)
       rw [List.take_zero, List.filter_nil, List.append_nil] at this
       exact this
     ·rw [if_neg hr, jt]
  ·rw [if_neg hm, jt]
 ·rw [if_neg hl, jt]
theorem rulesIdle_law (w : World) (A0 : Option Addr) (c0 : Nat) (x0 : List S24) (hC : Kd.C k24 w A0 x0.length x0) (hL : x0.length ≤ c0) (hw : ∃ n, x0.length < n ∧ ∀ a ∈ x0, wf24 n a) (A1 : Option Addr) (c1 : Nat) (x1 : List S24) (hC1 : Kd.C k24 w A1 x1.length x1) (hL1 : x1.length ≤ c1) (hw1 : ∃ n, x1.length < n ∧ ∀ a ∈ x1, wf24 n a) (a : Int) (hwa : ∃ n : Nat, (Lit.int .u64 a).wf = true) (p : ByteArray) (hw2 : ∃ n, p.size < n ∧ p.size ≤ maxLen) (dir : Bool) (hw3 : ∃ n : Nat, True) :
  Calls Tryd.prog 5 #[.slice A0 x0.length c0, .slice A1 x1.length c1, .int .u64 a, .string p, .bool dir] w fun e w' => e = .returned (.bool true) ∧ Below w.heap.size w w' := by
 obtain ⟨_, hwa⟩ := hwa
 have h := bounds_u64 hwa
 obtain ⟨k, hk⟩ := idle_f x0 x1 a h.1 (by omega) p dir
 exact remoralaw15_RulesIdle.calls k A0 c0 x0 A1 c1 x1 a p dir true w hC hL hC1 hL1 hk
end Go.Proofs.YtioehkeocddniaaDoor.PA
namespace Go.Proofs.YtioehkeocddniaaDoor.rulesIdleRow
open Go.ChangeShapes Go.WideShapes Go.ChangeAt Go.RowKit Go.Proofs.YtioehkeocddniaaDoor.PA Go.Proofs.YtioehkeocddniaaDoorW.PrintWords Go.Proofs.YtioehkeocddniaaDoorW.PrintLast Go.Proofs.YtioehkeocddniaaDoorW.PrintMore
open Go.ChangeMaps (open_string shut_string)
theorem own : ownKnob Tryd.prog.godebug = none := by kernel_rfl
theorem laidOut : laidOutB Tryd.prog = true := by kernel_rfl
set_option linter.unusedSimpArgs false in
set_option maxHeartbeats 1000000 in
set_option maxRecDepth 100000 in
theorem lifted (os : Os) (started : os.Started) (H : Type) (enc : TypeId × Value → H) :
  ReturnsInHanded {} Tryd.checked os 5 .any (fun w args => (Rows.rulesIdleSpec.pre enc Tryd.prog Tryd.f5 Rows.rulesIdleRow.domain false w args ∧ laidMetH Tryd.prog Rows.rulesIdleRow.laid w) ∧ sizedMet enc Tryd.prog Tryd.f5 (OpenSpec.ofChange Rows.rulesIdleSpec) false w args)
   (Rows.rulesIdleSpec.post enc Tryd.prog Tryd.f5 false true false false) := by
 refine returnsInHanded_of_change_and (C := Tryd.checked) (X := fun w _ => laidMetH Tryd.prog Rows.rulesIdleRow.laid w) (fun _ _ _ hh h => h.of_heap hh) own started (by kernel_rfl) Tryd.func5
  (ChangeSpec.witness_shaped (enc := enc) (C := Tryd.checked) (os := os) (X := fun w _ => laidMetH Tryd.prog Rows.rulesIdleRow.laid w) false (World.laidAll Tryd.prog os Rows.rulesIdleRow.laid) #[.slice none 0 0, .slice none 0 0, .int .u64 0, .string ByteArray.empty, .bool false] 8 (World.laidAll_os _ _ _)
   (World.shaped_of_ZipB (by kernel_rfl) (by kernel_rfl)) (by kernel_rfl) (by kernel_rfl) (by kernel_rfl)
   (by rw [MakeChecks.laidMetH_plain _ _ _ (by kernel_rfl)]; exact laidMet_laidAll _ (by kernel_rfl) (by kernel_rfl))) ?_
 intro W base args ds gs before hval0 hW hcnd _ hL_ _
 have hval : ∀ (j : Nat) t v, Tryd.f5.params[j]? = some t → args[j]? = some v → Value.okWide Tryd.prog W .any base t v := hval0
 have hW' := hW
 obtain ⟨p, q, hA0, hV, rfl, hfz, hnd⟩ := hW
 have hA : DataW.TrodAll enc Tryd.prog W 0 (fun _ => true) true Tryd.f5.params.toList args.toList ds p := hA0
 rw [Tryd.params5] at hA hval
 obtain ⟨v0, vs0, d0, ds0, p0, q0, hargs, rfl, rfl, h0, r0⟩ := trodAll_cons hA
 obtain ⟨v1, vs1, d1, ds1, p1, q1, rfl, rfl, rfl, h1, r1⟩ := trodAll_cons r0
 obtain ⟨v2, vs2, d2, ds2, p2, q2, rfl, rfl, rfl, h2, r2⟩ := trodAll_cons r1
 obtain ⟨v3, vs3, d3, ds3, p3, q3, rfl, rfl, rfl, h3, r3⟩ := trodAll_cons r2
 obtain ⟨v4, vs4, d4, ds4, p4, q4, rfl, rfl, rfl, h4, r4⟩ := trodAll_cons r3
 obtain ⟨rfl, rfl, rfl⟩ := trodAll_nil r4
 obtain rfl : args = #[v0, v1, v2, v3, v4] := by cases args; simp_all
 obtain ⟨rfl, rfl⟩ := trodVars_none hV
 obtain ⟨A0, l0, c0, rfl⟩ := okWide_slice Tryd.underlying28 (hval 0 28 v0 rfl rfl)
 have k0 := h0
 have lt0 : ∀ x ∈ p0, x.block < W.heap.size := by obtain ⟨m, hm⟩ := k0; exact DataW.trod_lt m _ _ _ hm
 obtain ⟨fu0, hf0⟩ := h0
 obtain ⟨x0, hk0, hw0⟩ := (show Opn Tryd.prog 28 (Kd.slice 24 k24) (fun n x => x.length < n ∧ ∀ a ∈ x, wf24 n a) from (opn_slice Tryd.underlying28 (by kernel_rfl) opn24)).op enc W 0 _ true fu0 _ _ hf0
 obtain ⟨A_, c_, e0, hL0, hC0⟩ := hk0
 simp only [Value.cells, Array.toList, List.cons.injEq, Value.slice.injEq, and_true] at e0
 obtain ⟨rfl, rfl, rfl⟩ := e0
 obtain ⟨A1, l1, c1, rfl⟩ := okWide_slice Tryd.underlying28 (hval 1 28 v1 rfl rfl)
 have k1 := h1
 have lt1 : ∀ x ∈ p1, x.block < W.heap.size := by obtain ⟨m, hm⟩ := k1; exact DataW.trod_lt m _ _ _ hm
 obtain ⟨fu1, hf1⟩ := h1
 obtain ⟨x1, hk1, hw1⟩ := (show Opn Tryd.prog 28 (Kd.slice 24 k24) (fun n x => x.length < n ∧ ∀ a ∈ x, wf24 n a) from (opn_slice Tryd.underlying28 (by kernel_rfl) opn24)).op enc W 0 _ true fu1 _ _ hf1
 obtain ⟨A_, c_, e1, hL1, hC1⟩ := hk1
 simp only [Value.cells, Array.toList, List.cons.injEq, Value.slice.injEq, and_true] at e1
 obtain ⟨rfl, rfl, rfl⟩ := e1
 obtain ⟨y2, rfl⟩ := okWide_int Tryd.underlying38 (hval 2 38 v2 rfl rfl)
 have k2 := h2
 have lt2 : ∀ x ∈ p2, x.block < W.heap.size := by obtain ⟨m, hm⟩ := k2; exact DataW.trod_lt m _ _ _ hm
 obtain ⟨fu2, hf2⟩ := h2
 obtain ⟨x2, hk2, hw2⟩ := (show Opn Tryd.prog 38 (Kd.int .u64) (fun n x => (Lit.int .u64 x).wf = true) from (opn_int Tryd.underlying38 (by kernel_rfl))).op enc W 0 _ true fu2 _ _ hf2
 have e2 := (List.cons.inj hk2).1
 injection e2 with _ e2
 have e2 := e2.symm
 subst e2
 obtain ⟨y3, rfl⟩ := okWide_string Tryd.underlying9 (hval 3 9 v3 rfl rfl)
 have k3 := h3
 have lt3 : ∀ x ∈ p3, x.block < W.heap.size := by obtain ⟨m, hm⟩ := k3; exact DataW.trod_lt m _ _ _ hm
 obtain ⟨fu3, hf3⟩ := h3
 obtain ⟨x3, hk3, hw3⟩ := (show Opn Tryd.prog 9 Kd.string (fun n x => x.size < n ∧ x.size ≤ maxLen) from (opn_string Tryd.underlying9 (by kernel_rfl))).op enc W 0 _ true fu3 _ _ hf3
 have e3 := (List.cons.inj hk3).1
 injection e3 with e3
 have e3 := e3.symm
 subst e3
 obtain ⟨y4, rfl⟩ := okWide_bool Tryd.underlying4 (hval 4 4 v4 rfl rfl)
 have k4 := h4
 have lt4 : ∀ x ∈ p4, x.block < W.heap.size := by obtain ⟨m, hm⟩ := k4; exact DataW.trod_lt m _ _ _ hm
 obtain ⟨fu4, hf4⟩ := h4
 obtain ⟨x4, hk4, hw4⟩ := (show Opn Tryd.prog 4 Kd.bool (fun n x => True) from (opn_bool Tryd.underlying4 (by kernel_rfl))).op enc W 0 _ true fu4 _ _ hf4
 have e4 := (List.cons.inj hk4).1
 injection e4 with e4
 have e4 := e4.symm
 subst e4
 refine (rulesIdle_law W A0 c0 x0 hC0 hL0 ⟨Rows.uptoBulk d0, hw0⟩ A1 c1 x1 hC1 hL1 ⟨Rows.uptoBulk d1, hw1⟩ x2 ⟨Rows.uptoBulk d2, hw2⟩ x3 ⟨Rows.uptoBulk d3, hw3⟩ x4 ⟨Rows.uptoBulk d4, hw4⟩).mono fun e W' ⟨he, bel⟩ => ?_
 subst he
 exact ⟨_, rfl, _, _, _, [], _, [], hW', trodAll_mk1 (shut_bool Tryd.underlying4 _), (trodAll_cons_mk (Below.trod laidOut (by kernel_rfl) (of_decide_eq_true (by kernel_rfl)) k0 bel lt0) (trodAll_cons_mk (Below.trod laidOut (by kernel_rfl) (of_decide_eq_true (by kernel_rfl)) k1 bel lt1) (trodAll_cons_mk (Below.trod laidOut (by kernel_rfl) (of_decide_eq_true (by kernel_rfl)) k2 bel lt2) (trodAll_cons_mk (Below.trod laidOut (by kernel_rfl) (of_decide_eq_true (by kernel_rfl)) k3 bel lt3) (trodAll_cons_mk (Below.trod laidOut (by kernel_rfl) (of_decide_eq_true (by kernel_rfl)) k4 bel lt4) trodAll_mk0))))), rfl, bel.frame _, fun h => by cases h⟩
theorem over : Rows.rulesIdleRow.holds Tryd.pinned (OpenSpec.ofChange Rows.rulesIdleSpec) :=
 OpenClaim.holds_of_wide 5 Tryd.f5 rfl rfl rfl rfl rfl rfl rfl ⟨rfl, rfl, rfl, rfl, rfl⟩ rfl rfl rfl rfl rfl (by kernel_rfl) Tryd.func5 (by kernel_rfl)
  (of_decide_eq_true (by kernel_rfl)) (by unfold Func.isWrapper; first | (rw [if_pos (by decide +kernel)]; kernel_rfl) | (rw [if_neg (by decide +kernel)]; exact ⟨rfl, rfl⟩))
  (fun os started H enc _ => lifted os started H enc)
theorem proved : Rows.RulesIdleSaid := over
theorem card : Rows.RulesIdleCardSaid :=
 Claim7.holds_tied_plain_at .later [] _ _ _ _ proved (fun _ h => by cases h) (by kernel_rfl) (fun _ h => by cases h) rulesIdle_row_tie rfl ⟨rfl, rfl⟩ (by kernel_rfl) rfl
  (fun f fn hf hfn => by
   obtain rfl : f = 5 := Option.some.inj ((show Tryd.prog.funcNamed "remora/remoralaw15.RulesIdle" = some 5 by kernel_rfl).symm.trans hf) |>.symm
   obtain rfl : fn = Tryd.f5 := (Option.some.inj (Tryd.func5.symm.trans hfn)).symm
   exact ⟨by kernel_rfl, fun j t ht => by
    rw [Tryd.params5] at ht
    have hm : t ∈ [28, 28, 38, 9, 4] := by simpa using Array.mem_of_getElem? ht
    have hall : ([28, 28, 38, 9, 4].all fun u => !Tryd.prog.wantsStandIn u) = true := by kernel_rfl
    exact (show Tryd.prog.wantsStandIn t = false by simpa using List.all_eq_true.1 hall t hm)⟩)
  (by kernel_rfl)
#print axioms card
end Go.Proofs.YtioehkeocddniaaDoor.rulesIdleRow
namespace Go.Proofs.YtioehkeocddniaaDoor
theorem rulesIdle_holds : Rows.RulesIdleCardSaid := rulesIdleRow.card
end Go.Proofs.YtioehkeocddniaaDoor
namespace Go.Proofs.YtioehkeocddniaaDoor.PA
end Go.Proofs.YtioehkeocddniaaDoor.PA
