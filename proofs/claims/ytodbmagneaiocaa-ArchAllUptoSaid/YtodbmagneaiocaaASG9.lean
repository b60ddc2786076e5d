/- How an argument's reading (trod) is opened into a value of a kind (Kd): whole numbers, bools, strings, slices and structs of these. -/
import Derived.BigQuiet
import Derived.Deep.QuietTactic
import Derived.Great.BuildSlice
import Derived.Laws.NewBlocks
import Derived.Outline
import Derived.Test.YtodbmagneaiocaaASG1
import Derived.Test.YtodbmagneaiocaaASG5
import Derived.Test.YtodbmagneaiocaaASG6
import Derived.Test.YtodbmagneaiocaaASG8
import Derived.Test.YtodbmagneaiocaaASG4
import Derived.Test.YtodbmagneaiocaaASG7
import Derived.Test.YtodbmagneaiocaaASG3
import Derived.ProofKit
import Derived.Test.YtodbmagneaiocaaRows
import Derived.WalkKit
namespace Go.Proofs.Ytodbmagneaiocaa.PA
open Go.RowKit Go.Proofs.YtodbmagneaiocaaW.PrintWords Go.Proofs.YtodbmagneaiocaaW.PrintLast Go.Proofs.YtodbmagneaiocaaW.PrintMore
attribute [local go_sem] max2_int min2_int max_two min_two max_three min_three max_four min_four
set_option linter.unusedVariables false
set_option linter.unusedSimpArgs false
theorem awake_keep {α : Type} {d : Kd α} {e base : Nat} {W w1 : World} {v : Value} {l : List α} (h : d.R e W base (fun _ => True) v l) (hg : W.grownBy w1 none) : d.R e w1 base (fun _ => True) v l := Kd.R_grown h hg (fun _ _ => by simp)
theorem awake_ok1 : okL43 [(⟨(⟨#[97]⟩ : ByteArray), 1, 1, (⟨0, 0, 0, 0, 0⟩ : S41), (⟨#[]⟩ : ByteArray), (⟨#[]⟩ : ByteArray), 0⟩ : S43), (⟨(⟨#[98]⟩ : ByteArray), 2, 0, (⟨0, 0, 0, 0, 0⟩ : S41), (⟨#[]⟩ : ByteArray), (⟨#[]⟩ : ByteArray), 0⟩ : S43)] := ⟨by decide, fun y hy => by
 rcases List.mem_cons.1 hy with rfl | hy
 ·decide
 ·rw [List.mem_singleton.1 hy]
  decide⟩
theorem awake_ok2 : okL43 [(⟨(⟨#[97]⟩ : ByteArray), 1, 2, (⟨0, 0, 0, 0, 0⟩ : S41), (⟨#[]⟩ : ByteArray), (⟨#[]⟩ : ByteArray), 0⟩ : S43), (⟨(⟨#[99]⟩ : ByteArray), 2, 0, (⟨0, 0, 0, 0, 0⟩ : S41), (⟨#[]⟩ : ByteArray), (⟨#[]⟩ : ByteArray), 0⟩ : S43)] := ⟨by decide, fun y hy => by
 rcases List.mem_cons.1 hy with rfl | hy
 ·decide
 ·rw [List.mem_singleton.1 hy]
  decide⟩
theorem awake_since : sinceL [(⟨(⟨#[97]⟩ : ByteArray), 1, 1, (⟨0, 0, 0, 0, 0⟩ : S41), (⟨#[]⟩ : ByteArray), (⟨#[]⟩ : ByteArray), 0⟩ : S43), (⟨(⟨#[98]⟩ : ByteArray), 2, 0, (⟨0, 0, 0, 0, 0⟩ : S41), (⟨#[]⟩ : ByteArray), (⟨#[]⟩ : ByteArray), 0⟩ : S43)] [(⟨(⟨#[97]⟩ : ByteArray), 1, 2, (⟨0, 0, 0, 0, 0⟩ : S41), (⟨#[]⟩ : ByteArray), (⟨#[]⟩ : ByteArray), 0⟩ : S43), (⟨(⟨#[99]⟩ : ByteArray), 2, 0, (⟨0, 0, 0, 0, 0⟩ : S41), (⟨#[]⟩ : ByteArray), (⟨#[]⟩ : ByteArray), 0⟩ : S43)] = [(⟨(⟨#[97]⟩ : ByteArray), 3⟩ : S28), ⟨(⟨#[98]⟩ : ByteArray), 2⟩, ⟨(⟨#[99]⟩ : ByteArray), 1⟩] := by
 have e1 : firstL (sortS [(⟨(⟨#[97]⟩ : ByteArray), 1, 1, (⟨0, 0, 0, 0, 0⟩ : S41), (⟨#[]⟩ : ByteArray), (⟨#[]⟩ : ByteArray), 0⟩ : S43), (⟨(⟨#[98]⟩ : ByteArray), 2, 0, (⟨0, 0, 0, 0, 0⟩ : S41), (⟨#[]⟩ : ByteArray), (⟨#[]⟩ : ByteArray), 0⟩ : S43)]) = [(⟨(⟨#[97]⟩ : ByteArray), 1, 1, (⟨0, 0, 0, 0, 0⟩ : S41), (⟨#[]⟩ : ByteArray), (⟨#[]⟩ : ByteArray), 0⟩ : S43), (⟨(⟨#[98]⟩ : ByteArray), 2, 0, (⟨0, 0, 0, 0, 0⟩ : S41), (⟨#[]⟩ : ByteArray), (⟨#[]⟩ : ByteArray), 0⟩ : S43)] := by kernel_rfl
 have e2 : firstL (sortS [(⟨(⟨#[97]⟩ : ByteArray), 1, 2, (⟨0, 0, 0, 0, 0⟩ : S41), (⟨#[]⟩ : ByteArray), (⟨#[]⟩ : ByteArray), 0⟩ : S43), (⟨(⟨#[99]⟩ : ByteArray), 2, 0, (⟨0, 0, 0, 0, 0⟩ : S41), (⟨#[]⟩ : ByteArray), (⟨#[]⟩ : ByteArray), 0⟩ : S43)]) = [(⟨(⟨#[97]⟩ : ByteArray), 1, 2, (⟨0, 0, 0, 0, 0⟩ : S41), (⟨#[]⟩ : ByteArray), (⟨#[]⟩ : ByteArray), 0⟩ : S43), (⟨(⟨#[99]⟩ : ByteArray), 2, 0, (⟨0, 0, 0, 0, 0⟩ : S41), (⟨#[]⟩ : ByteArray), (⟨#[]⟩ : ByteArray), 0⟩ : S43)] := by kernel_rfl
 have h1 : ltS (⟨(⟨#[97]⟩ : ByteArray), 1, 1, (⟨0, 0, 0, 0, 0⟩ : S41), (⟨#[]⟩ : ByteArray), (⟨#[]⟩ : ByteArray), 0⟩ : S43) (⟨(⟨#[97]⟩ : ByteArray), 1, 2, (⟨0, 0, 0, 0, 0⟩ : S41), (⟨#[]⟩ : ByteArray), (⟨#[]⟩ : ByteArray), 0⟩ : S43) = false := by kernel_rfl
 have h2 : ltS (⟨(⟨#[98]⟩ : ByteArray), 2, 0, (⟨0, 0, 0, 0, 0⟩ : S41), (⟨#[]⟩ : ByteArray), (⟨#[]⟩ : ByteArray), 0⟩ : S43) (⟨(⟨#[99]⟩ : ByteArray), 2, 0, (⟨0, 0, 0, 0, 0⟩ : S41), (⟨#[]⟩ : ByteArray), (⟨#[]⟩ : ByteArray), 0⟩ : S43) = true := by kernel_rfl
 unfold sinceL
 rw [e1, e2, bothP_two, if_neg (by rw [h1]; decide), if_neg (fun h => h rfl), bothP_two, if_pos h2, bothP_b, bothP_nil]
 rfl
theorem awake_cells {W : World} {g cc base : Nat} (h : Kd.R k28 28 W base (fun _ => True) (.slice (some ⟨g, 0, none⟩) 3 cc) [(⟨(⟨#[97]⟩ : ByteArray), 3⟩ : S28), ⟨(⟨#[98]⟩ : ByteArray), 2⟩, ⟨(⟨#[99]⟩ : ByteArray), 1⟩]) :
  W.cell? ⟨g, 0, none⟩ = some (.string (⟨#[97]⟩ : ByteArray)) ∧ W.cell? ⟨g, 1, none⟩ = some (.int .i64 3) ∧ W.cell? ⟨g, 2, none⟩ = some (.string (⟨#[98]⟩ : ByteArray)) ∧ W.cell? ⟨g, 3, none⟩ = some (.int .i64 2) ∧ W.cell? ⟨g, 4, none⟩ = some (.string (⟨#[99]⟩ : ByteArray)) ∧ W.cell? ⟨g, 5, none⟩ = some (.int .i64 1) := by
 have hC := (Kd.R_reads' h).2.2
 obtain ⟨ad, ea, x0, x1⟩ := at_T28 hC 0 (by decide) (by decide)
 cases ea
 obtain ⟨ad, ea, y0, y1⟩ := at_T28 hC 1 (by decide) (by decide)
 cases ea
 obtain ⟨ad, ea, z0, z1⟩ := at_T28 hC 2 (by decide) (by decide)
 cases ea
 exact ⟨x0, x1, y0, y1, z0, z1⟩
def remoralaw43_awake.f : Option Bool := some true
set_option maxHeartbeats 4000000 in
set_option maxRecDepth 100000 in
theorem awake_call (w : World) : Calls Try.prog 10 #[] w fun e w' => e = .returned (.bool true) ∧ Below w.heap.size w w' := by
 have hu := Try.underlying43
 have hu2 := Try.underlying28
 have HB := Aside0.mk (Below.refl w.heap.size w)
 go_enter Try.func10, Try.ntmps10
 go_wp2_with (first | ((with_reducible refine gate_dst (N := 6) rfl ?_); (try (refine gate_guard (by rfl) ?_; dsimp only)); refine Kd.R_lit k43 (w0 := w) w.heap.size 43 ?hg (N := 6) ?hd (xs := [(⟨(⟨#[97]⟩ : ByteArray), 1, 1, (⟨0, 0, 0, 0, 0⟩ : S41), (⟨#[]⟩ : ByteArray), (⟨#[]⟩ : ByteArray), 0⟩ : S43), (⟨(⟨#[98]⟩ : ByteArray), 2, 0, (⟨0, 0, 0, 0, 0⟩ : S41), (⟨#[]⟩ : ByteArray), (⟨#[]⟩ : ByteArray), 0⟩ : S43)]) (inner := [.string (⟨#[97]⟩ : ByteArray), .int .i64 1, .int .i64 1, .int .i64 0, .int .i64 0, .int .i64 0, .int .i64 0, .int .i64 0, .string (⟨#[]⟩ : ByteArray), .string (⟨#[]⟩ : ByteArray), .int .i64 0, .string (⟨#[98]⟩ : ByteArray), .int .i64 2, .int .i64 0, .int .i64 0, .int .i64 0, .int .i64 0, .int .i64 0, .int .i64 0, .string (⟨#[]⟩ : ByteArray), .string (⟨#[]⟩ : ByteArray), .int .i64 0]) (ok := fun _ => True) (okp := fun _ => True) ?hr ?hp (fun _ hk => hk) trivial HB.out (below_size HB.out) (by simp) ?_; (case hd => rfl); (case hg => rfl); (case hr => first | (go_simp; done) | (go_simp; rfl)); (case hp => exact (Reps.front (show Kd.M k43 _ _ _ (⟨(⟨#[97]⟩ : ByteArray), 1, 1, (⟨0, 0, 0, 0, 0⟩ : S41), (⟨#[]⟩ : ByteArray), (⟨#[]⟩ : ByteArray), 0⟩ : S43) [.string (⟨#[97]⟩ : ByteArray), .int .i64 1, .int .i64 1, .int .i64 0, .int .i64 0, .int .i64 0, .int .i64 0, .int .i64 0, .string (⟨#[]⟩ : ByteArray), .string (⟨#[]⟩ : ByteArray), .int .i64 0] from (k43_mkM _ _ _ (⟨(⟨#[97]⟩ : ByteArray), 1, 1, (⟨0, 0, 0, 0, 0⟩ : S41), (⟨#[]⟩ : ByteArray), (⟨#[]⟩ : ByteArray), 0⟩ : S43))) rfl (Reps.front (show Kd.M k43 _ _ _ (⟨(⟨#[98]⟩ : ByteArray), 2, 0, (⟨0, 0, 0, 0, 0⟩ : S41), (⟨#[]⟩ : ByteArray), (⟨#[]⟩ : ByteArray), 0⟩ : S43) [.string (⟨#[98]⟩ : ByteArray), .int .i64 2, .int .i64 0, .int .i64 0, .int .i64 0, .int .i64 0, .int .i64 0, .int .i64 0, .string (⟨#[]⟩ : ByteArray), .string (⟨#[]⟩ : ByteArray), .int .i64 0] from (k43_mkM _ _ _ (⟨(⟨#[98]⟩ : ByteArray), 2, 0, (⟨0, 0, 0, 0, 0⟩ : S41), (⟨#[]⟩ : ByteArray), (⟨#[]⟩ : ByteArray), 0⟩ : S43))) rfl (Reps.none _ _) rfl) rfl)); intro v1 w1 ho hb hg hnew; obtain ⟨A1, c1, e1⟩ := Kd.R_slice ho; subst e1; have HO1 := Aside0.mk ho;  clear HB hg hnew ho; have HB := Aside0.mk hb; clear hb) | ((with_reducible refine gate_dst (N := 9) rfl ?_); (try (refine gate_guard (by rfl) ?_; dsimp only)); refine Kd.R_lit k43 (w0 := w) w.heap.size 43 ?hg (N := 9) ?hd (xs := [(⟨(⟨#[97]⟩ : ByteArray), 1, 2, (⟨0, 0, 0, 0, 0⟩ : S41), (⟨#[]⟩ : ByteArray), (⟨#[]⟩ : ByteArray), 0⟩ : S43), (⟨(⟨#[99]⟩ : ByteArray), 2, 0, (⟨0, 0, 0, 0, 0⟩ : S41), (⟨#[]⟩ : ByteArray), (⟨#[]⟩ : ByteArray), 0⟩ : S43)]) (inner := [.string (⟨#[97]⟩ : ByteArray), .int .i64 1, .int .i64 2, .int .i64 0, .int .i64 0, .int .i64 0, .int .i64 0, .int .i64 0, .string (⟨#[]⟩ : ByteArray), .string (⟨#[]⟩ : ByteArray), .int .i64 0, .string (⟨#[99]⟩ : ByteArray), .int .i64 2, .int .i64 0, .int .i64 0, .int .i64 0, .int .i64 0, .int .i64 0, .int .i64 0, .string (⟨#[]⟩ : ByteArray), .string (⟨#[]⟩ : ByteArray), .int .i64 0]) (ok := fun _ => True) (okp := fun _ => True) ?hr ?hp (fun _ hk => hk) trivial HB.out (below_size HB.out) (by simp) ?_; (case hd => rfl); (case hg => rfl); (case hr => first | (go_simp; done) | (go_simp; rfl)); (case hp => exact (Reps.front (show Kd.M k43 _ _ _ (⟨(⟨#[97]⟩ : ByteArray), 1, 2, (⟨0, 0, 0, 0, 0⟩ : S41), (⟨#[]⟩ : ByteArray), (⟨#[]⟩ : ByteArray), 0⟩ : S43) [.string (⟨#[97]⟩ : ByteArray), .int .i64 1, .int .i64 2, .int .i64 0, .int .i64 0, .int .i64 0, .int .i64 0, .int .i64 0, .string (⟨#[]⟩ : ByteArray), .string (⟨#[]⟩ : ByteArray), .int .i64 0] from (k43_mkM _ _ _ (⟨(⟨#[97]⟩ : ByteArray), 1, 2, (⟨0, 0, 0, 0, 0⟩ : S41), (⟨#[]⟩ : ByteArray), (⟨#[]⟩ : ByteArray), 0⟩ : S43))) rfl (Reps.front (show Kd.M k43 _ _ _ (⟨(⟨#[99]⟩ : ByteArray), 2, 0, (⟨0, 0, 0, 0, 0⟩ : S41), (⟨#[]⟩ : ByteArray), (⟨#[]⟩ : ByteArray), 0⟩ : S43) [.string (⟨#[99]⟩ : ByteArray), .int .i64 2, .int .i64 0, .int .i64 0, .int .i64 0, .int .i64 0, .int .i64 0, .int .i64 0, .string (⟨#[]⟩ : ByteArray), .string (⟨#[]⟩ : ByteArray), .int .i64 0] from (k43_mkM _ _ _ (⟨(⟨#[99]⟩ : ByteArray), 2, 0, (⟨0, 0, 0, 0, 0⟩ : S41), (⟨#[]⟩ : ByteArray), (⟨#[]⟩ : ByteArray), 0⟩ : S43))) rfl (Reps.none _ _) rfl) rfl)); intro v2 w2 ho hb hg hnew; obtain ⟨A2, c2, e2⟩ := Kd.R_slice ho; subst e2; have HO2 := Aside0.mk ho; have n1_ := Aside0.mk (awake_keep HO1.out hg); clear HO1; have HO1 := n1_; clear n1_; clear HB hg hnew ho; have HB := Aside0.mk hb; clear hb) | (go_at_call 11; (refine (since_call _ _ [(⟨(⟨#[97]⟩ : ByteArray), 1, 1, (⟨0, 0, 0, 0, 0⟩ : S41), (⟨#[]⟩ : ByteArray), (⟨#[]⟩ : ByteArray), 0⟩ : S43), (⟨(⟨#[98]⟩ : ByteArray), 2, 0, (⟨0, 0, 0, 0, 0⟩ : S41), (⟨#[]⟩ : ByteArray), (⟨#[]⟩ : ByteArray), 0⟩ : S43)] _ _ [(⟨(⟨#[97]⟩ : ByteArray), 1, 2, (⟨0, 0, 0, 0, 0⟩ : S41), (⟨#[]⟩ : ByteArray), (⟨#[]⟩ : ByteArray), 0⟩ : S43), (⟨(⟨#[99]⟩ : ByteArray), 2, 0, (⟨0, 0, 0, 0, 0⟩ : S41), (⟨#[]⟩ : ByteArray), (⟨#[]⟩ : ByteArray), 0⟩ : S43)] _ (Kd.R_reads' HO1.out).2.2 (Kd.R_reads' HO1.out).2.1 (Kd.R_reads' HO2.out).2.2 (Kd.R_reads' HO2.out).2.1 awake_ok1 awake_ok2).mono ?_); rintro e w3 ⟨v3, rfl, ho, hb⟩; rw [awake_since] at ho; obtain ⟨A3, c3, e3⟩ := Kd.R_slice ho; subst e3; have HO3 := Aside0.mk ho; have n0_ := Aside0.mk (below_step HB.out hb); clear HB hb ho; have HB := n0_; clear n0_; obtain ⟨g3, cc3, ee3, _, _, _, _⟩ := Kd.R_form HO3.out (by decide); injection ee3 with e1 e2 e3; subst e1; subst e3; clear e2; obtain ⟨q0, q1, q2, q3, q4, q5⟩ := awake_cells HO3.out))
 go_ret
 exact ⟨by first | rfl | (simp; done), HB.out⟩
theorem remoralaw43_awake.calls (r : Bool) (w : World) (h : remoralaw43_awake.f = some r) : Calls Try.prog 10 #[] w fun e w' => e = .returned (.bool r) ∧ Below w.heap.size w w' := by
 obtain rfl := Option.some.inj h
 exact awake_call w
end Go.Proofs.Ytodbmagneaiocaa.PA
namespace Go.Proofs.Ytodbmagneaiocaa.PA
open Go.RowKit Go.Proofs.YtodbmagneaiocaaW.PrintWords Go.Proofs.YtodbmagneaiocaaW.PrintLast Go.Proofs.YtodbmagneaiocaaW.PrintMore
attribute [local go_sem] max2_int min2_int max_two min_two max_three min_three max_four min_four
set_option linter.unusedVariables false
set_option linter.unusedSimpArgs false
def sameT (l : List S28) (m : List S50) : Bool := decide (l.length = m.length) && (l.zip m).all (fun z => decide (z.1.f0 = z.2.f0) && decide (z.1.f1 = z.2.f1))
theorem sameT_map (l : List S28) : sameT l (l.map toR) = true := by
 unfold sameT
 rw [List.length_map, decide_eq_true rfl, Bool.true_and]
 refine List.all_eq_true.2 (fun z hz => ?_)
 have : ∀ (l : List S28), ∀ z ∈ l.zip (l.map toR), z.2 = toR z.1 := by
  intro l
  induction l with
  | nil => intro z hz; cases hz
  | cons x l ih =>
   intro z hz
   rw [List.map_cons, List.zip_cons_cons] at hz
   rcases List.mem_cons.1 hz with rfl | hz
   ·rfl
   ·exact ih z hz
 rw [this l z hz]
 show (decide (z.1.f0 = z.1.f0) && decide (z.1.f1 = z.1.f1)) = true
 rw [decide_eq_true rfl, decide_eq_true rfl]
 rfl
theorem sameT_at {l : List S28} {m : List S50} (h : sameT l m = true) : l.length = m.length ∧ ∀ i (hi : i < l.length) (hj : i < m.length), l[i].f0 = m[i].f0 ∧ l[i].f1 = m[i].f1 := by
 unfold sameT at h
 simp only [Bool.and_eq_true, decide_eq_true_eq] at h
 refine ⟨h.1, fun i hi hj => ?_⟩
 have hz : (l[i], m[i]) ∈ l.zip m := by
  refine List.mem_iff_getElem.2 ⟨i, by rw [List.length_zip]; omega, by rw [List.getElem_zip]⟩
 have := List.all_eq_true.1 h.2 _ hz
 simpa using this
def remoralaw43_told.f (l0 : List S28) (l1 : List S50) : Option Bool := if l0.length < 1000000000 ∧ sameT l0 l1 = true then some true else none
set_option maxHeartbeats 4000000 in
set_option maxRecDepth 100000 in
theorem told_call (A0 : Option Addr) (c0 : Nat) (l0 : List S28) (A1 : Option Addr) (c1 : Nat) (l1 : List S50) (w : World) (hr0 : Kd.C k28 w A0 l0.length l0) (hr1 : Kd.C k50 w A1 l1.length l1) (hl : l0.length < 1000000000) (hs : sameT l0 l1 = true) :
  Calls Try.prog 12 #[.slice A0 l0.length c0, .slice A1 l1.length c1] w fun e w' => e = .returned (.bool true) ∧ Below w.heap.size w w' := by
 obtain ⟨he, hat⟩ := sameT_at hs
 have HR0 := Aside0.mk hr0
 have HR1 := Aside0.mk hr1
 have HAT := Aside0.mk hat
 have HL := Aside0.mk hl
 have HEL := Aside0.mk he
 have hu := Try.underlying28
 have hu2 := Try.underlying50
 have HB := Aside0.mk (Below.refl w.heap.size w)
 have c1_ : ((l0.length : Int) == (l1.length : Int)) = true := beq_iff_eq.mpr (by rw [he])
 have c2_ : ((l0.length : Int) != (l1.length : Int)) = false := bne_eq_false_iff_eq.mpr (by rw [he])
 have c3_ : (l0.length == l1.length) = true := beq_iff_eq.mpr he
 clear hr0 hr1 hs hat hl he
 go_enter Try.func12, Try.ntmps12
 go_wp2
 go_loopw [5] (fun v5 wr => ∃ i : Nat, v5 = .int .i64 (i : Int) ∧ Aside0 (i ≤ l0.length) ∧ Aside0 (Below w.heap.size w wr)) (fun v5 _ => l0.length - (intOf v5).toNat)
 case atStart => exact ⟨0, rfl, ⟨Nat.zero_le _⟩, HB⟩
 case round =>
  clear HB
  obtain ⟨i, rfl, HI, HB⟩ := hrel
  by_cases hi : i < l0.length
  ·have hd : decide ((i : Int) < (l0.length : Int)) = true := decide_eq_true (by omega)
   have hj : i < l1.length := by rw [← HEL.out]; exact hi
   obtain ⟨e0, e1⟩ := HAT.out i hi hj
   obtain ⟨x, hx⟩ : ∃ x, rd_T28 l0 (i : Int) = x := ⟨_, rfl⟩
   obtain ⟨y, hy⟩ : ∃ y, rd_T50 l1 (i : Int) = y := ⟨_, rfl⟩
   have ex : l0[i] = x := by rw [← hx]; simp [rd_T28, rdOf, hi]
   have ey : l1[i] = y := by rw [← hy]; simp [rd_T50, rdOf, hj]
   rw [ex, ey] at e0 e1
   obtain ⟨ad, ea, hx_0, hx_1⟩ := at_T28 HR0.out (i : Int) (by omega) (by omega)
   cases ea
   obtain ⟨ad2, ea, hy_0, hy_1⟩ := at_T50 HR1.out (i : Int) (by omega) (by omega)
   cases ea
   rw [Int.toNat_natCast, hx] at hx_0 hx_1
   rw [Int.toNat_natCast, hy] at hy_0 hy_1
   replace hx_0 := (HB.out.cell (World.block_lt_of_cell? w _ hx_0)).trans hx_0
   replace hx_1 := (HB.out.cell (World.block_lt_of_cell? w _ hx_1)).trans hx_1
   replace hy_0 := (HB.out.cell (World.block_lt_of_cell? w _ hy_0)).trans hy_0
   replace hy_1 := (HB.out.cell (World.block_lt_of_cell? w _ hy_1)).trans hy_1
   have p1 : (0 ≤ (i : Int)) = True := eq_true (by omega)
   have p2 : ((i : Int) < (l0.length : Int)) = True := eq_true (by omega)
   have p3 : ((i : Int) < (l1.length : Int)) = True := eq_true (by omega)
   have r0 : (x.f0.toList == y.f0.toList) = true := beq_iff_eq.mpr (by rw [e0])
   have r1 : (x.f1 == y.f1) = true := beq_iff_eq.mpr e1
   have HW1 := Aside0.mk (wrapE i (by have := HL.out; omega))
   have Hi := Aside0.mk hi
   clear hi hj e0 e1 hx hy ex ey
   go_wp2
   repeat (go_quiet (fail); try go_wp2)
   go_roundw
   case rel => exact ⟨i + 1, by rw [HW1.out], ⟨by have := Hi.out; omega⟩, ⟨by repeat (first | (with_reducible first | exact HB.out | apply below_alloc | apply pw_below_drewN | apply below_drew1) | exact HB.out)⟩⟩
   case measure =>
    rw [HW1.out]
    show l0.length - ((i + 1 : Nat) : Int).toNat < l0.length - (i : Int).toNat
    rw [Int.toNat_natCast, Int.toNat_natCast]
    have := Hi.out
    omega
  ·have hd : decide ((i : Int) < (l0.length : Int)) = false := decide_eq_false (by omega)
   have hd2 : decide (i < l0.length) = false := decide_eq_false hi
   clear hi
   go_wp2
   go_ret
   exact ⟨rfl, HB.out⟩
theorem remoralaw43_told.calls (A0 : Option Addr) (c0 : Nat) (l0 : List S28) (A1 : Option Addr) (c1 : Nat) (l1 : List S50) (r : Bool) (w : World) (hr0 : Kd.C k28 w A0 l0.length l0) (hc0 : l0.length ≤ c0) (hr1 : Kd.C k50 w A1 l1.length l1) (hc1 : l1.length ≤ c1) (h : remoralaw43_told.f l0 l1 = some r) :
  Calls Try.prog 12 #[.slice A0 l0.length c0, .slice A1 l1.length c1] w fun e w' => e = .returned (.bool r) ∧ Below w.heap.size w w' := by
 unfold remoralaw43_told.f at h
 split at h
 ·rename_i hs
  obtain rfl := Option.some.inj h
  exact told_call A0 c0 l0 A1 c1 l1 w hr0 hr1 hs.1 hs.2
 ·exact absurd h (by simp)
end Go.Proofs.Ytodbmagneaiocaa.PA
namespace Go.Proofs.Ytodbmagneaiocaa.PA
open Go.RowKit Go.Proofs.YtodbmagneaiocaaW.PrintWords Go.Proofs.YtodbmagneaiocaaW.PrintLast Go.Proofs.YtodbmagneaiocaaW.PrintMore
attribute [local go_sem] max2_int min2_int max_two min_two max_three min_three max_four min_four   -- for this text's walks alone
set_option linter.unusedVariables false
set_option linter.unusedSimpArgs false
def remoralaw43_ArchSince.f (k : Nat) (l0 : List (S43)) (l1 : List (S43)) : Option (Bool) := (remoralaw43_few.f l0 l1).bind fun t101 => (if t101 = true then ((arch_Since.f l0 l1).bind fun t103 => ((remoraref43_Since.f k l0 l1).bind fun t106 => ((remoralaw43_told.f t103 t106).bind fun t109 => (if t109 = true then ((arch_Common.f l0 l1).bind fun t110 => ((remoraref43_Common.f k l0 l1).bind fun t113 => ((remoralaw43_same.f k t110 t113).bind fun t116 => (if t116 = true then ((remoralaw43_awake.f).bind fun t117 => (some t117)) else (some false))))) else (some false))))) else ((remoralaw43_awake.f).bind fun t102 => (some t102)))
set_option maxHeartbeats 8000000 in
set_option maxRecDepth 100000 in
theorem remoralaw43_ArchSince.calls (k : Nat) (A0 : Option Addr) (c0 : Nat) (l0 : List (S43)) (A1 : Option Addr) (c1 : Nat) (l1 : List (S43)) (r : Bool) (w : World) (hr0 : Kd.C k43 w A0 l0.length l0) (hc0 : l0.length ≤ c0) (hr1 : Kd.C k43 w A1 l1.length l1) (hc1 : l1.length ≤ c1) (h : remoralaw43_ArchSince.f k l0 l1 = some r) :
  Calls Try.prog 4 #[.slice A0 l0.length c0, .slice A1 l1.length c1] w fun e w' => e = .returned (.bool r) ∧ Below w.heap.size w w' := by
 have HR0 := Aside0.mk hr0
 have HC0 := Aside0.mk hc0
 clear hr0 hc0
 have HR1 := Aside0.mk hr1
 have HC1 := Aside0.mk hc1
 clear hr1 hc1
 have HB := Aside0.mk (Below.refl w.heap.size w)
 have H : ((remoralaw43_few.f l0 l1).bind fun t101 => (if t101 = true then ((arch_Since.f l0 l1).bind fun t103 => ((remoraref43_Since.f k l0 l1).bind fun t106 => ((remoralaw43_told.f t103 t106).bind fun t109 => (if t109 = true then ((arch_Common.f l0 l1).bind fun t110 => ((remoraref43_Common.f k l0 l1).bind fun t113 => ((remoralaw43_same.f k t110 t113).bind fun t116 => (if t116 = true then ((remoralaw43_awake.f).bind fun t117 => (some t117)) else (some false))))) else (some false))))) else ((remoralaw43_awake.f).bind fun t102 => (some t102)))) = some r := h
 clear h
 replace H := Option.bind_eq_some_iff.mp H
 obtain ⟨t101, A30, H⟩ := H
 replace H : (if t101 = true then ((arch_Since.f l0 l1).bind fun t103 => ((remoraref43_Since.f k l0 l1).bind fun t106 => ((remoralaw43_told.f t103 t106).bind fun t109 => (if t109 = true then ((arch_Common.f l0 l1).bind fun t110 => ((remoraref43_Common.f k l0 l1).bind fun t113 => ((remoralaw43_same.f k t110 t113).bind fun t116 => (if t116 = true then ((remoralaw43_awake.f).bind fun t117 => (some t117)) else (some false))))) else (some false))))) else ((remoralaw43_awake.f).bind fun t102 => (some t102))) = some r := H
 have A3 := Aside0.mk A30
 clear A30
 by_cases c4 : t101 = true
 ·subst c4
  have H1 : ((arch_Since.f l0 l1).bind fun t103 => ((remoraref43_Since.f k l0 l1).bind fun t106 => ((remoralaw43_told.f t103 t106).bind fun t109 => (if t109 = true then ((arch_Common.f l0 l1).bind fun t110 => ((remoraref43_Common.f k l0 l1).bind fun t113 => ((remoralaw43_same.f k t110 t113).bind fun t116 => (if t116 = true then ((remoralaw43_awake.f).bind fun t117 => (some t117)) else (some false))))) else (some false))))) = some r := by rw [if_pos rfl] at H; exact H
  clear H
  have H := H1
  clear H1
  replace H := Option.bind_eq_some_iff.mp H
  obtain ⟨t103, A50, H⟩ := H
  replace H : ((remoraref43_Since.f k l0 l1).bind fun t106 => ((remoralaw43_told.f t103 t106).bind fun t109 => (if t109 = true then ((arch_Common.f l0 l1).bind fun t110 => ((remoraref43_Common.f k l0 l1).bind fun t113 => ((remoralaw43_same.f k t110 t113).bind fun t116 => (if t116 = true then ((remoralaw43_awake.f).bind fun t117 => (some t117)) else (some false))))) else (some false)))) = some r := H
  have A5 := Aside0.mk A50
  clear A50
  replace H := Option.bind_eq_some_iff.mp H
  obtain ⟨t106, A60, H⟩ := H
  replace H : ((remoralaw43_told.f t103 t106).bind fun t109 => (if t109 = true then ((arch_Common.f l0 l1).bind fun t110 => ((remoraref43_Common.f k l0 l1).bind fun t113 => ((remoralaw43_same.f k t110 t113).bind fun t116 => (if t116 = true then ((remoralaw43_awake.f).bind fun t117 => (some t117)) else (some false))))) else (some false))) = some r := H
  have A6 := Aside0.mk A60
  clear A60
  replace H := Option.bind_eq_some_iff.mp H
  obtain ⟨t109, A70, H⟩ := H
  replace H : (if t109 = true then ((arch_Common.f l0 l1).bind fun t110 => ((remoraref43_Common.f k l0 l1).bind fun t113 => ((remoralaw43_same.f k t110 t113).bind fun t116 => (if t116 = true then ((remoralaw43_awake.f).bind fun t117 => (some t117)) else (some false))))) else (some false)) = some r := H
  have A7 := Aside0.mk A70
  clear A70
  by_cases c8 : t109 = true
  ·subst c8
   have H1 : ((arch_Common.f l0 l1).bind fun t110 => ((remoraref43_Common.f k l0 l1).bind fun t113 => ((remoralaw43_same.f k t110 t113).bind fun t116 => (if t116 = true then ((remoralaw43_awake.f).bind fun t117 => (some t117)) else (some false))))) = some r := by rw [if_pos rfl] at H; exact H
   clear H
   have H := H1
   clear H1
   replace H := Option.bind_eq_some_iff.mp H
   obtain ⟨t110, A90, H⟩ := H
   replace H : ((remoraref43_Common.f k l0 l1).bind fun t113 => ((remoralaw43_same.f k t110 t113).bind fun t116 => (if t116 = true then ((remoralaw43_awake.f).bind fun t117 => (some t117)) else (some false)))) = some r := H
   have A9 := Aside0.mk A90
   clear A90
   replace H := Option.bind_eq_some_iff.mp H
   obtain ⟨t113, A100, H⟩ := H
   replace H : ((remoralaw43_same.f k t110 t113).bind fun t116 => (if t116 = true then ((remoralaw43_awake.f).bind fun t117 => (some t117)) else (some false))) = some r := H
   have A10 := Aside0.mk A100
   clear A100
   replace H := Option.bind_eq_some_iff.mp H
   obtain ⟨t116, A110, H⟩ := H
   replace H : (if t116 = true then ((remoralaw43_awake.f).bind fun t117 => (some t117)) else (some false)) = some r := H
   have A11 := Aside0.mk A110
   clear A110
   by_cases c12 : t116 = true
   ·subst c12
    have H1 : ((remoralaw43_awake.f).bind fun t117 => (some t117)) = some r := by rw [if_pos rfl] at H; exact H
    clear H
    have H := H1
    clear H1
    replace H := Option.bind_eq_some_iff.mp H
    obtain ⟨t117, A130, H⟩ := H
    replace H : (some t117) = some r := H
    have A13 := Aside0.mk A130
    clear A130
    obtain rfl := Option.some.inj H
    go_enter Try.func4, Try.ntmps4
    go_wp2_with (first | ((with_reducible refine gate_callee (f := 9) rfl ?_); refine goesL_ (some 7) rfl rfl Try.func9 (by kernel_rfl) rfl #[.slice A0 l0.length c0, .slice A1 l1.length c1] rfl (by (try simp only [List.map_toArray, List.map_cons, List.map_nil]); first | done | rfl | (simp only [List.length_drop, List.length_take]; rfl)) ?_; (with_reducible refine (remoralaw43_few.calls _ _ l0 _ _ l1 true _ ?side1 ?side2 ?side3 ?side4 A3.out).mono ?_); (case side1 => repeat (first | exact HR0.out | (with_reducible refine Kd.C_alloc ?_ _) | (with_reducible refine Kd.C_drewN ?_ _) | (with_reducible refine Kd.C_drew ?_))); (case side2 => exact HC0.out); (case side3 => repeat (first | exact HR1.out | (with_reducible refine Kd.C_alloc ?_ _) | (with_reducible refine Kd.C_drewN ?_ _) | (with_reducible refine Kd.C_drew ?_))); (case side4 => exact HC1.out); rintro e w' ⟨rfl, ⟨nd, rfl⟩⟩; refine ⟨_, rfl, ?_⟩) | ((with_reducible refine gate_callee (f := 11) rfl ?_); refine goesL_ (some 12) rfl rfl Try.func11 (by kernel_rfl) rfl #[.slice A0 l0.length c0, .slice A1 l1.length c1] rfl (by (try simp only [List.map_toArray, List.map_cons, List.map_nil]); first | done | rfl | (simp only [List.length_drop, List.length_take]; rfl)) ?_; (with_reducible refine (arch_Since.calls _ _ l0 _ _ l1 t103 _ ?side1 ?side2 ?side3 ?side4 A5.out).mono ?_); (case side1 => repeat (first | exact HR0.out | (with_reducible refine Kd.C_alloc ?_ _) | (with_reducible refine Kd.C_drewN ?_ _) | (with_reducible refine Kd.C_drew ?_))); (case side2 => exact HC0.out); (case side3 => repeat (first | exact HR1.out | (with_reducible refine Kd.C_alloc ?_ _) | (with_reducible refine Kd.C_drewN ?_ _) | (with_reducible refine Kd.C_drew ?_))); (case side4 => exact HC1.out); rintro e w14 ⟨v104, rfl, ho0, hb⟩; refine ⟨_, rfl, ?_⟩; have n0_ := Aside0.mk (Kd.R_lower ho0 (below_size (by repeat (first | (with_reducible first | exact HB.out | apply below_alloc | apply pw_below_drewN | apply below_drew1) | exact HB.out)))); have n1_ := Aside0.mk (below_step (by repeat (first | (with_reducible first | exact HB.out | apply below_alloc | apply pw_below_drewN | apply below_drew1) | exact HB.out)) hb); clear HB; have HO105 := n0_; have HB := n1_; clear n0_ n1_; (try clear hb); (try clear hb2); (try clear hk); (try clear hi); (try clear ho0)) | ((with_reducible refine gate_callee (f := 13) rfl ?_); refine goesL_ (some 15) rfl rfl Try.func13 (by kernel_rfl) rfl #[.slice A0 l0.length c0, .slice A1 l1.length c1] rfl (by (try simp only [List.map_toArray, List.map_cons, List.map_nil]); first | done | rfl | (simp only [List.length_drop, List.length_take]; rfl)) ?_; (with_reducible refine (remoraref43_Since.calls k _ _ l0 _ _ l1 t106 _ ?side1 ?side2 ?side3 ?side4 A6.out).mono ?_); (case side1 => repeat (first | exact (Kd.C_below HR0.out HB.out) | (with_reducible refine Kd.C_alloc ?_ _) | (with_reducible refine Kd.C_drewN ?_ _) | (with_reducible refine Kd.C_drew ?_))); (case side2 => exact HC0.out); (case side3 => repeat (first | exact (Kd.C_below HR1.out HB.out) | (with_reducible refine Kd.C_alloc ?_ _) | (with_reducible refine Kd.C_drewN ?_ _) | (with_reducible refine Kd.C_drew ?_))); (case side4 => exact HC1.out); rintro e w15 ⟨v107, rfl, ho0, hb⟩; refine ⟨_, rfl, ?_⟩; have n0_ := Aside0.mk (Kd.R_below (by (with_reducible repeat (first | apply Kd.R_alloc | apply Kd.R_drewN | apply Kd.R_drew)); exact HO105.out) hb); have n1_ := Aside0.mk (Kd.R_lower ho0 (below_size (by repeat (first | (with_reducible first | exact HB.out | apply below_alloc | apply pw_below_drewN | apply below_drew1) | exact HB.out)))); have n2_ := Aside0.mk (below_step (by repeat (first | (with_reducible first | exact HB.out | apply below_alloc | apply pw_below_drewN | apply below_drew1) | exact HB.out)) hb); clear HO105; clear HB; have HO105 := n0_; have HO108 := n1_; have HB := n2_; clear n0_ n1_ n2_; (try clear hb); (try clear hb2); (try clear hk); (try clear hi); (try clear ho0); obtain ⟨Ao16, co16, eo16⟩ := Kd.R_slice HO105.out; subst eo16; obtain ⟨Ao17, co17, eo17⟩ := Kd.R_slice HO108.out; subst eo17) | ((with_reducible refine gate_callee (f := 12) rfl ?_); refine goesL_ (some 16) rfl rfl Try.func12 (by kernel_rfl) rfl #[.slice Ao16 t103.length co16, .slice Ao17 t106.length co17] rfl (by (try simp only [List.map_toArray, List.map_cons, List.map_nil]); first | done | rfl | (simp only [List.length_drop, List.length_take]; rfl)) ?_; (with_reducible refine (remoralaw43_told.calls _ _ t103 _ _ t106 true _ ?side1 ?side2 ?side3 ?side4 A7.out).mono ?_); (case side1 => repeat (first | exact (Kd.R_reads' HO105.out).2.2 | (with_reducible refine Kd.C_alloc ?_ _) | (with_reducible refine Kd.C_drewN ?_ _) | (with_reducible refine Kd.C_drew ?_))); (case side2 => exact (Kd.R_reads' HO105.out).2.1); (case side3 => repeat (first | exact (Kd.R_reads' HO108.out).2.2 | (with_reducible refine Kd.C_alloc ?_ _) | (with_reducible refine Kd.C_drewN ?_ _) | (with_reducible refine Kd.C_drew ?_))); (case side4 => exact (Kd.R_reads' HO108.out).2.1); rintro e w18 ⟨rfl, hb⟩; refine ⟨_, rfl, ?_⟩; have n0_ := Aside0.mk (Kd.R_below (by (with_reducible repeat (first | apply Kd.R_alloc | apply Kd.R_drewN | apply Kd.R_drew)); exact HO105.out) hb); have n1_ := Aside0.mk (Kd.R_below (by (with_reducible repeat (first | apply Kd.R_alloc | apply Kd.R_drewN | apply Kd.R_drew)); exact HO108.out) hb); have n2_ := Aside0.mk (below_step (by repeat (first | (with_reducible first | exact HB.out | apply below_alloc | apply pw_below_drewN | apply below_drew1) | exact HB.out)) hb); clear HO105; clear HO108; clear HB; have HO105 := n0_; have HO108 := n1_; have HB := n2_; clear n0_ n1_ n2_; (try clear hb); (try clear hb2); (try clear hk); (try clear hi)) | (go_at_call 15; (with_reducible refine (arch_Common.calls _ _ l0 _ _ l1 t110 _ ?side1 ?side2 ?side3 ?side4 A9.out).mono ?_); (case side1 => repeat (first | exact (Kd.C_below HR0.out HB.out) | (with_reducible refine Kd.C_alloc ?_ _) | (with_reducible refine Kd.C_drewN ?_ _) | (with_reducible refine Kd.C_drew ?_))); (case side2 => exact HC0.out); (case side3 => repeat (first | exact (Kd.C_below HR1.out HB.out) | (with_reducible refine Kd.C_alloc ?_ _) | (with_reducible refine Kd.C_drewN ?_ _) | (with_reducible refine Kd.C_drew ?_))); (case side4 => exact HC1.out); rintro e w19 ⟨v111, rfl, ho0, hb⟩; have n0_ := Aside0.mk (Kd.R_below (by (with_reducible repeat (first | apply Kd.R_alloc | apply Kd.R_drewN | apply Kd.R_drew)); exact HO105.out) hb); have n1_ := Aside0.mk (Kd.R_below (by (with_reducible repeat (first | apply Kd.R_alloc | apply Kd.R_drewN | apply Kd.R_drew)); exact HO108.out) hb); have n2_ := Aside0.mk (Kd.R_lower ho0 (below_size (by repeat (first | (with_reducible first | exact HB.out | apply below_alloc | apply pw_below_drewN | apply below_drew1) | exact HB.out)))); have n3_ := Aside0.mk (below_step (by repeat (first | (with_reducible first | exact HB.out | apply below_alloc | apply pw_below_drewN | apply below_drew1) | exact HB.out)) hb); clear HO105; clear HO108; clear HB; have HO105 := n0_; have HO108 := n1_; have HO112 := n2_; have HB := n3_; clear n0_ n1_ n2_ n3_; (try clear hb); (try clear hb2); (try clear hk); (try clear hi); (try clear ho0)) | (go_at_call 16; (with_reducible refine (remoraref43_Common.calls k _ _ l0 _ _ l1 t113 _ ?side1 ?side2 ?side3 ?side4 A10.out).mono ?_); (case side1 => repeat (first | exact (Kd.C_below HR0.out HB.out) | (with_reducible refine Kd.C_alloc ?_ _) | (with_reducible refine Kd.C_drewN ?_ _) | (with_reducible refine Kd.C_drew ?_))); (case side2 => exact HC0.out); (case side3 => repeat (first | exact (Kd.C_below HR1.out HB.out) | (with_reducible refine Kd.C_alloc ?_ _) | (with_reducible refine Kd.C_drewN ?_ _) | (with_reducible refine Kd.C_drew ?_))); (case side4 => exact HC1.out); rintro e w20 ⟨v114, rfl, ho0, hb⟩; have n0_ := Aside0.mk (Kd.R_below (by (with_reducible repeat (first | apply Kd.R_alloc | apply Kd.R_drewN | apply Kd.R_drew)); exact HO105.out) hb); have n1_ := Aside0.mk (Kd.R_below (by (with_reducible repeat (first | apply Kd.R_alloc | apply Kd.R_drewN | apply Kd.R_drew)); exact HO108.out) hb); have n2_ := Aside0.mk (Kd.R_elder' (by (with_reducible repeat (first | apply Kd.R_alloc | apply Kd.R_drewN | apply Kd.R_drew)); exact HO112.out) (Kd.R_base ho0) hb); have n3_ := Aside0.mk (Kd.R_lower (Kd.R_new' ho0 (Kd.R_lt (by (with_reducible repeat (first | apply Kd.R_alloc | apply Kd.R_drewN | apply Kd.R_drew)); exact HO112.out))) (below_size (by repeat (first | (with_reducible first | exact HB.out | apply below_alloc | apply pw_below_drewN | apply below_drew1) | exact HB.out)))); have n4_ := Aside0.mk (below_step (by repeat (first | (with_reducible first | exact HB.out | apply below_alloc | apply pw_below_drewN | apply below_drew1) | exact HB.out)) hb); clear HO105; clear HO108; clear HO112; clear HB; have HO105 := n0_; have HO108 := n1_; have HO112 := n2_; have HO115 := n3_; have HB := n4_; clear n0_ n1_ n2_ n3_ n4_; (try clear hb); (try clear hb2); (try clear hk); (try clear hi); (try clear ho0); obtain ⟨Ao21, co21, eo21⟩ := Kd.R_slice HO112.out; subst eo21; obtain ⟨Ao22, co22, eo22⟩ := Kd.R_slice HO115.out; subst eo22) | (go_at_call 14; (with_reducible refine (remoralaw43_same.calls k _ _ t110 _ _ t113 true _ ?side1 ?side2 ?side3 ?side4 A11.out).mono ?_); (case side1 => repeat (first | exact (Kd.R_reads' HO112.out).2.2 | (with_reducible refine Kd.C_alloc ?_ _) | (with_reducible refine Kd.C_drewN ?_ _) | (with_reducible refine Kd.C_drew ?_))); (case side2 => exact (Kd.R_reads' HO112.out).2.1); (case side3 => repeat (first | exact (Kd.R_reads' HO115.out).2.2 | (with_reducible refine Kd.C_alloc ?_ _) | (with_reducible refine Kd.C_drewN ?_ _) | (with_reducible refine Kd.C_drew ?_))); (case side4 => exact (Kd.R_reads' HO115.out).2.1); rintro e w' ⟨rfl, ⟨nd, rfl⟩⟩) | (go_at_call 10; (with_reducible refine (remoralaw43_awake.calls  t117 _ A13.out).mono ?_); rintro e w23 ⟨rfl, hb⟩; have n0_ := Aside0.mk (Kd.R_below (by (with_reducible repeat (first | apply Kd.R_alloc | apply Kd.R_drewN | apply Kd.R_drew)); exact HO105.out) hb); have n1_ := Aside0.mk (Kd.R_below (by (with_reducible repeat (first | apply Kd.R_alloc | apply Kd.R_drewN | apply Kd.R_drew)); exact HO108.out) hb); have n2_ := Aside0.mk (Kd.R_below (by (with_reducible repeat (first | apply Kd.R_alloc | apply Kd.R_drewN | apply Kd.R_drew)); exact HO112.out) hb); have n3_ := Aside0.mk (Kd.R_below (by (with_reducible repeat (first | apply Kd.R_alloc | apply Kd.R_drewN | apply Kd.R_drew)); exact HO115.out) hb); have n4_ := Aside0.mk (below_step (by repeat (first | (with_reducible first | exact HB.out | apply below_alloc | apply pw_below_drewN | apply below_drew1) | exact HB.out)) hb); clear HO105; clear HO108; clear HO112; clear HO115; clear HB; have HO105 := n0_; have HO108 := n1_; have HO112 := n2_; have HO115 := n3_; have HB := n4_; clear n0_ n1_ n2_ n3_ n4_; (try clear hb); (try clear hb2); (try clear hk); (try clear hi)))
    go_ret
    exact ⟨by first | rfl | (simp [errW_none, errW_some] <;> rfl) | (simp [*, errW_none, errW_some] <;> rfl), by repeat (first | (with_reducible first | exact HB.out | apply below_alloc | apply pw_below_drewN | apply below_drew1) | exact HB.out)⟩
   ·replace c12 := Bool.eq_false_iff.mpr c12
    subst c12
    have H1 : (some false) = some r := by rw [if_neg (show ¬ (false = true) by decide)] at H; exact H
    clear H
    have H := H1
    clear H1
    obtain rfl := Option.some.inj H
    go_enter Try.func4, Try.ntmps4
    go_wp2_with (first | ((with_reducible refine gate_callee (f := 9) rfl ?_); refine goesL_ (some 7) rfl rfl Try.func9 (by kernel_rfl) rfl #[.slice A0 l0.length c0, .slice A1 l1.length c1] rfl (by (try simp only [List.map_toArray, List.map_cons, List.map_nil]); first | done | rfl | (simp only [List.length_drop, List.length_take]; rfl)) ?_; (with_reducible refine (remoralaw43_few.calls _ _ l0 _ _ l1 true _ ?side1 ?side2 ?side3 ?side4 A3.out).mono ?_); (case side1 => repeat (first | exact HR0.out | (with_reducible refine Kd.C_alloc ?_ _) | (with_reducible refine Kd.C_drewN ?_ _) | (with_reducible refine Kd.C_drew ?_))); (case side2 => exact HC0.out); (case side3 => repeat (first | exact HR1.out | (with_reducible refine Kd.C_alloc ?_ _) | (with_reducible refine Kd.C_drewN ?_ _) | (with_reducible refine Kd.C_drew ?_))); (case side4 => exact HC1.out); rintro e w' ⟨rfl, ⟨nd, rfl⟩⟩; refine ⟨_, rfl, ?_⟩) | ((with_reducible refine gate_callee (f := 11) rfl ?_); refine goesL_ (some 12) rfl rfl Try.func11 (by kernel_rfl) rfl #[.slice A0 l0.length c0, .slice A1 l1.length c1] rfl (by (try simp only [List.map_toArray, List.map_cons, List.map_nil]); first | done | rfl | (simp only [List.length_drop, List.length_take]; rfl)) ?_; (with_reducible refine (arch_Since.calls _ _ l0 _ _ l1 t103 _ ?side1 ?side2 ?side3 ?side4 A5.out).mono ?_); (case side1 => repeat (first | exact HR0.out | (with_reducible refine Kd.C_alloc ?_ _) | (with_reducible refine Kd.C_drewN ?_ _) | (with_reducible refine Kd.C_drew ?_))); (case side2 => exact HC0.out); (case side3 => repeat (first | exact HR1.out | (with_reducible refine Kd.C_alloc ?_ _) | (with_reducible refine Kd.C_drewN ?_ _) | (with_reducible refine Kd.C_drew ?_))); (case side4 => exact HC1.out); rintro e w24 ⟨v104, rfl, ho0, hb⟩; refine ⟨_, rfl, ?_⟩; have n0_ := Aside0.mk (Kd.R_lower ho0 (below_size (by repeat (first | (with_reducible first | exact HB.out | apply below_alloc | apply pw_below_drewN | apply below_drew1) | exact HB.out)))); have n1_ := Aside0.mk (below_step (by repeat (first | (with_reducible first | exact HB.out | apply below_alloc | apply pw_below_drewN | apply below_drew1) | exact HB.out)) hb); clear HB; have HO105 := n0_; have HB := n1_; clear n0_ n1_; (try clear hb); (try clear hb2); (try clear hk); (try clear hi); (try clear ho0)) | ((with_reducible refine gate_callee (f := 13) rfl ?_); refine goesL_ (some 15) rfl rfl Try.func13 (by kernel_rfl) rfl #[.slice A0 l0.length c0, .slice A1 l1.length c1] rfl (by (try simp only [List.map_toArray, List.map_cons, List.map_nil]); first | done | rfl | (simp only [List.length_drop, List.length_take]; rfl)) ?_; (with_reducible refine (remoraref43_Since.calls k _ _ l0 _ _ l1 t106 _ ?side1 ?side2 ?side3 ?side4 A6.out).mono ?_); (case side1 => repeat (first | exact (Kd.C_below HR0.out HB.out) | (with_reducible refine Kd.C_alloc ?_ _) | (with_reducible refine Kd.C_drewN ?_ _) | (with_reducible refine Kd.C_drew ?_))); (case side2 => exact HC0.out); (case side3 => repeat (first | exact (Kd.C_below HR1.out HB.out) | (with_reducible refine Kd.C_alloc ?_ _) | (with_reducible refine Kd.C_drewN ?_ _) | (with_reducible refine Kd.C_drew ?_))); (case side4 => exact HC1.out); rintro e w25 ⟨v107, rfl, ho0, hb⟩; refine ⟨_, rfl, ?_⟩; have n0_ := Aside0.mk (Kd.R_below (by (with_reducible repeat (first | apply Kd.R_alloc | apply Kd.R_drewN | apply Kd.R_drew)); exact HO105.out) hb); have n1_ := Aside0.mk (Kd.R_lower ho0 (below_size (by repeat (first | (with_reducible first | exact HB.out | apply below_alloc | apply pw_below_drewN | apply below_drew1) | exact HB.out)))); have n2_ := Aside0.mk (below_step (by repeat (first | (with_reducible first | exact HB.out | apply below_alloc | apply pw_below_drewN | apply below_drew1) | exact HB.out)) hb); clear HO105; clear HB; have HO105 := n0_; have HO108 := n1_; have HB := n2_; clear n0_ n1_ n2_; (try clear hb); (try clear hb2); (try clear hk); (try clear hi); (try clear ho0); obtain ⟨Ao26, co26, eo26⟩ := Kd.R_slice HO105.out; subst eo26; obtain ⟨Ao27, co27, eo27⟩ := Kd.R_slice HO108.out; subst eo27) | ((with_reducible refine gate_callee (f := 12) rfl ?_); refine goesL_ (some 16) rfl rfl Try.func12 (by kernel_rfl) rfl #[.slice Ao26 t103.length co26, .slice Ao27 t106.length co27] rfl (by (try simp only [List.map_toArray, List.map_cons, List.map_nil]); first | done | rfl | (simp only [List.length_drop, List.length_take]; rfl)) ?_; (with_reducible refine (remoralaw43_told.calls _ _ t103 _ _ t106 true _ ?side1 ?side2 ?side3 ?side4 A7.out).mono ?_); (case side1 => repeat (first | exact (Kd.R_reads' HO105.out).2.2 | (with_reducible refine Kd.C_alloc ?_ _) | (with_reducible refine Kd.C_drewN ?_ _) | (with_reducible refine Kd.C_drew ?_))); (case side2 => exact (Kd.R_reads' HO105.out).2.1); (case side3 => repeat (first | exact (Kd.R_reads' HO108.out).2.2 | (with_reducible refine Kd.C_alloc ?_ _) | (with_reducible refine Kd.C_drewN ?_ _) | (with_reducible refine Kd.C_drew ?_))); (case side4 => exact (Kd.R_reads' HO108.out).2.1); rintro e w28 ⟨rfl, hb⟩; refine ⟨_, rfl, ?_⟩; have n0_ := Aside0.mk (Kd.R_below (by (with_reducible repeat (first | apply Kd.R_alloc | apply Kd.R_drewN | apply Kd.R_drew)); exact HO105.out) hb); have n1_ := Aside0.mk (Kd.R_below (by (with_reducible repeat (first | apply Kd.R_alloc | apply Kd.R_drewN | apply Kd.R_drew)); exact HO108.out) hb); have n2_ := Aside0.mk (below_step (by repeat (first | (with_reducible first | exact HB.out | apply below_alloc | apply pw_below_drewN | apply below_drew1) | exact HB.out)) hb); clear HO105; clear HO108; clear HB; have HO105 := n0_; have HO108 := n1_; have HB := n2_; clear n0_ n1_ n2_; (try clear hb); (try clear hb2); (try clear hk); (try clear hi)) | (go_at_call 15; (with_reducible refine (arch_Common.calls _ _ l0 _ _ l1 t110 _ ?side1 ?side2 ?side3 ?side4 A9.out).mono ?_); (case side1 => repeat (first | exact (Kd.C_below HR0.out HB.out) | (with_reducible refine Kd.C_alloc ?_ _) | (with_reducible refine Kd.C_drewN ?_ _) | (with_reducible refine Kd.C_drew ?_))); (case side2 => exact HC0.out); (case side3 => repeat (first | exact (Kd.C_below HR1.out HB.out) | (with_reducible refine Kd.C_alloc ?_ _) | (with_reducible refine Kd.C_drewN ?_ _) | (with_reducible refine Kd.C_drew ?_))); (case side4 => exact HC1.out); rintro e w29 ⟨v111, rfl, ho0, hb⟩; have n0_ := Aside0.mk (Kd.R_below (by (with_reducible repeat (first | apply Kd.R_alloc | apply Kd.R_drewN | apply Kd.R_drew)); exact HO105.out) hb); have n1_ := Aside0.mk (Kd.R_below (by (with_reducible repeat (first | apply Kd.R_alloc | apply Kd.R_drewN | apply Kd.R_drew)); exact HO108.out) hb); have n2_ := Aside0.mk (Kd.R_lower ho0 (below_size (by repeat (first | (with_reducible first | exact HB.out | apply below_alloc | apply pw_below_drewN | apply below_drew1) | exact HB.out)))); have n3_ := Aside0.mk (below_step (by repeat (first | (with_reducible first | exact HB.out | apply below_alloc | apply pw_below_drewN | apply below_drew1) | exact HB.out)) hb); clear HO105; clear HO108; clear HB; have HO105 := n0_; have HO108 := n1_; have HO112 := n2_; have HB := n3_; clear n0_ n1_ n2_ n3_; (try clear hb); (try clear hb2); (try clear hk); (try clear hi); (try clear ho0)) | (go_at_call 16; (with_reducible refine (remoraref43_Common.calls k _ _ l0 _ _ l1 t113 _ ?side1 ?side2 ?side3 ?side4 A10.out).mono ?_); (case side1 => repeat (first | exact (Kd.C_below HR0.out HB.out) | (with_reducible refine Kd.C_alloc ?_ _) | (with_reducible refine Kd.C_drewN ?_ _) | (with_reducible refine Kd.C_drew ?_))); (case side2 => exact HC0.out); (case side3 => repeat (first | exact (Kd.C_below HR1.out HB.out) | (with_reducible refine Kd.C_alloc ?_ _) | (with_reducible refine Kd.C_drewN ?_ _) | (with_reducible refine Kd.C_drew ?_))); (case side4 => exact HC1.out); rintro e w30 ⟨v114, rfl, ho0, hb⟩; have n0_ := Aside0.mk (Kd.R_below (by (with_reducible repeat (first | apply Kd.R_alloc | apply Kd.R_drewN | apply Kd.R_drew)); exact HO105.out) hb); have n1_ := Aside0.mk (Kd.R_below (by (with_reducible repeat (first | apply Kd.R_alloc | apply Kd.R_drewN | apply Kd.R_drew)); exact HO108.out) hb); have n2_ := Aside0.mk (Kd.R_elder' (by (with_reducible repeat (first | apply Kd.R_alloc | apply Kd.R_drewN | apply Kd.R_drew)); exact HO112.out) (Kd.R_base ho0) hb); have n3_ := Aside0.mk (Kd.R_lower (Kd.R_new' ho0 (Kd.R_lt (by (with_reducible repeat (first | apply Kd.R_alloc | apply Kd.R_drewN | apply Kd.R_drew)); exact HO112.out))) (below_size (by repeat (first | (with_reducible first | exact HB.out | apply below_alloc | apply pw_below_drewN | apply below_drew1) | exact HB.out)))); have n4_ := Aside0.mk (below_step (by repeat (first | (with_reducible first | exact HB.out | apply below_alloc | apply pw_below_drewN | apply below_drew1) | exact HB.out)) hb); clear HO105; clear HO108; clear HO112; clear HB; have HO105 := n0_; have HO108 := n1_; have HO112 := n2_; have HO115 := n3_; have HB := n4_; clear n0_ n1_ n2_ n3_ n4_; (try clear hb); (try clear hb2); (try clear hk); (try clear hi); (try clear ho0); obtain ⟨Ao31, co31, eo31⟩ := Kd.R_slice HO112.out; subst eo31; obtain ⟨Ao32, co32, eo32⟩ := Kd.R_slice HO115.out; subst eo32) | (go_at_call 14; (with_reducible refine (remoralaw43_same.calls k _ _ t110 _ _ t113 false _ ?side1 ?side2 ?side3 ?side4 A11.out).mono ?_); (case side1 => repeat (first | exact (Kd.R_reads' HO112.out).2.2 | (with_reducible refine Kd.C_alloc ?_ _) | (with_reducible refine Kd.C_drewN ?_ _) | (with_reducible refine Kd.C_drew ?_))); (case side2 => exact (Kd.R_reads' HO112.out).2.1); (case side3 => repeat (first | exact (Kd.R_reads' HO115.out).2.2 | (with_reducible refine Kd.C_alloc ?_ _) | (with_reducible refine Kd.C_drewN ?_ _) | (with_reducible refine Kd.C_drew ?_))); (case side4 => exact (Kd.R_reads' HO115.out).2.1); rintro e w' ⟨rfl, ⟨nd, rfl⟩⟩))
    go_ret
    exact ⟨by first | rfl | (simp [errW_none, errW_some] <;> rfl) | (simp [*, errW_none, errW_some] <;> rfl), by repeat (first | (with_reducible first | exact HB.out | apply below_alloc | apply pw_below_drewN | apply below_drew1) | exact HB.out)⟩
  ·replace c8 := Bool.eq_false_iff.mpr c8
   subst c8
   have H1 : (some false) = some r := by rw [if_neg (show ¬ (false = true) by decide)] at H; exact H
   clear H
   have H := H1
   clear H1
   obtain rfl := Option.some.inj H
   go_enter Try.func4, Try.ntmps4
   go_wp2_with (first | ((with_reducible refine gate_callee (f := 9) rfl ?_); refine goesL_ (some 7) rfl rfl Try.func9 (by kernel_rfl) rfl #[.slice A0 l0.length c0, .slice A1 l1.length c1] rfl (by (try simp only [List.map_toArray, List.map_cons, List.map_nil]); first | done | rfl | (simp only [List.length_drop, List.length_take]; rfl)) ?_; (with_reducible refine (remoralaw43_few.calls _ _ l0 _ _ l1 true _ ?side1 ?side2 ?side3 ?side4 A3.out).mono ?_); (case side1 => repeat (first | exact HR0.out | (with_reducible refine Kd.C_alloc ?_ _) | (with_reducible refine Kd.C_drewN ?_ _) | (with_reducible refine Kd.C_drew ?_))); (case side2 => exact HC0.out); (case side3 => repeat (first | exact HR1.out | (with_reducible refine Kd.C_alloc ?_ _) | (with_reducible refine Kd.C_drewN ?_ _) | (with_reducible refine Kd.C_drew ?_))); (case side4 => exact HC1.out); rintro e w' ⟨rfl, ⟨nd, rfl⟩⟩; refine ⟨_, rfl, ?_⟩) | ((with_reducible refine gate_callee (f := 11) rfl ?_); refine goesL_ (some 12) rfl rfl Try.func11 (by kernel_rfl) rfl #[.slice A0 l0.length c0, .slice A1 l1.length c1] rfl (by (try simp only [List.map_toArray, List.map_cons, List.map_nil]); first | done | rfl | (simp only [List.length_drop, List.length_take]; rfl)) ?_; (with_reducible refine (arch_Since.calls _ _ l0 _ _ l1 t103 _ ?side1 ?side2 ?side3 ?side4 A5.out).mono ?_); (case side1 => repeat (first | exact HR0.out | (with_reducible refine Kd.C_alloc ?_ _) | (with_reducible refine Kd.C_drewN ?_ _) | (with_reducible refine Kd.C_drew ?_))); (case side2 => exact HC0.out); (case side3 => repeat (first | exact HR1.out | (with_reducible refine Kd.C_alloc ?_ _) | (with_reducible refine Kd.C_drewN ?_ _) | (with_reducible refine Kd.C_drew ?_))); (case side4 => exact HC1.out); rintro e w33 ⟨v104, rfl, ho0, hb⟩; refine ⟨_, rfl, ?_⟩; have n0_ := Aside0.mk (Kd.R_lower ho0 (below_size (by repeat (first | (with_reducible first | exact HB.out | apply below_alloc | apply pw_below_drewN | apply below_drew1) | exact HB.out)))); have n1_ := Aside0.mk (below_step (by repeat (first | (with_reducible first | exact HB.out | apply below_alloc | apply pw_below_drewN | apply below_drew1) | exact HB.out)) hb); clear HB; have HO105 := n0_; have HB := n1_; clear n0_ n1_; (try clear hb); (try clear hb2); (try clear hk); (try clear hi); (try clear ho0)) | ((with_reducible refine gate_callee (f := 13) rfl ?_); refine goesL_ (some 15) rfl rfl Try.func13 (by kernel_rfl) rfl #[.slice A0 l0.length c0, .slice A1 l1.length c1] rfl (by (try simp only [List.map_toArray, List.map_cons, List.map_nil]); first | done | rfl | (simp only [List.length_drop, List.length_take]; rfl)) ?_; (with_reducible refine (remoraref43_Since.calls k _ _ l0 _ _ l1 t106 _ ?side1 ?side2 ?side3 ?side4 A6.out).mono ?_); (case side1 => repeat (first | exact (Kd.C_below HR0.out HB.out) | (with_reducible refine Kd.C_alloc ?_ _) | (with_reducible refine Kd.C_drewN ?_ _) | (with_reducible refine Kd.C_drew ?_))); (case side2 => exact HC0.out); (case side3 => repeat (first | exact (Kd.C_below HR1.out HB.out) | (with_reducible refine Kd.C_alloc ?_ _) | (with_reducible refine Kd.C_drewN ?_ _) | (with_reducible refine Kd.C_drew ?_))); (case side4 => exact HC1.out); rintro e w34 ⟨v107, rfl, ho0, hb⟩; refine ⟨_, rfl, ?_⟩; have n0_ := Aside0.mk (Kd.R_below (by (with_reducible repeat (first | apply Kd.R_alloc | apply Kd.R_drewN | apply Kd.R_drew)); exact HO105.out) hb); have n1_ := Aside0.mk (Kd.R_lower ho0 (below_size (by repeat (first | (with_reducible first | exact HB.out | apply below_alloc | apply pw_below_drewN | apply below_drew1) | exact HB.out)))); have n2_ := Aside0.mk (below_step (by repeat (first | (with_reducible first | exact HB.out | apply below_alloc | apply pw_below_drewN | apply below_drew1) | exact HB.out)) hb); clear HO105; clear HB; have HO105 := n0_; have HO108 := n1_; have HB := n2_; clear n0_ n1_ n2_; (try clear hb); (try clear hb2); (try clear hk); (try clear hi); (try clear ho0); obtain ⟨Ao35, co35, eo35⟩ := Kd.R_slice HO105.out; subst eo35; obtain ⟨Ao36, co36, eo36⟩ := Kd.R_slice HO108.out; subst eo36) | ((with_reducible refine gate_callee (f := 12) rfl ?_); refine goesL_ (some 16) rfl rfl Try.func12 (by kernel_rfl) rfl #[.slice Ao35 t103.length co35, .slice Ao36 t106.length co36] rfl (by (try simp only [List.map_toArray, List.map_cons, List.map_nil]); first | done | rfl | (simp only [List.length_drop, List.length_take]; rfl)) ?_; (with_reducible refine (remoralaw43_told.calls _ _ t103 _ _ t106 false _ ?side1 ?side2 ?side3 ?side4 A7.out).mono ?_); (case side1 => repeat (first | exact (Kd.R_reads' HO105.out).2.2 | (with_reducible refine Kd.C_alloc ?_ _) | (with_reducible refine Kd.C_drewN ?_ _) | (with_reducible refine Kd.C_drew ?_))); (case side2 => exact (Kd.R_reads' HO105.out).2.1); (case side3 => repeat (first | exact (Kd.R_reads' HO108.out).2.2 | (with_reducible refine Kd.C_alloc ?_ _) | (with_reducible refine Kd.C_drewN ?_ _) | (with_reducible refine Kd.C_drew ?_))); (case side4 => exact (Kd.R_reads' HO108.out).2.1); rintro e w37 ⟨rfl, hb⟩; refine ⟨_, rfl, ?_⟩; have n0_ := Aside0.mk (Kd.R_below (by (with_reducible repeat (first | apply Kd.R_alloc | apply Kd.R_drewN | apply Kd.R_drew)); exact HO105.out) hb); have n1_ := Aside0.mk (Kd.R_below (by (with_reducible repeat (first | apply Kd.R_alloc | apply Kd.R_drewN | apply Kd.R_drew)); exact HO108.out) hb); have n2_ := Aside0.mk (below_step (by repeat (first | (with_reducible first | exact HB.out | apply below_alloc | apply pw_below_drewN | apply below_drew1) | exact HB.out)) hb); clear HO105; clear HO108; clear HB; have HO105 := n0_; have HO108 := n1_; have HB := n2_; clear n0_ n1_ n2_; (try clear hb); (try clear hb2); (try clear hk); (try clear hi)))
   go_ret
   exact ⟨by first | rfl | (simp [errW_none, errW_some] <;> rfl) | (simp [*, errW_none, errW_some] <;> rfl), by repeat (first | (with_reducible first | exact HB.out | apply below_alloc | apply pw_below_drewN | apply below_drew1) | exact HB.out)⟩
 ·replace c4 := Bool.eq_false_iff.mpr c4
  subst c4
  have H1 : ((remoralaw43_awake.f).bind fun t102 => (some t102)) = some r := by rw [if_neg (show ¬ (false = true) by decide)] at H; exact H
  clear H
  have H := H1
  clear H1
  replace H := Option.bind_eq_some_iff.mp H
  obtain ⟨t102, A380, H⟩ := H
  replace H : (some t102) = some r := H
  have A38 := Aside0.mk A380
  clear A380
  obtain rfl := Option.some.inj H
  go_enter Try.func4, Try.ntmps4
  go_wp2_with (first | ((with_reducible refine gate_callee (f := 9) rfl ?_); refine goesL_ (some 7) rfl rfl Try.func9 (by kernel_rfl) rfl #[.slice A0 l0.length c0, .slice A1 l1.length c1] rfl (by (try simp only [List.map_toArray, List.map_cons, List.map_nil]); first | done | rfl | (simp only [List.length_drop, List.length_take]; rfl)) ?_; (with_reducible refine (remoralaw43_few.calls _ _ l0 _ _ l1 false _ ?side1 ?side2 ?side3 ?side4 A3.out).mono ?_); (case side1 => repeat (first | exact HR0.out | (with_reducible refine Kd.C_alloc ?_ _) | (with_reducible refine Kd.C_drewN ?_ _) | (with_reducible refine Kd.C_drew ?_))); (case side2 => exact HC0.out); (case side3 => repeat (first | exact HR1.out | (with_reducible refine Kd.C_alloc ?_ _) | (with_reducible refine Kd.C_drewN ?_ _) | (with_reducible refine Kd.C_drew ?_))); (case side4 => exact HC1.out); rintro e w' ⟨rfl, ⟨nd, rfl⟩⟩; refine ⟨_, rfl, ?_⟩) | ((with_reducible refine gate_callee (f := 10) rfl ?_); refine goesL_ (some 9) rfl rfl Try.func10 (by kernel_rfl) rfl #[] rfl (by (try simp only [List.map_toArray, List.map_cons, List.map_nil]); first | done | rfl | (simp only [List.length_drop, List.length_take]; rfl)) ?_; (with_reducible refine (remoralaw43_awake.calls  t102 _ A38.out).mono ?_); rintro e w39 ⟨rfl, hb⟩; refine ⟨_, rfl, ?_⟩; have n0_ := Aside0.mk (below_step (by repeat (first | (with_reducible first | exact HB.out | apply below_alloc | apply pw_below_drewN | apply below_drew1) | exact HB.out)) hb); clear HB; have HB := n0_; clear n0_; (try clear hb); (try clear hb2); (try clear hk); (try clear hi)))
  go_ret
  exact ⟨by first | rfl | (simp [errW_none, errW_some] <;> rfl) | (simp [*, errW_none, errW_some] <;> rfl), by repeat (first | (with_reducible first | exact HB.out | apply below_alloc | apply pw_below_drewN | apply below_drew1) | exact HB.out)⟩
end Go.Proofs.Ytodbmagneaiocaa.PA
namespace Go.Proofs.Ytodbmagneaiocaa.PA
open Go.RowKit Go.Proofs.YtodbmagneaiocaaW.PrintWords Go.Proofs.YtodbmagneaiocaaW.PrintLast Go.Proofs.YtodbmagneaiocaaW.PrintMore
attribute [local go_sem] max2_int min2_int max_two min_two max_three min_three max_four min_four   -- for this text's walks alone
set_option linter.unusedVariables false
set_option linter.unusedSimpArgs false
end Go.Proofs.Ytodbmagneaiocaa.PA
namespace Go.Proofs.Ytodbmagneaiocaa.PA
open Go.RowKit Go.Proofs.YtodbmagneaiocaaW.PrintWords Go.Proofs.YtodbmagneaiocaaW.PrintLast Go.Proofs.YtodbmagneaiocaaW.PrintMore
attribute [local go_sem] max2_int min2_int max_two min_two max_three min_three max_four min_four
set_option linter.unusedVariables false
set_option linter.unusedSimpArgs false
theorem few_f (a b : List S43) : remoralaw43_few.f a b = some (decide (a.length ≤ 60) && decide (b.length ≤ 60)) := by
 unfold remoralaw43_few.f
 by_cases h : a.length ≤ 60
 ·rw [if_pos (by omega), decide_eq_true h, Bool.true_and]
  congr 1
  by_cases h2 : b.length ≤ 60
  ·rw [decide_eq_true h2, decide_eq_true (by omega)]
  ·rw [decide_eq_false h2, decide_eq_false (by omega)]
 ·rw [if_neg (by omega), decide_eq_false h, Bool.false_and]
end Go.Proofs.Ytodbmagneaiocaa.PA
namespace Go.Proofs.Ytodbmagneaiocaa.PA
open Go.RowKit Go.Proofs.YtodbmagneaiocaaW.PrintWords Go.Proofs.YtodbmagneaiocaaW.PrintLast Go.Proofs.YtodbmagneaiocaaW.PrintMore
attribute [local go_sem] max2_int min2_int max_two min_two max_three min_three max_four min_four
set_option linter.unusedVariables false
set_option linter.unusedSimpArgs false
theorem becR_key {u v : List S43} {p : ByteArray} (h : p ∈ KL u v) : becR u v p = bec u v p := by
 rw [inK] at h
 exact if_neg (fun e => h.elim (fun h => h e.1) (fun h => h e.2))
theorem rsince_l (u v : List S43) (hu : u.length ≤ 1000) (hv : v.length ≤ 1000) (K : List ByteArray) (hK : ∀ p ∈ K, p ∈ KL u v) (hl : K.length ≤ 10000) : ∀ (n i k : Nat) (acc : List S50), K.length - i = n → i ≤ K.length → n + 1 ≤ k → acc.length ≤ i →
  remoraref43_Since.l0 k u v acc K (i : Int) = some (acc ++ ((K.drop i).flatMap (fun p => if bec u v p = 0 then [] else [(⟨p, bec u v p⟩ : S28)])).map toR) := by
 intro n
 induction n with
 | zero =>
  intro i k acc hn hi hk ha
  obtain ⟨k, rfl⟩ : ∃ j, k = j + 1 := ⟨k - 1, by omega⟩
  rw [remoraref43_Since.l0, if_neg (by omega), List.drop_eq_nil_of_le (by omega)]
  simp
 | succ n ih =>
  intro i k acc hn hi hk ha
  obtain ⟨k, rfl⟩ : ∃ j, k = j + 1 := ⟨k - 1, by omega⟩
  have hlt : i < K.length := by omega
  have hb := becR_key (hK K[i] (List.getElem_mem hlt))
  have hr := bec_range (findE K[i] u) (findE K[i] v)
  have hr : 0 ≤ bec u v K[i] ∧ bec u v K[i] ≤ 4 := hr
  rw [remoraref43_Since.l0, if_pos (by omega), if_pos (by omega), rdB K i hlt, remoraref43_Became.f, if_pos ⟨by omega, by omega⟩, Option.bind_some, hb, wrapE i (by omega), List.drop_eq_getElem_cons hlt, List.flatMap_cons, List.map_append]
  by_cases h0 : bec u v K[i] = 0
  ·rw [if_neg (by omega), if_pos h0, ih (i + 1) k acc (by omega) (by omega) (by omega) (by omega)]
   rfl
  ·rw [if_pos (by omega), if_pos (by omega), if_neg h0, ih (i + 1) k _ (by omega) (by omega) (by omega) (by rw [List.length_append]; simp; omega), List.append_assoc]
   rfl
theorem rsince_f (u v : List S43) (hu : u.length ≤ 1000) (hv : v.length ≤ 1000) (za : ∀ y ∈ u, y.f0.size ≤ 1048576) (zb : ∀ y ∈ v, y.f0.size ≤ 1048576) (k : Nat) (hk : 4100000 ≤ k) : remoraref43_Since.f k u v = some ((sinceL u v).map toR) := by
 have hKl := K_len u v
 unfold remoraref43_Since.f
 rw [paths_f u v hu hv za zb k (by omega), Option.bind_some, since_form]
 have h := rsince_l u v hu hv (KL u v) (fun p hp => hp) (by omega) (KL u v).length 0 k [] (by omega) (Nat.zero_le _) (by omega) (Nat.zero_le _)
 rw [List.drop_zero, List.nil_append] at h
 exact h
theorem rcommon_l43 (u v : List S43) (hu : u.length ≤ 1000) (hv : v.length ≤ 1000) (K : List ByteArray) (hK : ∀ p ∈ K, findE p u ≠ none) (hl : K.length ≤ 10000) : ∀ (n i k : Nat) (acc : List S43), K.length - i = n → i ≤ K.length → n + 200000 ≤ k → acc.length ≤ i →
  remoraref43_Common.l0 k u v acc K (i : Int) = some (acc ++ (K.drop i).flatMap (fun p => (gC u v p).toList)) := by
 intro n
 induction n with
 | zero =>
  intro i k acc hn hi hk ha
  obtain ⟨k, rfl⟩ : ∃ j, k = j + 1 := ⟨k - 1, by omega⟩
  rw [remoraref43_Common.l0, if_neg (by omega), List.drop_eq_nil_of_le (by omega)]
  simp
 | succ n ih =>
  intro i k acc hn hi hk ha
  obtain ⟨k, rfl⟩ : ∃ j, k = j + 1 := ⟨k - 1, by omega⟩
  have hlt : i < K.length := by omega
  have hu1 := hK K[i] (List.getElem_mem hlt)
  have hb : becR u v K[i] = bec u v K[i] := if_neg (fun e => hu1 e.1)
  rw [remoraref43_Common.l0, if_pos (by omega), if_pos (by omega), rdB K i hlt, wrapE i (by omega), List.drop_eq_getElem_cons hlt, List.flatMap_cons]
  rcases rfind43_f v K[i] (by omega) k (by omega) with ⟨e1, e2⟩ | ⟨j, hj, e1, e2⟩
  ·have hg : gC u v K[i] = none := by
    unfold gC bec
    cases hf : findE K[i] u with
    | none => exact absurd hf hu1
    | some x =>
     rw [e1]
     rfl
   rw [e2, Option.bind_some, if_neg (by omega), hg, ih (i + 1) k acc (by omega) (by omega) (by omega) (by omega)]
   rfl
  ·rw [e2, Option.bind_some, if_pos (by omega), remoraref43_Became.f, if_pos ⟨by omega, by omega⟩, Option.bind_some, hb]
   by_cases h0 : bec u v K[i] = 0
   ·rw [if_pos h0]
    rcases rfind43_f u K[i] (by omega) k (by omega) with ⟨f1, f2⟩ | ⟨q, hq, f1, f2⟩
    ·exact absurd f1 hu1
    ·have hg : gC u v K[i] = some u[q] := by
      unfold gC
      rw [if_pos h0, f1]
     rw [f2, Option.bind_some, if_pos (by omega), if_pos (by omega), if_pos (by omega), rdE_get u q hq, hg, ih (i + 1) k _ (by omega) (by omega) (by omega) (by rw [List.length_append]; simp; omega), List.append_assoc]
     rfl
   ·have hg : gC u v K[i] = none := if_neg h0
    rw [if_neg h0, hg, ih (i + 1) k acc (by omega) (by omega) (by omega) (by omega)]
    rfl
theorem gC_none {u v : List S43} {p : ByteArray} (h : findE p u = none) : gC u v p = none := by
 unfold gC bec
 rw [h]
 rfl
theorem rcommon_f43 (u v : List S43) (hu : u.length ≤ 1000) (hv : v.length ≤ 1000) (za : ∀ y ∈ u, y.f0.size ≤ 1048576) (k : Nat) (hk : 4300000 ≤ k) : remoraref43_Common.f k u v = some (commonL u v) := by
 have hKl := K_len u []
 have hin : ∀ p, p ∈ KL u [] ↔ findE p u ≠ none := fun p => by
  rw [inK]
  constructor
  ·rintro (h | h)
   ·exact h
   ·exact absurd rfl h
  ·exact Or.inl
 unfold remoraref43_Common.f
 rw [paths_f u [] hu (by simp) za (fun y hy => by cases hy) k (by omega), Option.bind_some]
 simp only [List.length_nil, Nat.add_zero] at hKl
 have h := rcommon_l43 u v hu hv (KL u []) (fun p hp => (hin p).1 hp) (by omega) (KL u []).length 0 k [] (by omega) (Nat.zero_le _) (by omega) (Nat.zero_le _)
 rw [List.drop_zero, List.nil_append] at h
 refine h.trans ?_
 congr 1
 refine ss_ext _ _ (flat_ss (K_sort u []) (gC_path u v)) (common_ss u v) (fun q => ?_)
 rw [common_form, flat_find (K_sort u []) (gC_path u v) q (fun hq => ?_), flat_find (K_sort u v) (gC_path u v) q (fun hq => ?_)]
 ·refine gC_none (Classical.byContradiction fun h => hq ?_)
  rw [inK]
  exact Or.inl h
 ·refine gC_none (Classical.byContradiction fun h => hq ?_)
  exact (hin q).2 h
theorem archSince_f (a b : List S43) (ha : ∀ y ∈ a, y.f0.size ≤ 1048576) (hb : ∀ y ∈ b, y.f0.size ≤ 1048576) : ∃ k, remoralaw43_ArchSince.f k a b = some true := by
 refine ⟨5000000, ?_⟩
 unfold remoralaw43_ArchSince.f
 rw [few_f, Option.bind_some]
 by_cases h : (decide (a.length ≤ 60) && decide (b.length ≤ 60)) = true
 ·rw [if_pos h]
  simp only [Bool.and_eq_true, decide_eq_true_eq] at h
  have oa : okL43 a := ⟨by omega, ha⟩
  have ob : okL43 b := ⟨by omega, hb⟩
  have hs := (since_ok ha hb).1
  have hc := common_len a b
  rw [arch_Since.f, if_pos ⟨oa, ob⟩, Option.bind_some, rsince_f a b (by omega) (by omega) ha hb _ (by omega), Option.bind_some, remoralaw43_told.f, if_pos ⟨by omega, sameT_map _⟩, Option.bind_some, if_pos rfl, arch_Common.f, if_pos ⟨oa, ob⟩, Option.bind_some, rcommon_f43 a b (by omega) (by omega) ha _ (by omega), Option.bind_some, same43 _ (by omega) _ (by omega), Option.bind_some, if_pos rfl]
  rfl
 ·rw [if_neg h]
  rfl
end Go.Proofs.Ytodbmagneaiocaa.PA
namespace Go.Proofs.Ytodbmagneaiocaa.PA
open Go.RowKit Go.Proofs.YtodbmagneaiocaaW.PrintWords Go.Proofs.YtodbmagneaiocaaW.PrintLast Go.Proofs.YtodbmagneaiocaaW.PrintMore
attribute [local go_sem] max2_int min2_int max_two min_two max_three min_three max_four min_four
set_option linter.unusedVariables false
set_option linter.unusedSimpArgs false
theorem bulk_pos {H : Type} : ∀ d : DataW H, 1 ≤ Rows.uptoBulk d
 | .lit (.string b) => by simp [Rows.uptoBulk]
 | .lit (.int _ _) => by simp [Rows.uptoBulk]
 | .lit (.bool _) => by simp [Rows.uptoBulk]
 | .lit (.float _ _) => by simp [Rows.uptoBulk]
 | .lit .nil => by simp [Rows.uptoBulk]
 | .nil => by simp [Rows.uptoBulk]
 | .ptr d => by simp [Rows.uptoBulk]
 | .slice _ _ => by simp [Rows.uptoBulk]
 | .agg _ => by simp [Rows.uptoBulk]
 | .iface _ _ => by simp [Rows.uptoBulk]
 | .map _ => by simp [Rows.uptoBulk]
 | .held _ => by simp [Rows.uptoBulk]
theorem bulk_len {H : Type} : ∀ l : List (DataW H), l.length ≤ Rows.uptoBulkAll l
 | [] => by simp [Rows.uptoBulkAll]
 | d :: r => by
  have h1 := bulk_pos d
  have h2 := bulk_len r
  simp only [List.length_cons, Rows.uptoBulkAll]
  omega
theorem bulk_mem {H : Type} : ∀ (l : List (DataW H)) (d : DataW H), d ∈ l → Rows.uptoBulk d ≤ Rows.uptoBulkAll l
 | [], d, h => by simp at h
 | e :: r, d, h => by
  simp only [Rows.uptoBulkAll]
  rcases List.mem_cons.1 h with rfl | h
  ·omega
  ·have := bulk_mem r d h
   omega
structure Opn {α : Type} (P : Program) (t : TypeId) (d : Kd α) (wf : Nat → α → Prop) : Prop where
 sz : d.sz = P.cellsOf t
 mono : ∀ n m a, n ≤ m → wf n a → wf m a
 op : ∀ {H : Type} (enc : TypeId × Value → H) (w : World) (base : Nat) (spare : Nat → Bool) (held : Bool) (fuel : Nat) (cs : List Value) (x : DataW H × List MemPlace), DataW.trod enc P w base spare held fuel t cs = some x → ∃ a, d.K w a cs ∧ wf (Rows.uptoBulk x.1) a
section
variable {P : Program} {t : TypeId}
theorem opn_int {k : IntKind} (ht : P.underlying t = some (.int k)) (hs : P.cellsOf t = 1) : Opn P t (Kd.int k) (fun _ a => (Lit.int k a).wf = true) where
 sz := hs.symm
 mono := fun _ _ _ _ h => h
 op := fun enc w base spare held fuel cs x h => by
  obtain ⟨n, rfl, rfl, hw⟩ := DataW.trod_int ht h
  exact ⟨n, rfl, hw⟩
theorem opn_string (ht : P.underlying t = some .string) (hs : P.cellsOf t = 1) : Opn P t Kd.string (fun n s => s.size < n ∧ s.size ≤ maxLen) where
 sz := hs.symm
 mono := fun _ _ _ h h' => ⟨Nat.lt_of_lt_of_le h'.1 h, h'.2⟩
 op := fun enc w base spare held fuel cs x h => by
  obtain ⟨s, rfl, rfl, hw⟩ := DataW.trod_string ht h
  refine ⟨s, rfl, ?_, hw⟩
  simp [Rows.uptoBulk]
theorem cells_get {w : World} {base : Nat} {a : Addr} {n : Nat} {cs : List Value} (h : w.cells? base a n = some cs) : cs.length = n ∧ ∀ i u, cs[i]? = some u → w.cell? (a.add i) = some u := by
 unfold World.cells? at h
 split at h
 ·refine ⟨by simpa using mapM_some_length h, fun i u hu => ?_⟩
  have hl := mapM_some_length h
  have hi : i < cs.length := (List.getElem?_eq_some_iff.1 hu).1
  have := mapM_some_get h i i (by rw [List.getElem?_range]; simp at hl; omega)
  rw [this, hu]
 ·cases h
theorem add_add (a : Addr) (i j : Nat) : (a.add i).add j = a.add (i + j) := by
 unfold Addr.add
 by_cases hi : i = 0 <;> by_cases hj : j = 0 <;> simp [hi, hj, Nat.add_assoc]
theorem opn_slice {α : Type} {e : TypeId} {d : Kd α} {wf : Nat → α → Prop} (ht : P.underlying t = some (.slice e)) (hs : P.cellsOf t = 1) (O : Opn P e d wf) :
  Opn P t (Kd.slice e d) (fun n xs => xs.length < n ∧ ∀ a ∈ xs, wf n a) where
 sz := hs.symm
 mono := fun n m a h h' => ⟨Nat.lt_of_lt_of_le h'.1 h, fun x hx => O.mono n m x h (h'.2 x hx)⟩
 op := fun enc w base spare held fuel cs x h => by
  rcases DataW.trod_slice ht h with ⟨rfl, rfl⟩ | ⟨a, len, cap, elems, rest, n, _, rfl, rfl, hb, hl, hm, hlen, hel, hsp, hns⟩
  ·exact ⟨[], ⟨none, 0, rfl, Nat.le_refl _, Kd.C_nil _ _⟩, by simp [Rows.uptoBulk], by simp⟩
  ·have each : ∀ i, i < len → ∃ y, elems[i]? = some y ∧ ∃ cs', w.cells? base (a.add (i * P.cellsOf e)) (P.cellsOf e) = some cs' ∧ ∃ v, d.K w v cs' ∧ wf (Rows.uptoBulk y.1) v := by
    intro i hi
    have h1 := hel i hi
    have h2 : elems[i]? = some (elems[i]'(by omega)) := List.getElem?_eq_getElem (by omega)
    rw [h2, Option.bind_eq_some_iff] at h1
    obtain ⟨cs', hc, ht'⟩ := h1
    obtain ⟨v, hv, hw⟩ := O.op enc w base spare held n cs' _ ht'
    exact ⟨_, h2, cs', hc, v, hv, hw⟩
   have ex : ∀ m, m ≤ len → ∃ xs : List α, xs.length = m ∧ ∀ i v, xs[i]? = some v → ∃ y, elems[i]? = some y ∧ ∃ cs', w.cells? base (a.add (i * P.cellsOf e)) (P.cellsOf e) = some cs' ∧ d.K w v cs' ∧ wf (Rows.uptoBulk y.1) v := by
    intro m
    induction m with
    | zero => exact fun _ => ⟨[], rfl, by simp⟩
    | succ m ih =>
     intro hm'
     obtain ⟨xs, hx, hg⟩ := ih (by omega)
     obtain ⟨y, hy, cs', hc, v, hv, hw⟩ := each m (by omega)
     refine ⟨xs ++ [v], by simp [hx], fun i u hu => ?_⟩
     by_cases hi : i < xs.length
     ·rw [List.getElem?_append_left hi] at hu
      exact hg i u hu
     ·rw [List.getElem?_append_right (by omega)] at hu
      have hi' : i = m := by
       have := (List.getElem?_eq_some_iff.1 hu).1
       simp at this
       omega
      subst hi'
      rw [hx, Nat.sub_self] at hu
      have : v = u := by simpa using hu
      subst this
      exact ⟨y, hy, cs', hc, hv, hw⟩
   obtain ⟨xs, hx, hg⟩ := ex len (Nat.le_refl _)
   have htot : Rows.uptoBulkAll (elems.map (·.1)) + 1 ≤ Rows.uptoBulk (DataW.slice (elems.map (·.1)) (rest.map (·.1))) := by
    simp only [Rows.uptoBulk]
    omega
   refine ⟨xs, ⟨some a, cap, by rw [hx], by omega, ⟨rfl, by unfold maxLen at hm; omega, fun _ => ⟨a, rfl, fun j p hp => ?_⟩⟩⟩, ?_, ?_⟩
   ·obtain ⟨y, hy, cs', hc, hk, hw⟩ := hg j p hp
    obtain ⟨g1, g2⟩ := cells_get hc
    refine ⟨cs', by rw [g1, O.sz], hk, fun i u hu => ?_⟩
    have := g2 i u hu
    rw [add_add] at this
    rw [O.sz]
    exact this
   ·have h1 := bulk_len (elems.map (·.1))
    simp only [List.length_map, hlen] at h1
    rw [hx]
    exact Nat.lt_of_lt_of_le (Nat.lt_succ_of_le h1) htot
   ·intro v hv
    obtain ⟨i, hi⟩ := List.getElem?_of_mem hv
    obtain ⟨y, hy, _, _, _, hw⟩ := hg i v hi
    refine O.mono _ _ _ ?_ hw
    have hmem : y.1 ∈ elems.map (·.1) := List.mem_map_of_mem (List.mem_of_getElem? hy)
    exact Nat.le_trans (bulk_mem _ _ hmem) (Nat.le_of_succ_le htot)
def OpnF {α : Type} (P : Program) (fs : List Field) (o : Nat) (d : Kd α) (wf : Nat → α → Prop) : Prop :=
 (∀ n m a, n ≤ m → wf n a → wf m a) ∧
 ∀ {H : Type} (enc : TypeId × Value → H) (w : World) (base : Nat) (spare : Nat → Bool) (held : Bool) (fuel : Nat) (cs : List Value) (ys : List (DataW H × List MemPlace)) (N : Nat),
  (∀ (i : Nat) (f : Field), fs[i]? = some f → ∃ y, ys[i]? = some y ∧ Rows.uptoBulk y.1 ≤ N ∧ DataW.trod enc P w base spare held fuel f.type ((cs.drop f.offset).take (P.cellsOf f.type)) = some y) →
  ∃ a, d.K w a ((cs.drop o).take d.sz) ∧ wf N a
theorem opnF_one {α : Type} {d : Kd α} {wf : Nat → α → Prop} {f : Field} {o : Nat} (ho : f.offset = o) (O : Opn P f.type d wf) : OpnF P [f] o d wf := by
 refine ⟨O.mono, fun enc w base spare held fuel cs ys N h => ?_⟩
 obtain ⟨y, hy, hN, ht⟩ := h 0 f rfl
 obtain ⟨a, ha, hw⟩ := O.op enc w base spare held fuel _ y ht
 refine ⟨a, ?_, O.mono _ _ _ hN hw⟩
 rw [O.sz, ← ho]
 exact ha
theorem opnF_cons {α β : Type} {d : Kd α} {d' : Kd β} {wf : Nat → α → Prop} {wf' : Nat → β → Prop} {f : Field} {fs : List Field} {o o' : Nat} (ho : f.offset = o) (O : Opn P f.type d wf) (he : o' = o + d.sz) (F : OpnF P fs o' d' wf') :
  OpnF P (f :: fs) o (Kd.pair d d') (fun n x => wf n x.1 ∧ wf' n x.2) := by
 refine ⟨fun n m a h h' => ⟨O.mono _ _ _ h h'.1, F.1 _ _ _ h h'.2⟩, fun enc w base spare held fuel cs ys N h => ?_⟩
 obtain ⟨y, hy, hN, ht⟩ := h 0 f rfl
 obtain ⟨a, ha, hw⟩ := O.op enc w base spare held fuel _ y ht
 obtain ⟨b, hb, hw'⟩ := F.2 enc w base spare held fuel cs (ys.drop 1) N (fun i g hg => by
  obtain ⟨z, hz, h1, h2⟩ := h (i + 1) g (by simpa using hg)
  refine ⟨z, ?_, h1, h2⟩
  rw [List.getElem?_drop, Nat.add_comm]
  exact hz)
 refine ⟨(a, b), ⟨(cs.drop o).take d.sz, (cs.drop o').take d'.sz, ?_, ?_, hb⟩, O.mono _ _ _ hN hw, hw'⟩
 ·show (cs.drop o).take (d.sz + d'.sz) = _
  rw [List.take_add, List.drop_drop, he]
 ·rw [O.sz, ← ho]
  exact ha
theorem opn_struct {α β : Type} {fs : Array Field} {d : Kd α} {wf : Nat → α → Prop} (f : β → α) (g : α → β) (hfg : ∀ a, f (g a) = a) (ht : P.underlying t = some (.struct fs)) (F : OpnF P fs.toList 0 d wf) (hs : d.sz = P.cellsOf t) :
  Opn P t (Kd.iso d f) (fun n x => wf n (f x)) where
 sz := hs
 mono := fun n m a h h' => F.1 n m (f a) h h'
 op := fun enc w base spare held fuel cs x h => by
  obtain ⟨xs, n, rfl, rfl, hl, hlen, hf⟩ := DataW.trod_struct ht h
  obtain ⟨a, ha, hw⟩ := F.2 enc w base spare held n cs xs (Rows.uptoBulk (DataW.agg (xs.map (·.1)))) (fun i q hq => by
   have h1 := hf i q (by simpa using hq)
   have hi : i < xs.length := by
    have := (List.getElem?_eq_some_iff.1 hq).1
    simp at this
    omega
   rw [List.getElem?_eq_getElem hi] at h1
   refine ⟨_, List.getElem?_eq_getElem hi, ?_, h1⟩
   have hmem : (xs[i]).1 ∈ xs.map (·.1) := List.mem_map_of_mem (List.getElem_mem hi)
   have := bulk_mem _ _ hmem
   simp only [Rows.uptoBulk]
   omega)
  refine ⟨g a, ?_, by rw [hfg]; exact hw⟩
  show d.K w (f (g a)) cs
  rw [hfg]
  rw [List.drop_zero, hs, ← hl, List.take_length] at ha
  exact ha
end
end Go.Proofs.Ytodbmagneaiocaa.PA
