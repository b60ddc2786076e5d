/- arch.Apply as a printed contract. -/
import Derived.Maps.Keyed
import Derived.Maps.Own
import Derived.Maps.OwnOps
import Derived.Maps.OwnSet
import Derived.Maps.Views
import Derived.Test.YtodbmagneaiocaaASG1
import Derived.BigQuiet
import Derived.Deep.QuietTactic
import Derived.Great.BuildSlice
import Derived.Laws.NewBlocks
import Derived.Outline
import Derived.Test.YtodbmagneaiocaaASG5
import Derived.Test.YtodbmagneaiocaaASG8
import Derived.Lib.QuietBelow
import Derived.Shelf.Abstract
namespace Go.Proofs.Ytodbmagneaiocaa.PA
open Go.RowKit Go.Proofs.YtodbmagneaiocaaW.PrintWords Go.Proofs.YtodbmagneaiocaaW.PrintLast Go.Proofs.YtodbmagneaiocaaW.PrintMore
attribute [local go_sem] max2_int min2_int max_two min_two max_three min_three max_four min_four
set_option linter.unusedVariables false
set_option linter.unusedSimpArgs false
def changedB (P : List S28) (s : ByteArray) : Bool := P.any (fun c => decide (c.f0 = s))
open Go.Maps in
structure MapC (w wr : World) (mb : Nat) (P : List S28) : Prop where
 base : w.heap.size ≤ mb
 own : ∃ n, ∃ D : DataW Unit, wr.ownsMap Try.prog 9 (plainElem Try.prog 4) mb n D ∧ n ≤ P.length ∧ ∀ s : ByteArray, D.atKey (.string s.data.toList) (.lit (.bool false)) = .lit (.bool (changedB P s))
theorem plainElem_bool_invC {Q : Program} {e : TypeId} (he : Q.underlying e = some .bool) {v : Value} {z : DataW Unit × List MemPlace} (h : plainElem Q e v = some z) : ∃ b, v = .bool b ∧ z = (.lit (.bool b), []) := by
 unfold plainElem at h
 rw [he] at h
 cases v <;> simp at h
 exact ⟨_, rfl, h.symm⟩
theorem changed_put (P : List S28) (x : S28) (s : ByteArray) : changedB (P ++ [x]) s = (decide (x.f0 = s) || changedB P s) := by
 unfold changedB
 rw [List.any_append, List.any_cons, List.any_nil, Bool.or_false, Bool.or_comm]
theorem MapC.step {w wr w2 : World} {mb : Nat} {P : List S28} (h : MapC w wr mb P) (hb : Below wr.heap.size wr w2) : MapC w w2 mb P := by
 obtain ⟨h1, n, D, ⟨es, clock, hh, F, hs, hD⟩, h2, h3⟩ := h
 exact ⟨h1, n, D, ⟨es, clock, blk_below hh hb, F, hs, hD⟩, h2, h3⟩
theorem MapC.heap {w wr w2 : World} {mb : Nat} {P : List S28} (h : MapC w wr mb P) (hh : w2.heap[mb]? = wr.heap[mb]?) : MapC w w2 mb P := by
 obtain ⟨h1, n, D, ⟨es, clock, hb, F, hs, hD⟩, h2, h3⟩ := h
 exact ⟨h1, n, D, ⟨es, clock, hh.trans hb, F, hs, hD⟩, h2, h3⟩
theorem MapC.lt {w wr : World} {mb : Nat} {P : List S28} (h : MapC w wr mb P) : mb < wr.heap.size := by
 obtain ⟨h1, n, D, ho, h2, h3⟩ := h
 exact ho.lt
theorem MapC.look {w wr : World} {mb : Nat} {P : List S28} (h : MapC w wr mb P) (s : ByteArray) (hs : s.size ≤ maxLen) : (Instr.lookup 54 (.map (some mb)) (.string s) false).run Try.prog wr = .ok (.bool (changedB P s)) wr := by
 obtain ⟨h1, n, D, ho, h2, h3⟩ := h
 obtain ⟨v, ps, hrun, hv⟩ := ho.lookup (z := .bool false) (zd := .lit (.bool false)) (zp := []) (Go.Maps.string_keyed Try.underlying9) Try.underlying54 (by kernel_rfl) (plainElem_bool Try.underlying4 false) (Go.WideMaps.keyOf_string_mk Try.underlying9 hs)
 rw [h3 s] at hv
 obtain ⟨b, hvb, hb⟩ := plainElem_bool_invC Try.underlying4 hv
 have hb4 : changedB P s = b := Lit.bool.inj (DataW.lit.inj (Prod.mk.inj hb).1)
 rw [hvb] at hrun
 exact hb4 ▸ hrun
theorem MapC.put {w wr : World} {mb : Nat} {P : List S28} (h : MapC w wr mb P) (hB : Below w.heap.size w wr) (x : S28) (hs : x.f0.size ≤ maxLen) (hP : P.length ≤ 1000000000) : ∃ w', (Instr.mapUpdate 54 (.map (some mb)) (.string x.f0) (.bool true)).run Try.prog wr = .ok () w' ∧ MapC w w' mb (P ++ [x]) ∧ Below w.heap.size w w' ∧ wr.grownBy w' (some mb) := by
 obtain ⟨h1, n, D, ho, h2, h3⟩ := h
 obtain ⟨w', hrun, ho2, hg⟩ := ho.update (Go.Maps.string_keyed Try.underlying9) Try.underlying54 (by simp [maxLen]; omega) (Go.WideMaps.keyOf_string_mk Try.underlying9 hs) (plainElem_bool Try.underlying4 true)
 refine ⟨w', hrun, ⟨h1, n + 1, _, ho2, by rw [List.length_append]; simp; omega, fun s => ?_⟩, ?_, hg⟩
 ·rw [changed_put P x]
  by_cases e : x.f0 = s
  ·subst e
   rw [decide_eq_true rfl, Bool.true_or]
   exact Go.Maps.atKey_put_same ho.isMap (show WideAt.IsKeyLit (.string _) from trivial) _ _
  ·rw [decide_eq_false e, Bool.false_or, Go.Maps.atKey_put_other, h3 s]
   intro h
   injection h with h
   exact e (ByteArray.ext (Array.toList_inj.1 h)).symm
 ·exact hB.grown hg (Nat.le_of_lt (Nat.lt_of_le_of_lt h1 ho.lt)) (fun k hk => by simp at hk; omega)
theorem MapC.start (w0 w : World) (hb : w0.heap.size ≤ w.heap.size) : MapC w0 (w.alloc (.map #[] 0)) w.heap.size [] := by
 have ho := World.ownsMap_made (H := Unit) w Try.prog 9 (plainElem Try.prog 4)
 exact ⟨hb, 0, _, ho, Nat.le_refl _, fun s => rfl⟩
end Go.Proofs.Ytodbmagneaiocaa.PA
namespace Go.Proofs.Ytodbmagneaiocaa.PA
open Go.RowKit Go.Proofs.YtodbmagneaiocaaW.PrintWords Go.Proofs.YtodbmagneaiocaaW.PrintLast Go.Proofs.YtodbmagneaiocaaW.PrintMore
attribute [local go_sem] max2_int min2_int max_two min_two max_three min_three max_four min_four
set_option linter.unusedVariables false
set_option linter.unusedSimpArgs false
def arch_Apply1_h.T7 : Bool × List (List Nat × List Nat) := (true, [([], []), ([], []), ([1], [1]), ([2], [2]), ([3], [3]), ([0, 4], [0, 4]), ([5, 5, 0, 1, 2, 3, 4, 5], [5])])
def arch_Apply1_h.B7 : List Nat := [0, 0, 2, 6, 14, 31, 63]
theorem arch_Apply1_h.tab7 : rtab .any (opsOf Try.f29 7) = arch_Apply1_h.T7 := by kernel_rfl
theorem arch_Apply1_h.bits7 : waitsOk arch_Apply1_h.T7.2 arch_Apply1_h.B7 = true := by kernel_rfl
theorem applyE_len (L : List S28) (p : Option S43 × Option S43) : (applyE L p).length ≤ 1 := by
 unfold applyE
 split
 ·cases p.2 <;> simp
 ·cases p.1 <;> simp
set_option maxHeartbeats 4000000 in
set_option maxRecDepth 100000 in
theorem apply1_two (x y : S43) (gx ox gy oy : Nat) (w0 w w1 W : World) (g gc m : Nat) (l : List S43) (L : List S28) (h : Box1 k43 43 22 w w1 W g l) (hg : w.heap.size ≤ g) (hg1 : g < w1.heap.size) (hl : l.length < 1000000000000) (hm : MapC w0 W m L) (hcc : W.cell? ⟨gc, 0, none⟩ = some (.map (some m))) (hx : ∀ j u, (entA x)[j]? = some u → W.cell? ⟨gx, ox + j, none⟩ = some u) (hy : ∀ j u, (entA y)[j]? = some u → W.cell? ⟨gy, oy + j, none⟩ = some u) (hsz : x.f0.size ≤ maxLen) :
  Calls Try.prog 29 #[.pointer (some ⟨gx, ox, none⟩), .pointer (some ⟨gy, oy, none⟩), .pointer (some ⟨gc, 0, none⟩), .pointer (some ⟨g, 0, none⟩)] W fun e W' => e = .returned (.tuple #[]) ∧ Box1 k43 43 22 w w1 W' g (l ++ applyE L (some x, some y)) := by
 have HG := Aside0.mk (And.intro hg hg1)
 have HL := Aside0.mk hl
 have HX := Aside0.mk h
 have HM := Aside0.mk hm
 have hu := Try.underlying43
 have HB := Aside0.mk (Below.refl W.heap.size W)
 have HSZ := Aside0.mk hsz
 have hx0 : W.cell? ⟨gx, ox, none⟩ = some (.string x.f0) := hx 0 _ rfl
 clear h hg hg1 hl hm hsz
 cases hch : changedB L x.f0 with
 | false =>
  have H0 := Aside0.mk (show applyE L (some x, some y) = [x] from by show (if changedB L x.f0 = true then _ else _) = _; rw [hch]; rfl)
  obtain ⟨v, hv, hr⟩ := HX.out.2.2
  have HR9 := Aside0.mk hr
  have HV9 := Aside0.mk hv
  have hcg : W.cell? ⟨g, 0, none⟩ = some v := (blk_cell hv 0).trans rfl
  clear hv hr
  have hcx := hx
  have hlk := HM.out.look x.f0 HSZ.out
  rw [hch] at hlk
  have HCH := Aside0.mk hch
  clear hch
  go_enter Try.func29, Try.ntmps29
  go_wp2
  refine start_ (n := 7) (S := fun w' => w'.cell? ⟨g, 0, none⟩ = some v ∧ ∀ j u, (entA x)[j]? = some u → w'.cell? ⟨gx, ox + j, none⟩ = some u) (ds := [5, 6]) #[false, false, false, false, false, false, false] (by kernel_rfl) rfl rfl ⟨hcg, hcx⟩ (fun hHeld => ?_)
  refine with_tabW arch_Apply1_h.tab7 arch_Apply1_h.bits7 (fun HT_ HW_ => ?_)
  obtain ⟨W5, hW5⟩ : ∃ W5, W.drew = W5 := ⟨_, rfl⟩
  rw [hW5] at hHeld ⊢
  have HBX := Aside0.mk (hW5 ▸ HX.out.drew)
  have HR := Aside0.mk (hW5 ▸ Kd.R_drew HR9.out)
  have HV := Aside0.mk (show W5.heap[g]? = some (.cells #[v] 22 (0, 0)) from hW5 ▸ HV9.out)
  clear HX HR9 HV9 hW5 hcg hcx
  refine pure_ (i := 1) (N := some 24) (v := ?_) (a' := ?_) #[false, true, false, false, false, false, false] rfl rfl (any_of HT_.out (by kernel_rfl)) (fun _ _ _ h => h) (Or.inl ⟨by rfl, ?_⟩) ?_ ?_
  rotate_left
  ·intro w'
   go_simp
   with_reducible rfl
  rotate_left
  ·simp only [Act.put, List.setIfInBounds_toArray, List.set_cons_zero, List.set_cons_succ, i64_w, i32_w]
   rfl
  refine pure_ (i := 2) (N := some 25) (v := ?_) (a' := ?_) #[false, true, true, false, false, false, false] rfl rfl (any_of HT_.out (by kernel_rfl)) (fun _ _ _ h => h) (Or.inl ⟨by rfl, ?_⟩) ?_ ?_
  rotate_left
  ·intro w'
   go_simp
   with_reducible rfl
  rotate_left
  ·simp only [Act.put, List.setIfInBounds_toArray, List.set_cons_zero, List.set_cons_succ, i64_w, i32_w]
   rfl
  refine take_ (i := 0) (N := some 23) (v := ?_) (a' := ?_) #[true, true, true, false, false, false, false] rfl rfl (take_ofW HT_.out HW_.out (by kernel_rfl)) (fun _ _ _ h => h) (Or.inl ⟨by rfl, ?_⟩) hHeld ?_ ?_
  rotate_left
  ·rintro w' ⟨s0_, s1_⟩
   go_simp
   with_reducible rfl
  rotate_left
  ·simp only [Act.put, List.setIfInBounds_toArray, List.set_cons_zero, List.set_cons_succ, i64_w, i32_w]
   rfl
  refine take_ (i := 3) (N := some 26) (v := ?_) (a' := ?_) #[true, true, true, true, false, false, false] rfl rfl (take_ofW HT_.out HW_.out (by kernel_rfl)) (fun _ _ _ h => h) (Or.inl ⟨by rfl, ?_⟩) hHeld ?_ ?_
  rotate_left
  ·rintro w' ⟨s0_, s1_⟩
   have sz_0 : w'.cell? ⟨gx, ox, none⟩ = some (.string x.f0) := s1_ 0 _ rfl
   have sz_1 := s1_ 1 _ rfl
   have sz_2 := s1_ 2 _ rfl
   have sz_3 := s1_ 3 _ rfl
   have sz_4 := s1_ 4 _ rfl
   have sz_5 := s1_ 5 _ rfl
   have sz_6 := s1_ 6 _ rfl
   have sz_7 := s1_ 7 _ rfl
   have sz_8 := s1_ 8 _ rfl
   have sz_9 := s1_ 9 _ rfl
   have sz_10 := s1_ 10 _ rfl
   clear s1_
   go_simp
   with_reducible rfl
  rotate_left
  ·simp only [Act.put, List.setIfInBounds_toArray, List.set_cons_zero, List.set_cons_succ, i64_w, i32_w]
   rfl
  refine one_ (i := 4) (N := some 27) #[true, true, true, true, true, false, false] rfl rfl (one_of HT_.out (by kernel_rfl)) (by decide) (fun K hK => ?_)
  refine value_ (w1 := W5.alloc (.cells #[.string x.f0, .int .i64 x.f1, .int .i64 x.f2, .int .i64 x.f3.f0, .int .i64 x.f3.f1, .int .i64 x.f3.f2, .int .i64 x.f3.f3, .int .i64 x.f3.f4, .string x.f4, .string x.f5, .int .i64 x.f6] 43)) (v := .slice (some ⟨W5.heap.size, 0, none⟩) 1 1) (by rfl) rfl (by first | (go_simp; done) | (go_simp; rfl)) ?_
  refine hK.out _ _ ⟨((below_alloc (Below.refl _ _) _).cell (World.block_lt_of_cell? _ _ hHeld.1)).trans hHeld.1, fun j u hj => ((below_alloc (Below.refl _ _) _).cell (World.block_lt_of_cell? _ _ (hHeld.2 j u hj))).trans (hHeld.2 j u hj)⟩ (fun hHeld => ?_)
  clear hK K
  refine norm_ (a' := ?_) ?_ ?_
  rotate_left
  ·show Act.put _ (some 27) _ = _
   simp only [Act.put, List.setIfInBounds_toArray, List.set_cons_zero, List.set_cons_succ, i64_w, i32_w]
   rfl
  refine last_ (i := 5) (N := some 28) #[true, true, true, true, true, true, false] rfl rfl (one_of HT_.out (by kernel_rfl)) (by decide) (fun K hK => ?_)
  refine Kd.R_append_step k43 (w0 := w) w.heap.size (by rfl) (.tmp 23) (.tmp 27) 22 43 (.agg #[(.string ⟨#[]⟩), (.int .i64 0), (.int .i64 0), (.int .i64 0), (.int .i64 0), (.int .i64 0), (.int .i64 0), (.int .i64 0), (.string ⟨#[]⟩), (.string ⟨#[]⟩), (.int .i64 0)]) 112 rfl Try.underlying22 info43 rfl (by decide) (by omega) v l x [.string x.f0, .int .i64 x.f1, .int .i64 x.f2, .int .i64 x.f3.f0, .int .i64 x.f3.f1, .int .i64 x.f3.f2, .int .i64 x.f3.f3, .int .i64 x.f3.f4, .string x.f4, .string x.f5, .int .i64 x.f6] (fun k => w1.heap.size ≤ k) (fun _ => False) rfl rfl (k43_mkM _ _ _ x) (fun _ h => h.elim) (fun k hk => Nat.le_trans HBX.out.2.1.1 hk) HR.out HBX.out.1 (below_size HBX.out.1) (by have := HL.out; omega) ?_
  intro v2 w2 ho hb1 hg hat
  obtain ⟨A2, c2, e2⟩ := Kd.R_slice ho
  subst e2
  have HE := Aside0.mk (HBX.out.put HG.out.1 HG.out.2 HV.out HR.out.1 ho hb1 hg)
  have hc2 : w2.cell? ⟨g, 0, none⟩ = some v := (blk_cell (HBX.out.kept HG.out.2 HV.out HR.out.1 hg) 0).trans rfl
  have hf2 := blk_frozen (HBX.out.kept HG.out.2 HV.out HR.out.1 hg) 0
  clear ho hb1 hg hat
  refine hK.out _ _ ?_
  clear hK K
  refine norm_ (a' := ?_) ?_ ?_
  rotate_left
  ·show Act.put _ (some 28) _ = _
   simp only [Act.put, List.setIfInBounds_toArray, List.set_cons_zero, List.set_cons_succ, i64_w, i32_w]
   rfl
  refine last_ (i := 6) (N := none) #[true, true, true, true, true, true, true] rfl rfl (one_of HT_.out (by kernel_rfl)) (by decide) (fun K hK => ?_)
  refine skip_ (w1 := w2.setCell ⟨g, 0, none⟩ (.slice A2 (l ++ [x]).length c2)) (by rfl) rfl (by first | (go_simp; done) | (go_simp; rfl)) ?_
  refine hK.out _ _ ?_
  clear hK K
  refine done_ (done_of HT_.out (by kernel_rfl)) ?_
  try go_wp2
  go_end0
  exact ⟨rfl, by rw [H0.out]; exact HE.out⟩
 | true =>
  have H0 := Aside0.mk (show applyE L (some x, some y) = [y] from by show (if changedB L x.f0 = true then _ else _) = _; rw [hch]; rfl)
  obtain ⟨v, hv, hr⟩ := HX.out.2.2
  have HR9 := Aside0.mk hr
  have HV9 := Aside0.mk hv
  have hcg : W.cell? ⟨g, 0, none⟩ = some v := (blk_cell hv 0).trans rfl
  clear hv hr
  have hcx := hy
  have hlk := HM.out.look x.f0 HSZ.out
  rw [hch] at hlk
  have HCH := Aside0.mk hch
  clear hch
  go_enter Try.func29, Try.ntmps29
  go_wp2
  refine start_ (n := 7) (S := fun w' => w'.cell? ⟨g, 0, none⟩ = some v ∧ ∀ j u, (entA y)[j]? = some u → w'.cell? ⟨gy, oy + j, none⟩ = some u) (ds := [5, 6]) #[false, false, false, false, false, false, false] (by kernel_rfl) rfl rfl ⟨hcg, hcx⟩ (fun hHeld => ?_)
  refine with_tabW arch_Apply1_h.tab7 arch_Apply1_h.bits7 (fun HT_ HW_ => ?_)
  obtain ⟨W5, hW5⟩ : ∃ W5, W.drew = W5 := ⟨_, rfl⟩
  rw [hW5] at hHeld ⊢
  have HBX := Aside0.mk (hW5 ▸ HX.out.drew)
  have HR := Aside0.mk (hW5 ▸ Kd.R_drew HR9.out)
  have HV := Aside0.mk (show W5.heap[g]? = some (.cells #[v] 22 (0, 0)) from hW5 ▸ HV9.out)
  clear HX HR9 HV9 hW5 hcg hcx
  refine pure_ (i := 1) (N := some 24) (v := ?_) (a' := ?_) #[false, true, false, false, false, false, false] rfl rfl (any_of HT_.out (by kernel_rfl)) (fun _ _ _ h => h) (Or.inl ⟨by rfl, ?_⟩) ?_ ?_
  rotate_left
  ·intro w'
   go_simp
   with_reducible rfl
  rotate_left
  ·simp only [Act.put, List.setIfInBounds_toArray, List.set_cons_zero, List.set_cons_succ, i64_w, i32_w]
   rfl
  refine pure_ (i := 2) (N := some 25) (v := ?_) (a' := ?_) #[false, true, true, false, false, false, false] rfl rfl (any_of HT_.out (by kernel_rfl)) (fun _ _ _ h => h) (Or.inl ⟨by rfl, ?_⟩) ?_ ?_
  rotate_left
  ·intro w'
   go_simp
   with_reducible rfl
  rotate_left
  ·simp only [Act.put, List.setIfInBounds_toArray, List.set_cons_zero, List.set_cons_succ, i64_w, i32_w]
   rfl
  refine take_ (i := 0) (N := some 23) (v := ?_) (a' := ?_) #[true, true, true, false, false, false, false] rfl rfl (take_ofW HT_.out HW_.out (by kernel_rfl)) (fun _ _ _ h => h) (Or.inl ⟨by rfl, ?_⟩) hHeld ?_ ?_
  rotate_left
  ·rintro w' ⟨s0_, s1_⟩
   go_simp
   with_reducible rfl
  rotate_left
  ·simp only [Act.put, List.setIfInBounds_toArray, List.set_cons_zero, List.set_cons_succ, i64_w, i32_w]
   rfl
  refine take_ (i := 3) (N := some 26) (v := ?_) (a' := ?_) #[true, true, true, true, false, false, false] rfl rfl (take_ofW HT_.out HW_.out (by kernel_rfl)) (fun _ _ _ h => h) (Or.inl ⟨by rfl, ?_⟩) hHeld ?_ ?_
  rotate_left
  ·rintro w' ⟨s0_, s1_⟩
   have sz_0 : w'.cell? ⟨gy, oy, none⟩ = some (.string y.f0) := s1_ 0 _ rfl
   have sz_1 := s1_ 1 _ rfl
   have sz_2 := s1_ 2 _ rfl
   have sz_3 := s1_ 3 _ rfl
   have sz_4 := s1_ 4 _ rfl
   have sz_5 := s1_ 5 _ rfl
   have sz_6 := s1_ 6 _ rfl
   have sz_7 := s1_ 7 _ rfl
   have sz_8 := s1_ 8 _ rfl
   have sz_9 := s1_ 9 _ rfl
   have sz_10 := s1_ 10 _ rfl
   clear s1_
   go_simp
   with_reducible rfl
  rotate_left
  ·simp only [Act.put, List.setIfInBounds_toArray, List.set_cons_zero, List.set_cons_succ, i64_w, i32_w]
   rfl
  refine one_ (i := 4) (N := some 27) #[true, true, true, true, true, false, false] rfl rfl (one_of HT_.out (by kernel_rfl)) (by decide) (fun K hK => ?_)
  refine value_ (w1 := W5.alloc (.cells #[.string y.f0, .int .i64 y.f1, .int .i64 y.f2, .int .i64 y.f3.f0, .int .i64 y.f3.f1, .int .i64 y.f3.f2, .int .i64 y.f3.f3, .int .i64 y.f3.f4, .string y.f4, .string y.f5, .int .i64 y.f6] 43)) (v := .slice (some ⟨W5.heap.size, 0, none⟩) 1 1) (by rfl) rfl (by first | (go_simp; done) | (go_simp; rfl)) ?_
  refine hK.out _ _ ⟨((below_alloc (Below.refl _ _) _).cell (World.block_lt_of_cell? _ _ hHeld.1)).trans hHeld.1, fun j u hj => ((below_alloc (Below.refl _ _) _).cell (World.block_lt_of_cell? _ _ (hHeld.2 j u hj))).trans (hHeld.2 j u hj)⟩ (fun hHeld => ?_)
  clear hK K
  refine norm_ (a' := ?_) ?_ ?_
  rotate_left
  ·show Act.put _ (some 27) _ = _
   simp only [Act.put, List.setIfInBounds_toArray, List.set_cons_zero, List.set_cons_succ, i64_w, i32_w]
   rfl
  refine last_ (i := 5) (N := some 28) #[true, true, true, true, true, true, false] rfl rfl (one_of HT_.out (by kernel_rfl)) (by decide) (fun K hK => ?_)
  refine Kd.R_append_step k43 (w0 := w) w.heap.size (by rfl) (.tmp 23) (.tmp 27) 22 43 (.agg #[(.string ⟨#[]⟩), (.int .i64 0), (.int .i64 0), (.int .i64 0), (.int .i64 0), (.int .i64 0), (.int .i64 0), (.int .i64 0), (.string ⟨#[]⟩), (.string ⟨#[]⟩), (.int .i64 0)]) 112 rfl Try.underlying22 info43 rfl (by decide) (by omega) v l y [.string y.f0, .int .i64 y.f1, .int .i64 y.f2, .int .i64 y.f3.f0, .int .i64 y.f3.f1, .int .i64 y.f3.f2, .int .i64 y.f3.f3, .int .i64 y.f3.f4, .string y.f4, .string y.f5, .int .i64 y.f6] (fun k => w1.heap.size ≤ k) (fun _ => False) rfl rfl (k43_mkM _ _ _ y) (fun _ h => h.elim) (fun k hk => Nat.le_trans HBX.out.2.1.1 hk) HR.out HBX.out.1 (below_size HBX.out.1) (by have := HL.out; omega) ?_
  intro v2 w2 ho hb1 hg hat
  obtain ⟨A2, c2, e2⟩ := Kd.R_slice ho
  subst e2
  have HE := Aside0.mk (HBX.out.put HG.out.1 HG.out.2 HV.out HR.out.1 ho hb1 hg)
  have hc2 : w2.cell? ⟨g, 0, none⟩ = some v := (blk_cell (HBX.out.kept HG.out.2 HV.out HR.out.1 hg) 0).trans rfl
  have hf2 := blk_frozen (HBX.out.kept HG.out.2 HV.out HR.out.1 hg) 0
  clear ho hb1 hg hat
  refine hK.out _ _ ?_
  clear hK K
  refine norm_ (a' := ?_) ?_ ?_
  rotate_left
  ·show Act.put _ (some 28) _ = _
   simp only [Act.put, List.setIfInBounds_toArray, List.set_cons_zero, List.set_cons_succ, i64_w, i32_w]
   rfl
  refine last_ (i := 6) (N := none) #[true, true, true, true, true, true, true] rfl rfl (one_of HT_.out (by kernel_rfl)) (by decide) (fun K hK => ?_)
  refine skip_ (w1 := w2.setCell ⟨g, 0, none⟩ (.slice A2 (l ++ [y]).length c2)) (by rfl) rfl (by first | (go_simp; done) | (go_simp; rfl)) ?_
  refine hK.out _ _ ?_
  clear hK K
  refine done_ (done_of HT_.out (by kernel_rfl)) ?_
  try go_wp2
  go_end0
  exact ⟨rfl, by rw [H0.out]; exact HE.out⟩
set_option maxHeartbeats 4000000 in
set_option maxRecDepth 100000 in
theorem apply1_x (x : S43) (gx ox : Nat) (w0 w w1 W : World) (g gc m : Nat) (l : List S43) (L : List S28) (h : Box1 k43 43 22 w w1 W g l) (hg : w.heap.size ≤ g) (hg1 : g < w1.heap.size) (hl : l.length < 1000000000000) (hm : MapC w0 W m L) (hcc : W.cell? ⟨gc, 0, none⟩ = some (.map (some m))) (hx : ∀ j u, (entA x)[j]? = some u → W.cell? ⟨gx, ox + j, none⟩ = some u) (hsz : x.f0.size ≤ maxLen) :
  Calls Try.prog 29 #[.pointer (some ⟨gx, ox, none⟩), .pointer none, .pointer (some ⟨gc, 0, none⟩), .pointer (some ⟨g, 0, none⟩)] W fun e W' => e = .returned (.tuple #[]) ∧ Box1 k43 43 22 w w1 W' g (l ++ applyE L (some x, none)) := by
 have HG := Aside0.mk (And.intro hg hg1)
 have HL := Aside0.mk hl
 have HX := Aside0.mk h
 have HM := Aside0.mk hm
 have hu := Try.underlying43
 have HB := Aside0.mk (Below.refl W.heap.size W)
 have HSZ := Aside0.mk hsz
 have hx0 : W.cell? ⟨gx, ox, none⟩ = some (.string x.f0) := hx 0 _ rfl
 clear h hg hg1 hl hm hsz
 cases hch : changedB L x.f0 with
 | false =>
  have H0 := Aside0.mk (show applyE L (some x, none) = [x] from by show (if changedB L x.f0 = true then _ else _) = _; rw [hch]; rfl)
  obtain ⟨v, hv, hr⟩ := HX.out.2.2
  have HR9 := Aside0.mk hr
  have HV9 := Aside0.mk hv
  have hcg : W.cell? ⟨g, 0, none⟩ = some v := (blk_cell hv 0).trans rfl
  clear hv hr
  have hcx := hx
  have hlk := HM.out.look x.f0 HSZ.out
  rw [hch] at hlk
  have HCH := Aside0.mk hch
  clear hch
  go_enter Try.func29, Try.ntmps29
  go_wp2
  refine start_ (n := 7) (S := fun w' => w'.cell? ⟨g, 0, none⟩ = some v ∧ ∀ j u, (entA x)[j]? = some u → w'.cell? ⟨gx, ox + j, none⟩ = some u) (ds := [5, 6]) #[false, false, false, false, false, false, false] (by kernel_rfl) rfl rfl ⟨hcg, hcx⟩ (fun hHeld => ?_)
  refine with_tabW arch_Apply1_h.tab7 arch_Apply1_h.bits7 (fun HT_ HW_ => ?_)
  obtain ⟨W5, hW5⟩ : ∃ W5, W.drew = W5 := ⟨_, rfl⟩
  rw [hW5] at hHeld ⊢
  have HBX := Aside0.mk (hW5 ▸ HX.out.drew)
  have HR := Aside0.mk (hW5 ▸ Kd.R_drew HR9.out)
  have HV := Aside0.mk (show W5.heap[g]? = some (.cells #[v] 22 (0, 0)) from hW5 ▸ HV9.out)
  clear HX HR9 HV9 hW5 hcg hcx
  refine pure_ (i := 1) (N := some 24) (v := ?_) (a' := ?_) #[false, true, false, false, false, false, false] rfl rfl (any_of HT_.out (by kernel_rfl)) (fun _ _ _ h => h) (Or.inl ⟨by rfl, ?_⟩) ?_ ?_
  rotate_left
  ·intro w'
   go_simp
   with_reducible rfl
  rotate_left
  ·simp only [Act.put, List.setIfInBounds_toArray, List.set_cons_zero, List.set_cons_succ, i64_w, i32_w]
   rfl
  refine pure_ (i := 2) (N := some 25) (v := ?_) (a' := ?_) #[false, true, true, false, false, false, false] rfl rfl (any_of HT_.out (by kernel_rfl)) (fun _ _ _ h => h) (Or.inl ⟨by rfl, ?_⟩) ?_ ?_
  rotate_left
  ·intro w'
   go_simp
   with_reducible rfl
  rotate_left
  ·simp only [Act.put, List.setIfInBounds_toArray, List.set_cons_zero, List.set_cons_succ, i64_w, i32_w]
   rfl
  refine take_ (i := 0) (N := some 23) (v := ?_) (a' := ?_) #[true, true, true, false, false, false, false] rfl rfl (take_ofW HT_.out HW_.out (by kernel_rfl)) (fun _ _ _ h => h) (Or.inl ⟨by rfl, ?_⟩) hHeld ?_ ?_
  rotate_left
  ·rintro w' ⟨s0_, s1_⟩
   go_simp
   with_reducible rfl
  rotate_left
  ·simp only [Act.put, List.setIfInBounds_toArray, List.set_cons_zero, List.set_cons_succ, i64_w, i32_w]
   rfl
  refine take_ (i := 3) (N := some 26) (v := ?_) (a' := ?_) #[true, true, true, true, false, false, false] rfl rfl (take_ofW HT_.out HW_.out (by kernel_rfl)) (fun _ _ _ h => h) (Or.inl ⟨by rfl, ?_⟩) hHeld ?_ ?_
  rotate_left
  ·rintro w' ⟨s0_, s1_⟩
   have sz_0 : w'.cell? ⟨gx, ox, none⟩ = some (.string x.f0) := s1_ 0 _ rfl
   have sz_1 := s1_ 1 _ rfl
   have sz_2 := s1_ 2 _ rfl
   have sz_3 := s1_ 3 _ rfl
   have sz_4 := s1_ 4 _ rfl
   have sz_5 := s1_ 5 _ rfl
   have sz_6 := s1_ 6 _ rfl
   have sz_7 := s1_ 7 _ rfl
   have sz_8 := s1_ 8 _ rfl
   have sz_9 := s1_ 9 _ rfl
   have sz_10 := s1_ 10 _ rfl
   clear s1_
   go_simp
   with_reducible rfl
  rotate_left
  ·simp only [Act.put, List.setIfInBounds_toArray, List.set_cons_zero, List.set_cons_succ, i64_w, i32_w]
   rfl
  refine one_ (i := 4) (N := some 27) #[true, true, true, true, true, false, false] rfl rfl (one_of HT_.out (by kernel_rfl)) (by decide) (fun K hK => ?_)
  refine value_ (w1 := W5.alloc (.cells #[.string x.f0, .int .i64 x.f1, .int .i64 x.f2, .int .i64 x.f3.f0, .int .i64 x.f3.f1, .int .i64 x.f3.f2, .int .i64 x.f3.f3, .int .i64 x.f3.f4, .string x.f4, .string x.f5, .int .i64 x.f6] 43)) (v := .slice (some ⟨W5.heap.size, 0, none⟩) 1 1) (by rfl) rfl (by first | (go_simp; done) | (go_simp; rfl)) ?_
  refine hK.out _ _ ⟨((below_alloc (Below.refl _ _) _).cell (World.block_lt_of_cell? _ _ hHeld.1)).trans hHeld.1, fun j u hj => ((below_alloc (Below.refl _ _) _).cell (World.block_lt_of_cell? _ _ (hHeld.2 j u hj))).trans (hHeld.2 j u hj)⟩ (fun hHeld => ?_)
  clear hK K
  refine norm_ (a' := ?_) ?_ ?_
  rotate_left
  ·show Act.put _ (some 27) _ = _
   simp only [Act.put, List.setIfInBounds_toArray, List.set_cons_zero, List.set_cons_succ, i64_w, i32_w]
   rfl
  refine last_ (i := 5) (N := some 28) #[true, true, true, true, true, true, false] rfl rfl (one_of HT_.out (by kernel_rfl)) (by decide) (fun K hK => ?_)
  refine Kd.R_append_step k43 (w0 := w) w.heap.size (by rfl) (.tmp 23) (.tmp 27) 22 43 (.agg #[(.string ⟨#[]⟩), (.int .i64 0), (.int .i64 0), (.int .i64 0), (.int .i64 0), (.int .i64 0), (.int .i64 0), (.int .i64 0), (.string ⟨#[]⟩), (.string ⟨#[]⟩), (.int .i64 0)]) 112 rfl Try.underlying22 info43 rfl (by decide) (by omega) v l x [.string x.f0, .int .i64 x.f1, .int .i64 x.f2, .int .i64 x.f3.f0, .int .i64 x.f3.f1, .int .i64 x.f3.f2, .int .i64 x.f3.f3, .int .i64 x.f3.f4, .string x.f4, .string x.f5, .int .i64 x.f6] (fun k => w1.heap.size ≤ k) (fun _ => False) rfl rfl (k43_mkM _ _ _ x) (fun _ h => h.elim) (fun k hk => Nat.le_trans HBX.out.2.1.1 hk) HR.out HBX.out.1 (below_size HBX.out.1) (by have := HL.out; omega) ?_
  intro v2 w2 ho hb1 hg hat
  obtain ⟨A2, c2, e2⟩ := Kd.R_slice ho
  subst e2
  have HE := Aside0.mk (HBX.out.put HG.out.1 HG.out.2 HV.out HR.out.1 ho hb1 hg)
  have hc2 : w2.cell? ⟨g, 0, none⟩ = some v := (blk_cell (HBX.out.kept HG.out.2 HV.out HR.out.1 hg) 0).trans rfl
  have hf2 := blk_frozen (HBX.out.kept HG.out.2 HV.out HR.out.1 hg) 0
  clear ho hb1 hg hat
  refine hK.out _ _ ?_
  clear hK K
  refine norm_ (a' := ?_) ?_ ?_
  rotate_left
  ·show Act.put _ (some 28) _ = _
   simp only [Act.put, List.setIfInBounds_toArray, List.set_cons_zero, List.set_cons_succ, i64_w, i32_w]
   rfl
  refine last_ (i := 6) (N := none) #[true, true, true, true, true, true, true] rfl rfl (one_of HT_.out (by kernel_rfl)) (by decide) (fun K hK => ?_)
  refine skip_ (w1 := w2.setCell ⟨g, 0, none⟩ (.slice A2 (l ++ [x]).length c2)) (by rfl) rfl (by first | (go_simp; done) | (go_simp; rfl)) ?_
  refine hK.out _ _ ?_
  clear hK K
  refine done_ (done_of HT_.out (by kernel_rfl)) ?_
  try go_wp2
  go_end0
  exact ⟨rfl, by rw [H0.out]; exact HE.out⟩
 | true =>
  have H0 := Aside0.mk (show applyE L (some x, none) = [] from by show (if changedB L x.f0 = true then _ else _) = _; rw [hch]; rfl)
  have hlk := HM.out.look x.f0 HSZ.out
  rw [hch] at hlk
  have HCH := Aside0.mk hch
  clear hch
  go_enter Try.func29, Try.ntmps29
  go_wp2
  go_end0
  exact ⟨rfl, by rw [H0.out, List.append_nil]; exact HX.out⟩
set_option maxHeartbeats 4000000 in
set_option maxRecDepth 100000 in
theorem apply1_y (y : S43) (gy oy : Nat) (w0 w w1 W : World) (g gc m : Nat) (l : List S43) (L : List S28) (h : Box1 k43 43 22 w w1 W g l) (hg : w.heap.size ≤ g) (hg1 : g < w1.heap.size) (hl : l.length < 1000000000000) (hm : MapC w0 W m L) (hcc : W.cell? ⟨gc, 0, none⟩ = some (.map (some m))) (hy : ∀ j u, (entA y)[j]? = some u → W.cell? ⟨gy, oy + j, none⟩ = some u) (hsz : y.f0.size ≤ maxLen) :
  Calls Try.prog 29 #[.pointer none, .pointer (some ⟨gy, oy, none⟩), .pointer (some ⟨gc, 0, none⟩), .pointer (some ⟨g, 0, none⟩)] W fun e W' => e = .returned (.tuple #[]) ∧ Box1 k43 43 22 w w1 W' g (l ++ applyE L (none, some y)) := by
 have HG := Aside0.mk (And.intro hg hg1)
 have HL := Aside0.mk hl
 have HX := Aside0.mk h
 have HM := Aside0.mk hm
 have hu := Try.underlying43
 have HB := Aside0.mk (Below.refl W.heap.size W)
 have HSZ := Aside0.mk hsz
 have hy0 : W.cell? ⟨gy, oy, none⟩ = some (.string y.f0) := hy 0 _ rfl
 clear h hg hg1 hl hm hsz
 cases hch : changedB L y.f0 with
 | false =>
  have H0 := Aside0.mk (show applyE L (none, some y) = [] from by show (if changedB L y.f0 = true then _ else _) = _; rw [hch]; rfl)
  have hlk := HM.out.look y.f0 HSZ.out
  rw [hch] at hlk
  have HCH := Aside0.mk hch
  clear hch
  go_enter Try.func29, Try.ntmps29
  go_wp2
  go_end0
  exact ⟨rfl, by rw [H0.out, List.append_nil]; exact HX.out⟩
 | true =>
  have H0 := Aside0.mk (show applyE L (none, some y) = [y] from by show (if changedB L y.f0 = true then _ else _) = _; rw [hch]; rfl)
  obtain ⟨v, hv, hr⟩ := HX.out.2.2
  have HR9 := Aside0.mk hr
  have HV9 := Aside0.mk hv
  have hcg : W.cell? ⟨g, 0, none⟩ = some v := (blk_cell hv 0).trans rfl
  clear hv hr
  have hcx := hy
  have hlk := HM.out.look y.f0 HSZ.out
  rw [hch] at hlk
  have HCH := Aside0.mk hch
  clear hch
  go_enter Try.func29, Try.ntmps29
  go_wp2
  refine start_ (n := 7) (S := fun w' => w'.cell? ⟨g, 0, none⟩ = some v ∧ ∀ j u, (entA y)[j]? = some u → w'.cell? ⟨gy, oy + j, none⟩ = some u) (ds := [5, 6]) #[false, false, false, false, false, false, false] (by kernel_rfl) rfl rfl ⟨hcg, hcx⟩ (fun hHeld => ?_)
  refine with_tabW arch_Apply1_h.tab7 arch_Apply1_h.bits7 (fun HT_ HW_ => ?_)
  obtain ⟨W5, hW5⟩ : ∃ W5, W.drew = W5 := ⟨_, rfl⟩
  rw [hW5] at hHeld ⊢
  have HBX := Aside0.mk (hW5 ▸ HX.out.drew)
  have HR := Aside0.mk (hW5 ▸ Kd.R_drew HR9.out)
  have HV := Aside0.mk (show W5.heap[g]? = some (.cells #[v] 22 (0, 0)) from hW5 ▸ HV9.out)
  clear HX HR9 HV9 hW5 hcg hcx
  refine pure_ (i := 1) (N := some 24) (v := ?_) (a' := ?_) #[false, true, false, false, false, false, false] rfl rfl (any_of HT_.out (by kernel_rfl)) (fun _ _ _ h => h) (Or.inl ⟨by rfl, ?_⟩) ?_ ?_
  rotate_left
  ·intro w'
   go_simp
   with_reducible rfl
  rotate_left
  ·simp only [Act.put, List.setIfInBounds_toArray, List.set_cons_zero, List.set_cons_succ, i64_w, i32_w]
   rfl
  refine pure_ (i := 2) (N := some 25) (v := ?_) (a' := ?_) #[false, true, true, false, false, false, false] rfl rfl (any_of HT_.out (by kernel_rfl)) (fun _ _ _ h => h) (Or.inl ⟨by rfl, ?_⟩) ?_ ?_
  rotate_left
  ·intro w'
   go_simp
   with_reducible rfl
  rotate_left
  ·simp only [Act.put, List.setIfInBounds_toArray, List.set_cons_zero, List.set_cons_succ, i64_w, i32_w]
   rfl
  refine take_ (i := 0) (N := some 23) (v := ?_) (a' := ?_) #[true, true, true, false, false, false, false] rfl rfl (take_ofW HT_.out HW_.out (by kernel_rfl)) (fun _ _ _ h => h) (Or.inl ⟨by rfl, ?_⟩) hHeld ?_ ?_
  rotate_left
  ·rintro w' ⟨s0_, s1_⟩
   go_simp
   with_reducible rfl
  rotate_left
  ·simp only [Act.put, List.setIfInBounds_toArray, List.set_cons_zero, List.set_cons_succ, i64_w, i32_w]
   rfl
  refine take_ (i := 3) (N := some 26) (v := ?_) (a' := ?_) #[true, true, true, true, false, false, false] rfl rfl (take_ofW HT_.out HW_.out (by kernel_rfl)) (fun _ _ _ h => h) (Or.inl ⟨by rfl, ?_⟩) hHeld ?_ ?_
  rotate_left
  ·rintro w' ⟨s0_, s1_⟩
   have sz_0 : w'.cell? ⟨gy, oy, none⟩ = some (.string y.f0) := s1_ 0 _ rfl
   have sz_1 := s1_ 1 _ rfl
   have sz_2 := s1_ 2 _ rfl
   have sz_3 := s1_ 3 _ rfl
   have sz_4 := s1_ 4 _ rfl
   have sz_5 := s1_ 5 _ rfl
   have sz_6 := s1_ 6 _ rfl
   have sz_7 := s1_ 7 _ rfl
   have sz_8 := s1_ 8 _ rfl
   have sz_9 := s1_ 9 _ rfl
   have sz_10 := s1_ 10 _ rfl
   clear s1_
   go_simp
   with_reducible rfl
  rotate_left
  ·simp only [Act.put, List.setIfInBounds_toArray, List.set_cons_zero, List.set_cons_succ, i64_w, i32_w]
   rfl
  refine one_ (i := 4) (N := some 27) #[true, true, true, true, true, false, false] rfl rfl (one_of HT_.out (by kernel_rfl)) (by decide) (fun K hK => ?_)
  refine value_ (w1 := W5.alloc (.cells #[.string y.f0, .int .i64 y.f1, .int .i64 y.f2, .int .i64 y.f3.f0, .int .i64 y.f3.f1, .int .i64 y.f3.f2, .int .i64 y.f3.f3, .int .i64 y.f3.f4, .string y.f4, .string y.f5, .int .i64 y.f6] 43)) (v := .slice (some ⟨W5.heap.size, 0, none⟩) 1 1) (by rfl) rfl (by first | (go_simp; done) | (go_simp; rfl)) ?_
  refine hK.out _ _ ⟨((below_alloc (Below.refl _ _) _).cell (World.block_lt_of_cell? _ _ hHeld.1)).trans hHeld.1, fun j u hj => ((below_alloc (Below.refl _ _) _).cell (World.block_lt_of_cell? _ _ (hHeld.2 j u hj))).trans (hHeld.2 j u hj)⟩ (fun hHeld => ?_)
  clear hK K
  refine norm_ (a' := ?_) ?_ ?_
  rotate_left
  ·show Act.put _ (some 27) _ = _
   simp only [Act.put, List.setIfInBounds_toArray, List.set_cons_zero, List.set_cons_succ, i64_w, i32_w]
   rfl
  refine last_ (i := 5) (N := some 28) #[true, true, true, true, true, true, false] rfl rfl (one_of HT_.out (by kernel_rfl)) (by decide) (fun K hK => ?_)
  refine Kd.R_append_step k43 (w0 := w) w.heap.size (by rfl) (.tmp 23) (.tmp 27) 22 43 (.agg #[(.string ⟨#[]⟩), (.int .i64 0), (.int .i64 0), (.int .i64 0), (.int .i64 0), (.int .i64 0), (.int .i64 0), (.int .i64 0), (.string ⟨#[]⟩), (.string ⟨#[]⟩), (.int .i64 0)]) 112 rfl Try.underlying22 info43 rfl (by decide) (by omega) v l y [.string y.f0, .int .i64 y.f1, .int .i64 y.f2, .int .i64 y.f3.f0, .int .i64 y.f3.f1, .int .i64 y.f3.f2, .int .i64 y.f3.f3, .int .i64 y.f3.f4, .string y.f4, .string y.f5, .int .i64 y.f6] (fun k => w1.heap.size ≤ k) (fun _ => False) rfl rfl (k43_mkM _ _ _ y) (fun _ h => h.elim) (fun k hk => Nat.le_trans HBX.out.2.1.1 hk) HR.out HBX.out.1 (below_size HBX.out.1) (by have := HL.out; omega) ?_
  intro v2 w2 ho hb1 hg hat
  obtain ⟨A2, c2, e2⟩ := Kd.R_slice ho
  subst e2
  have HE := Aside0.mk (HBX.out.put HG.out.1 HG.out.2 HV.out HR.out.1 ho hb1 hg)
  have hc2 : w2.cell? ⟨g, 0, none⟩ = some v := (blk_cell (HBX.out.kept HG.out.2 HV.out HR.out.1 hg) 0).trans rfl
  have hf2 := blk_frozen (HBX.out.kept HG.out.2 HV.out HR.out.1 hg) 0
  clear ho hb1 hg hat
  refine hK.out _ _ ?_
  clear hK K
  refine norm_ (a' := ?_) ?_ ?_
  rotate_left
  ·show Act.put _ (some 28) _ = _
   simp only [Act.put, List.setIfInBounds_toArray, List.set_cons_zero, List.set_cons_succ, i64_w, i32_w]
   rfl
  refine last_ (i := 6) (N := none) #[true, true, true, true, true, true, true] rfl rfl (one_of HT_.out (by kernel_rfl)) (by decide) (fun K hK => ?_)
  refine skip_ (w1 := w2.setCell ⟨g, 0, none⟩ (.slice A2 (l ++ [y]).length c2)) (by rfl) rfl (by first | (go_simp; done) | (go_simp; rfl)) ?_
  refine hK.out _ _ ?_
  clear hK K
  refine done_ (done_of HT_.out (by kernel_rfl)) ?_
  try go_wp2
  go_end0
  exact ⟨rfl, by rw [H0.out]; exact HE.out⟩
theorem apply1_call (x y : Option S43) (hne : x ≠ none ∨ y ≠ none) (p q : Option Addr) (w0 w w1 W : World) (g gc m : Nat) (l : List S43) (L : List S28) (h : Box1 k43 43 22 w w1 W g l) (hg : w.heap.size ≤ g) (hg1 : g < w1.heap.size) (hl : l.length < 1000000000000) (hm : MapC w0 W m L) (hcc : W.cell? ⟨gc, 0, none⟩ = some (.map (some m))) (hx : EP W p x) (hy : EP W q y) (hsz : (pathE (x, y)).size ≤ maxLen) :
  Calls Try.prog 29 #[.pointer p, .pointer q, .pointer (some ⟨gc, 0, none⟩), .pointer (some ⟨g, 0, none⟩)] W fun e W' => e = .returned (.tuple #[]) ∧ Box1 k43 43 22 w w1 W' g (l ++ applyE L (x, y)) := by
 cases x with
 | some x =>
  obtain ⟨gx, ox, rfl, hx⟩ := hx
  cases y with
  | some y =>
   obtain ⟨gy, oy, rfl, hy⟩ := hy
   exact apply1_two x y gx ox gy oy w0 w w1 W g gc m l L h hg hg1 hl hm hcc hx hy hsz
  | none =>
   cases hy
   exact apply1_x x gx ox w0 w w1 W g gc m l L h hg hg1 hl hm hcc hx hsz
 | none =>
  cases y with
  | none => simp at hne
  | some y =>
   cases hx
   obtain ⟨gy, oy, rfl, hy⟩ := hy
   exact apply1_y y gy oy w0 w w1 W g gc m l L h hg hg1 hl hm hcc hy hsz
end Go.Proofs.Ytodbmagneaiocaa.PA
namespace Go.Proofs.Ytodbmagneaiocaa.PA
open Go.RowKit Go.Proofs.YtodbmagneaiocaaW.PrintWords Go.Proofs.YtodbmagneaiocaaW.PrintLast Go.Proofs.YtodbmagneaiocaaW.PrintMore
attribute [local go_sem] max2_int min2_int max_two min_two max_three min_three max_four min_four
set_option linter.unusedVariables false
set_option linter.unusedSimpArgs false
theorem apply_both (w0 w w2 w3 : World) (gc m : Nat) (L : List S28) (hm : MapC w0 w m L) (hcc : w.cell? ⟨gc, 0, none⟩ = some (.map (some m))) (a b : List S43) (Aa Ab : Option Addr) (ca cb : Nat) (HB2 : Below (w.alloc (.cells #[.slice none 0 0] 22)).heap.size (w.alloc (.cells #[.slice none 0 0] 22)) w2) (HB3 : Below w2.heap.size w2 w3)
  (HOa : Kd.R k43 43 w2 (w.alloc (.cells #[.slice none 0 0] 22)).heap.size (fun _ => True) (.slice Aa a.length ca) a) (HOb : Kd.R k43 43 w3 w2.heap.size (fun _ => True) (.slice Ab b.length cb) b) (hla : a.length < 1000000000) (hlb : b.length < 1000000000) (hza : ∀ x ∈ a, x.f0.size ≤ 1048576) (hzb : ∀ x ∈ b, x.f0.size ≤ 1048576)
  (eg : ∀ args w, (callFunc 29 args).run Try.prog w = .ok (.enter 29 args) w) :
  Calls Try.prog 21 #[.slice Aa a.length ca, .slice Ab b.length cb, .func (.func 23) #[] #[], .func (.func 29) #[] #[.pointer (some ⟨gc, 0, none⟩), .pointer (some ⟨w.heap.size, 0, none⟩)]] w3 fun e w' => e = .returned (.tuple #[]) ∧ Box1 k43 43 22 w w3 w' w.heap.size ((bothL a b).flatMap (applyE L)) := by
 have hs0 : (w.alloc (.cells #[.slice none 0 0] 22)).heap.size = w.heap.size + 1 := World.size_alloc _ _
 have hs2 := HB2.size
 have hs3 := HB3.size
 rw [hs0] at hs2
 have hb0 : Below w.heap.size w w3 := below_step (below_step (below_alloc (Below.refl _ _) _) HB2) HB3
 refine both_call a b Aa Ab ca cb w3 29 _ eg (fun W E => Box1 k43 43 22 w w3 W w.heap.size (E.flatMap (applyE L))) ?_ ?_ (w.heap.size + 1) (fun k => w.heap.size + 1 ≤ k ∧ k < w3.heap.size) (fun k => w.heap.size + 1 ≤ k ∧ k < w3.heap.size) ?_ ?_ hla hlb hza hzb ?_
 ·exact ⟨hb0, KeepBut.refl _ _ _, .slice none 0 0, blk_below (blk_below (blk_new w _) HB2) HB3, Kd.R_nil _ _ _ _ _⟩
 ·exact fun W W2 E h hb => h.step (by omega) hb
 ·exact fun W E h => rowKept (Kd.R_below (hs0 ▸ HOa) HB3) (Nat.le_refl _) h.2.1 (Nat.lt_succ_self _)
 ·exact fun W E h => rowKept HOb (by omega) h.2.1 (Nat.lt_succ_self _)
 ·intro W E x y p q h hne hl hsz hx hy
  have hfl := flat_len (applyE L) (applyE_len L) E
  rw [List.flatMap_append, List.flatMap_singleton]
  exact apply1_call x y hne p q w0 w w3 W w.heap.size gc m _ L h (Nat.le_refl _) (by omega) (by omega) (hm.heap (h.1.block m hm.lt)) ((h.1.cell (World.block_lt_of_cell? w _ hcc)).trans hcc) hx hy (Nat.le_trans hsz (by decide))
set_option maxHeartbeats 4000000 in
set_option maxRecDepth 100000 in
theorem apply_call (A0 : Option Addr) (c0 : Nat) (l0 : List S43) (A1 : Option Addr) (c1 : Nat) (l1 : List S43) (A2 : Option Addr) (c2 : Nat) (l2 : List S28) (w : World) (hr0 : Kd.C k43 w A0 l0.length l0) (hc0 : l0.length ≤ c0) (hr1 : Kd.C k43 w A1 l1.length l1) (hc1 : l1.length ≤ c1) (hr2 : Kd.C k28 w A2 l2.length l2) (h0 : okL43 l0) (h1 : okL43 l1) (h2 : l2.length < 1000000000 ∧ ∀ y ∈ l2, y.f0.size ≤ 1048576) :
  Calls Try.prog 17 #[.slice A0 l0.length c0, .slice A1 l1.length c1, .slice A2 l2.length c2] w fun e w' => ∃ v0_ : Value, e = .returned v0_ ∧ Kd.R k43 43 w' w.heap.size (fun _ => True) v0_ (applyL l0 l1 l2) ∧ Below w.heap.size w w' := by
 have HF0' : Aside0 (∀ W, Below w.heap.size w W → Calls Try.prog 22 #[.slice A0 l0.length c0] W fun e w' => ∃ v0_ : Value, e = .returned v0_ ∧ Kd.R k43 43 w' W.heap.size (fun _ => True) v0_ (firstL (sortS l0)) ∧ Below W.heap.size W w') := ⟨fun W hb => first_call A0 c0 l0 W (Kd.C_below hr0 hb) hc0 h0.1 h0.2⟩
 have HF1 : Aside0 (∀ W, Below w.heap.size w W → Calls Try.prog 22 #[.slice A1 l1.length c1] W fun e w' => ∃ v0_ : Value, e = .returned v0_ ∧ Kd.R k43 43 w' W.heap.size (fun _ => True) v0_ (firstL (sortS l1)) ∧ Below W.heap.size W w') := ⟨fun W hb => first_call A1 c1 l1 W (Kd.C_below hr1 hb) hc1 h1.1 h1.2⟩
 obtain ⟨ha1, ha2⟩ := first_ok l0 h0
 obtain ⟨hb1, hb2⟩ := first_ok l1 h1
 have HFS := Aside0.mk (show applyL l0 l1 l2 = (bothL (firstL (sortS l0)) (firstL (sortS l1))).flatMap (applyE l2) from rfl)
 obtain ⟨a, ea⟩ : ∃ a, firstL (sortS l0) = a := ⟨_, rfl⟩
 obtain ⟨b, eb⟩ : ∃ b, firstL (sortS l1) = b := ⟨_, rfl⟩
 rw [ea] at HF0' ha1 ha2 HFS
 rw [eb] at HF1 hb1 hb2 HFS
 have HLa := Aside0.mk ha1
 have HZa := Aside0.mk ha2
 have HLb := Aside0.mk hb1
 have HZb := Aside0.mk hb2
 have HR2 := Aside0.mk hr2
 have H2 := Aside0.mk h2
 clear hr0 hc0 hr1 hc1 h0 h1 ha1 ha2 hb1 hb2 ea eb hr2 h2
 have hu := Try.underlying28
 have eg : ∀ args w, (callFunc 29 args).run Try.prog w = .ok (.enter 29 args) w := enters_ Try.func29 (by kernel_rfl) rfl
 have hmk : ∀ W : World, (Instr.makeMap 54 none).run Try.prog W = .ok (.map (some W.heap.size)) (W.alloc (.map #[] 0)) := fun W => run_makeMap 54 W
 have hs1 : (w.alloc (.map #[] 0)).heap.size = w.heap.size + 1 := World.size_alloc _ _
 have HM0 : Aside0 (MapC w ((w.alloc (.map #[] 0)).alloc (.cells #[.map (some w.heap.size)] 54)) w.heap.size []) := ⟨(MapC.start w w (Nat.le_refl _)).step (below_alloc (Below.refl _ _) _)⟩
 have HC0 : Aside0 (((w.alloc (.map #[] 0)).alloc (.cells #[.map (some w.heap.size)] 54)).cell? ⟨w.heap.size + 1, 0, none⟩ = some (.map (some w.heap.size))) := ⟨by
  have := (blk_cell (blk_new (w.alloc (.map #[] 0)) (.cells #[.map (some w.heap.size)] 54 (0, 0))) 0)
  rw [hs1] at this
  exact this.trans rfl⟩
 have HBB := Aside0.mk (below_alloc (below_alloc (Below.refl w.heap.size w) (.map #[] 0)) (.cells #[.map (some w.heap.size)] 54))
 clear hs1
 go_enter Try.func17, Try.ntmps17
 go_wp2
 go_loopw [14] (fun v14 wr => ∃ i : Nat, v14 = .int .i64 (i : Int) ∧ Aside0 (i ≤ l2.length) ∧ Aside0 (Below w.heap.size w wr) ∧ Aside0 (MapC w wr w.heap.size (l2.take i)) ∧ Aside0 (wr.cell? ⟨w.heap.size + 1, 0, none⟩ = some (.map (some w.heap.size)))) (fun v14 _ => l2.length - (intOf v14).toNat)
 case atStart => exact ⟨0, rfl, ⟨Nat.zero_le _⟩, HBB, HM0, HC0⟩
 case round =>
  clear HBB HM0 HC0
  obtain ⟨i, rfl, HI, HBB, HM, HCC⟩ := hrel
  by_cases hi : i < l2.length
  ·have hd : decide ((i : Int) < (l2.length : Int)) = true := decide_eq_true (by omega)
   have hd2 : decide (i < l2.length) = true := decide_eq_true hi
   obtain ⟨y, hy⟩ : ∃ y, rd_T28 l2 (i : Int) = y := ⟨_, rfl⟩
   have hye : l2[i] = y := by rw [← hy]; simp [rd_T28, rdOf, hi]
   obtain ⟨ad, ea, hx_0, hx_1⟩ := at_T28 HR2.out (i : Int) (by omega) (by omega)
   cases ea
   rw [Int.toNat_natCast] at hx_0 hx_1
   rw [hy] at hx_0 hx_1
   replace hx_0 := (HBB.out.cell (World.block_lt_of_cell? w _ hx_0)).trans hx_0
   replace hx_1 := (HBB.out.cell (World.block_lt_of_cell? w _ hx_1)).trans hx_1
   have p1 : (0 ≤ (i : Int)) = True := eq_true (by omega)
   have p2 : ((i : Int) < (l2.length : Int)) = True := eq_true (by omega)
   have hcc := (below_alloc (Below.refl wr.heap.size wr) (.cells #[.string y.f0, .int .i64 y.f1] 28)).cell (World.block_lt_of_cell? wr _ HCC.out) |>.trans HCC.out
   obtain ⟨wq, hput, hmq, hbq, hgq⟩ := (HM.out.step (below_alloc (Below.refl wr.heap.size wr) (.cells #[.string y.f0, .int .i64 y.f1] 28))).put (below_alloc HBB.out _) y (Nat.le_trans (H2.out.2 y (hye ▸ List.getElem_mem hi)) (by decide)) (by have := H2.out.1; rw [List.length_take]; omega)
   have HMq := Aside0.mk (show MapC w wq w.heap.size (l2.take (i + 1)) by rw [List.take_succ_eq_append_getElem hi, hye]; exact hmq)
   have HBq := Aside0.mk hbq
   have HCq : Aside0 (wq.cell? ⟨w.heap.size + 1, 0, none⟩ = some (.map (some w.heap.size))) := ⟨by
    have hlt := World.block_lt_of_cell? _ _ hcc
    have := hgq.block (w.heap.size + 1) hlt (by simp)
    rw [← hcc]
    unfold World.cell?
    rw [this]⟩
   have HW1 := Aside0.mk (wrapE i (by have := H2.out.1; omega))
   have Hi := Aside0.mk hi
   clear hmq hbq hgq hye hy hi
   go_wp2
   go_roundw
   case rel => exact ⟨i + 1, by rw [HW1.out], ⟨by have := Hi.out; omega⟩, HBq, HMq, HCq⟩
   case measure =>
    rw [HW1.out]
    show l2.length - ((i + 1 : Nat) : Int).toNat < l2.length - (i : Int).toNat
    rw [Int.toNat_natCast, Int.toNat_natCast]
    have := Hi.out
    omega
  ·have hd : decide ((i : Int) < (l2.length : Int)) = false := decide_eq_false (by omega)
   have hd2 : decide (i < l2.length) = false := decide_eq_false hi
   have HM2 : Aside0 (MapC w wr w.heap.size l2) := ⟨by have h := HM.out; rwa [show i = l2.length from by have := HI.out; omega, List.take_length] at h⟩
   clear HM hi
   have HM := HM2
   clear HM2
   have HB0 := Aside0.mk (below_alloc HBB.out (.cells #[.slice none 0 0] 22))
   have HF0 := Aside0.mk (HF0'.out _ HB0.out)
   go_wp2_with (first | (go_at_call 21; (with_reducible refine (apply_both w wr w2 w3 (w.heap.size + 1) w.heap.size l2 HM.out HCC.out a b Aa Ab ca cb HB2.out HB3.out HOa.out HOb.out HLa.out HLb.out HZa.out HZb.out eg).mono ?_); rintro e w4 ⟨rfl, hj⟩; obtain ⟨v, hv, hr⟩ := hj.2.2; have HR4 := Aside0.mk hr; have HB4 := Aside0.mk hj.1; have hc4 : w4.cell? ⟨wr.heap.size, 0, none⟩ = some v := (blk_cell hv 0).trans rfl; clear hj hv hr) | (go_at_call 22; (with_reducible refine (HF0.out).mono ?_); rintro e w2 ⟨v2, rfl, ho, hb⟩; obtain ⟨Aa, ca, ea⟩ := Kd.R_slice ho; subst ea; have HOa := Aside0.mk ho; have HB2 := Aside0.mk hb; clear ho hb HF0) | (go_at_call 22; (with_reducible refine (HF1.out w2 (below_step HB0.out HB2.out)).mono ?_); rintro e w3 ⟨v3, rfl, ho, hb⟩; obtain ⟨Ab, cb, eb⟩ := Kd.R_slice ho; subst eb; have HOb := Aside0.mk ho; have HB3 := Aside0.mk hb; clear ho hb HF1))
   go_ret
   exact ⟨v, rfl, by rw [HFS.out]; exact Kd.R_lower (Kd.R_mono HR4.out (fun _ _ => trivial)) (below_size HBB.out), below_step HBB.out HB4.out⟩
end Go.Proofs.Ytodbmagneaiocaa.PA
namespace Go.Proofs.Ytodbmagneaiocaa.PA
open Go.RowKit Go.Proofs.YtodbmagneaiocaaW.PrintWords Go.Proofs.YtodbmagneaiocaaW.PrintLast Go.Proofs.YtodbmagneaiocaaW.PrintMore
attribute [local go_sem] max2_int min2_int max_two min_two max_three min_three max_four min_four
set_option linter.unusedVariables false
set_option linter.unusedSimpArgs false
def okC43 (l : List S28) : Prop := l.length < 1000000000 ∧ ∀ y ∈ l, y.f0.size ≤ 1048576
instance (l : List S28) : Decidable (okC43 l) := inferInstanceAs (Decidable (_ ∧ _))
def arch_Apply.f (l0 l1 : List S43) (l2 : List S28) : Option (List S43) := if okL43 l0 ∧ okL43 l1 ∧ okC43 l2 then some (applyL l0 l1 l2) else none
theorem arch_Apply.calls (A0 : Option Addr) (c0 : Nat) (l0 : List S43) (A1 : Option Addr) (c1 : Nat) (l1 : List S43) (A2 : Option Addr) (c2 : Nat) (l2 : List S28) (r : List S43) (w : World) (hr0 : Kd.C k43 w A0 l0.length l0) (hc0 : l0.length ≤ c0) (hr1 : Kd.C k43 w A1 l1.length l1) (hc1 : l1.length ≤ c1) (hr2 : Kd.C k28 w A2 l2.length l2) (hc2 : l2.length ≤ c2) (h : arch_Apply.f l0 l1 l2 = some r) :
  Calls Try.prog 17 #[.slice A0 l0.length c0, .slice A1 l1.length c1, .slice A2 l2.length c2] w fun e w' => ∃ v0_ : Value, e = .returned v0_ ∧ Kd.R k43 43 w' w.heap.size (fun _ => True) v0_ r ∧ Below w.heap.size w w' := by
 unfold arch_Apply.f at h
 split at h
 ·rename_i hs
  obtain rfl := Option.some.inj h
  exact apply_call A0 c0 l0 A1 c1 l1 A2 c2 l2 w hr0 hc0 hr1 hc1 hr2 hs.1 hs.2.1 hs.2.2
 ·exact absurd h (by simp)
end Go.Proofs.Ytodbmagneaiocaa.PA
