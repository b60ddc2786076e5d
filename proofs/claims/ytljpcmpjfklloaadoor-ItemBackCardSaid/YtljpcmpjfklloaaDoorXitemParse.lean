/- item.Parse by its contract. -/
import Derived.Great.BuildSlice
import Derived.Laws.CopyOwn
import Derived.Laws.CopyRow
import Derived.Test.YtljpcmpjfklloaaDoorPAfitemdiff
import Derived.Test.YtljpcmpjfklloaaDoorPAfitemplace
import Derived.Test.YtljpcmpjfklloaaDoorPAfitemunword
import Derived.Test.YtljpcmpjfklloaaDoorPAx0
import Derived.Test.YtljpcmpjfklloaaDoorXB1
import Derived.Test.YtljpcmpjfklloaaDoorXKinds
import Derived.Test.YtljpcmpjfklloaaDoorXitemLine
import Derived.Test.YtljpcmpjfklloaaDoorXstringsSplit
namespace Go.Proofs.YtljpcmpjfklloaaDoor.PA
open Go.RowKit Go.Proofs.YtljpcmpjfklloaaDoorW.PrintWords Go.Proofs.YtljpcmpjfklloaaDoorW.PrintLast Go.Proofs.YtljpcmpjfklloaaDoorW.PrintMore
attribute [local go_sem] max2_int min2_int max_two min_two max_three min_three max_four min_four
set_option linter.unusedVariables false
set_option linter.unusedSimpArgs false
def item_Parse_h.T5 : Bool × List (List Nat × List Nat) := (true, [([], []), ([], []), ([1], [1]), ([2], [2]), ([3], [3]), ([0, 4], [0, 4]), ([], []), ([6], [6]), ([7], [7]), ([8, 5], [8]), ([5, 9], [5, 9]), ([], []), ([11, 10, 9, 0, 1, 2, 3, 4, 5, 6, 7, 8, 9, 10, 11], [10, 11])])
def item_Parse_h.B5 : List Nat := [0, 0, 2, 6, 14, 31, 0, 64, 192, 511, 1023, 0, 4095]
theorem item_Parse_h.tab5 : rtab .any (opsOf Tryd.f6 5) = item_Parse_h.T5 := by kernel_rfl
theorem item_Parse_h.bits5 : waitsOk item_Parse_h.T5.2 item_Parse_h.B5 = true := by kernel_rfl
def item_Parse_h.T7 : Bool × List (List Nat × List Nat) := (true, [([], []), ([], []), ([], []), ([2], [2]), ([3], [3]), ([4], [4]), ([1, 5], [1, 5]), ([0], []), ([7, 0, 6, 0], [0, 7]), ([0, 1, 2, 3, 4, 5, 6, 7, 8], []), ([9, 0, 1, 2, 3, 4, 5, 6, 7, 8], [9]), ([10, 6, 8, 0, 1, 2, 3, 4, 5, 6, 7, 8], [6, 10])])
def item_Parse_h.B7 : List Nat := [0, 0, 0, 4, 12, 28, 62, 1, 255, 511, 1023, 2047]
theorem item_Parse_h.tab7 : rtab .any (opsOf Tryd.f6 7) = item_Parse_h.T7 := by kernel_rfl
theorem item_Parse_h.bits7 : waitsOk item_Parse_h.T7.2 item_Parse_h.B7 = true := by kernel_rfl
def kindsN : List Int := [0, 100, 102, 108, 104, 115, 120, 109]
def thingsN : List Int := [45, 102, 100, 108]
def sP (k : Int) (p q ep : ByteArray) (t d : Int) : Array Value := #[.int .i64 k, .string p, .string q, .string ep, .int .i64 t, .int .i64 0, .int .i64 0, .int .i64 0, .int .i64 0, .int .i64 0, .int .i64 0, .string (⟨#[]⟩ : ByteArray), .string (⟨#[]⟩ : ByteArray), .int .i64 0, .int .i64 d]
def zS : Array Value := sP 0 ⟨#[]⟩ ⟨#[]⟩ ⟨#[]⟩ 0 0
theorem sP_one (k : Int) (p q ep : ByteArray) (t d : Int) : (sP k p q ep t d).all (·.oneCell') = true := by simp [sP, Value.oneCell']
theorem place_at (xs : List Int) (hm : xs.length ≤ 9223372036854775807) (g t : Nat) (w : World) (h : w.heap[g]? = some (.cells (xs.map (Value.int .u8)).toArray t (0, 0))) (c r : Int) (hf : item_place.f 20 xs c = some r) :
    Calls Tryd.prog 14 #[.slice (some ⟨g, 0, none⟩) xs.length xs.length, .int .u8 c] w fun e w' => e = .returned (.int .i64 r) ∧ Below w.heap.size w w' := by
  refine (item_place.calls 20 (some ⟨g, 0, none⟩) xs.length xs c r w ⟨rfl, hm, fun _ => ⟨⟨g, 0, none⟩, rfl, fun j p hj => ⟨[.int .u8 p], rfl, rfl, fun i u hu => ?_⟩⟩⟩ (Nat.le_refl _) hf).mono ?_
  · have hi : i = 0 := by
      cases i with
      | zero => rfl
      | succ i => simp at hu
    subst hi
    have hu' : Value.int .u8 p = u := by simpa using hu
    subst hu'
    have e1 : (⟨g, 0, none⟩ : Addr).add (j * 1 + 0) = ⟨g, j, none⟩ := by unfold Addr.add; split <;> simp_all
    show w.cell? ((⟨g, 0, none⟩ : Addr).add (j * 1 + 0)) = _
    rw [e1, cell_of_row w g j _ t (0, 0) h]
    simp [hj]
  · rintro e w' ⟨he, nd, rfl⟩
    exact ⟨he, pw_below_drewN (Below.refl _ _) nd⟩
theorem alloc_step {P : Program} {ops : Array Oper} {o : Oper} {a : Act} {Q : Exit → Act → World → Prop} {Kc : Act → World → Prop} {W : World} (cs : Array Value) (t : Nat) (hw : Region.wanted o (yielded ops a.tmps) = true) (hrun : (execOp a.eval o).run P W = .ok (.value (.pointer (some ⟨W.heap.size, 0, none⟩))) (W.alloc (.cells cs t (0, 0)))) (h : Kc (a.put o.dst (.pointer (some ⟨W.heap.size, 0, none⟩))) (W.alloc (.cells cs t (0, 0)))) : if Region.wanted o (yielded ops a.tmps) = true then Oper.wp P o a W Kc Q else Kc (a.put o.dst undef) W := event_step hw hrun h
theorem store_run {P : Program} {o : Oper} {a : Act} (W : World) (g ty : Nat) (old cells : Array Value) (hg : W.heap[g]? = some (.cells old ty (0, 0))) (x y : Operand) (ho : o.op = .store ty x y) (hx : a.eval x = .pointer (some ⟨g, 0, none⟩)) (hy : a.eval y = .agg cells) (hi : (P.info? ty).map (·.size) = some cells.size) (hold : old.size = cells.size) (h1 : cells.all (·.oneCell') = true) : (execOp a.eval o).run P W = .ok .skip (W.setRow g cells) := by
  unfold execOp
  simp only [ho, hx, hy, Instr.storeAt, Instr.sureAddr, Sem.run_bind, Sem.run_pure, Result.andThen_ok, run_storeVar_row W g ty ty old cells hg hi hold h1]
structure PU (w wr : World) (g : Nat) (l : List ByteArray) : Prop where
  below : Below w.heap.size w wr
  res : wr.heap[w.heap.size]? = some (.cells zS 28 (0, 0))
  row : ∀ j p, l[j]? = some p → wr.cell? ⟨g, j, none⟩ = some (.string p)
theorem PU.step {w wr w2 : World} {g : Nat} {l : List ByteArray} (h : PU w wr g l) (hb : Below wr.heap.size wr w2) : PU w w2 g l :=
  ⟨below_step h.below hb, blk_below h.res hb, fun j p hj => (hb.cell (World.block_lt_of_cell? wr _ (h.row j p hj))).trans (h.row j p hj)⟩
structure PV (w wr : World) (g : Nat) (l : List ByteArray) (g1 g2 : Nat) : Prop extends PU w wr g l where
  k1 : wr.heap[g1]? = some (.cells kindsA 40 (0, 0))
  k2 : wr.heap[g2]? = some (.cells thingsA 42 (0, 0))
theorem PV.step {w wr w2 : World} {g g1 g2 : Nat} {l : List ByteArray} (h : PV w wr g l g1 g2) (hb : Below wr.heap.size wr w2) : PV w w2 g l g1 g2 :=
  ⟨h.toPU.step hb, blk_below h.k1 hb, blk_below h.k2 hb⟩
theorem PU.two {w wr : World} {g : Nat} {l : List ByteArray} (h : PU w wr g l) : PV w ((wr.alloc (.cells kindsA 40)).alloc (.cells thingsA 42)) g l wr.heap.size (wr.heap.size + 1) := by
  refine ⟨h.step (below_alloc (below_alloc (Below.refl _ _) _) _), blk_alloc (blk_new _ _) _, ?_⟩
  have := blk_new (wr.alloc (.cells kindsA 40)) (.cells thingsA 42)
  simpa using this
structure PW (w wr : World) (g : Nat) (l : List ByteArray) (g1 g2 g3 : Nat) (S : Array Value) : Prop extends PV w wr g l g1 g2 where
  k3 : wr.heap[g3]? = some (.cells S 28 (0, 0))
  n0 : w.heap.size < g3
  nr : l ≠ [] → g ≠ g3
  n1 : g1 ≠ g3
  n2 : g2 ≠ g3
theorem PW.step {w wr w2 : World} {g g1 g2 g3 : Nat} {l : List ByteArray} {S : Array Value} (h : PW w wr g l g1 g2 g3 S) (hb : Below wr.heap.size wr w2) : PW w w2 g l g1 g2 g3 S :=
  ⟨h.toPV.step hb, blk_below h.k3 hb, h.n0, h.nr, h.n1, h.n2⟩
theorem PV.box {w wr : World} {g g1 g2 : Nat} {l : List ByteArray} (h : PV w wr g l g1 g2) : PW w (wr.alloc (.cells zS 28)) g l g1 g2 wr.heap.size zS := by
  refine ⟨h.step (below_alloc (Below.refl _ _) _), blk_new _ _, blk_lt h.res, fun hl => ?_, Nat.ne_of_lt (blk_lt h.k1), Nat.ne_of_lt (blk_lt h.k2)⟩
  cases l with
  | nil => exact absurd rfl hl
  | cons p t => exact Nat.ne_of_lt (World.block_lt_of_cell? wr _ (h.row 0 p rfl))
theorem PV.boxed {w wr w5 : World} {g g1 g2 g3 : Nat} {l : List ByteArray} (h : PV w wr g l g1 g2) (hg : g3 = wr.heap.size) (hbox : w5.heap[g3]? = some (.cells zS 28 (0, 0))) (hb : Below wr.heap.size wr w5) : PW w w5 g l g1 g2 g3 zS := by
  subst hg
  refine ⟨h.step hb, hbox, blk_lt h.res, fun hl => ?_, Nat.ne_of_lt (blk_lt h.k1), Nat.ne_of_lt (blk_lt h.k2)⟩
  cases l with
  | nil => exact absurd rfl hl
  | cons p t => exact Nat.ne_of_lt (World.block_lt_of_cell? wr _ (h.row 0 p rfl))
theorem PW.row_ {w wr : World} {g g1 g2 g3 : Nat} {l : List ByteArray} {S : Array Value} (h : PW w wr g l g1 g2 g3 S) (S2 : Array Value) : PW w (wr.setRow g3 S2) g l g1 g2 g3 S2 := by
  refine ⟨⟨⟨below_setRow h.below (Nat.le_of_lt h.n0) _, (setRow_other _ _ _ _ (Nat.ne_of_lt h.n0)).trans h.res, fun j p hj => (cell_setRow_other _ _ _ _ (h.nr (by rintro rfl; simp at hj))).trans (h.row j p hj)⟩, (setRow_other _ _ _ _ h.n1).trans h.k1, (setRow_other _ _ _ _ h.n2).trans h.k2⟩, setRow_heap _ _ _ _ _ _ h.k3, h.n0, h.nr, h.n1, h.n2⟩
theorem PW.put {w wr : World} {g g1 g2 g3 : Nat} {l : List ByteArray} {S : Array Value} (h : PW w wr g l g1 g2 g3 S) (i : Nat) (v : Value) (S2 : Array Value) (e : S.setIfInBounds i v = S2) : PW w (wr.setCell ⟨g3, i, none⟩ v) g l g1 g2 g3 S2 := by
  refine ⟨⟨⟨below_set h.below (Nat.le_of_lt h.n0), blk_far h.res (Nat.ne_of_lt h.n0) v, fun j p hj => ?_⟩, blk_far h.k1 h.n1 v, blk_far h.k2 h.n2 v⟩, blk_put h.k3 i v e, h.n0, h.nr, h.n1, h.n2⟩
  have hne := h.nr (by rintro rfl; simp at hj)
  have hh := h.row j p hj
  unfold World.cell? at hh ⊢
  rw [Below.heap_setCell wr ⟨g3, i, none⟩ v g hne]
  exact hh

theorem add_zero_ (g j : Nat) : (⟨g, 0, none⟩ : Addr).add (j * 1 + 0) = ⟨g, j, none⟩ := by unfold Addr.add; split <;> simp_all
theorem split_row {w wa w1 : World} {v0 : Value} {l : List ByteArray} {base : Nat} {ok : Nat → Prop} (HD : B1 28 w wa zS) (hR : Kd.R Kd.string 9 w1 base ok v0 l) (hb : Below wa.heap.size wa w1) (hl : l ≠ []) : ∃ g c, v0 = .slice (some ⟨g, 0, none⟩) l.length c ∧ PU w w1 g l := by
  obtain ⟨inner, ho⟩ := Kd.R_own hR
  have hpos : 0 < l.length := by
    cases l with
    | nil => exact absurd rfl hl
    | cons _ _ => simp
  rcases ho.2 with ⟨_, h0⟩ | ⟨g, cap, cur, rfl, _⟩
  · omega
  · have hC := (Kd.R_reads' hR).2.2
    have h1 := B1.step HD hb
    refine ⟨g, cap, rfl, h1.1, h1.2, fun j p hj => ?_⟩
    obtain ⟨ad, e, hc⟩ := hC.2.2 hpos
    cases e
    obtain ⟨cs, _, hK, hcs⟩ := hc j p hj
    have hK1 : cs = [.string p] := hK
    rw [hK1] at hcs
    have := hcs 0 _ rfl
    change w1.cell? ((⟨g, 0, none⟩ : Addr).add (j * 1 + 0)) = _ at this
    exact (add_zero_ g j) ▸ this
def nil5 : Int × ByteArray × ByteArray × ByteArray × Int × Int × Int × Int × Int × Int × Int × ByteArray × ByteArray × Int × Int × Int := (0, ⟨#[]⟩, ⟨#[]⟩, ⟨#[]⟩, 0, 0, 0, 0, 0, 0, 0, ⟨#[]⟩, ⟨#[]⟩, 0, 0, 5)
def item_Parse.g (a0 : ByteArray) (l : List ByteArray) : Option (Int × ByteArray × ByteArray × ByteArray × Int × Int × Int × Int × Int × Int × Int × ByteArray × ByteArray × Int × Int × Int) :=
  if l.length < 3 ∨ 4 < l.length then some nil5 else
  if (rdOf ByteArray.empty l 0).size ≠ 2 then some nil5 else
  (item_place.f 20 kindsN (bt (rdOf ByteArray.empty l 0) 0)).bind fun kk => (item_diff.f 20 (rdOf ByteArray.empty l 1)).bind fun dd => (item_unword.f 20000 (rdOf ByteArray.empty l 2)).bind fun po => (item_place.f 20 thingsN (bt (rdOf ByteArray.empty l 0) 1)).bind fun tt =>
  (if po.2 = true ∧ l.length = 4 then item_unword.f 20000 (rdOf ByteArray.empty l 3) else some (⟨#[]⟩, po.2)).bind fun qo =>
  (item_Line.f kk po.1 qo.1 ⟨#[]⟩ tt 0 0 0 0 0 0 ⟨#[]⟩ ⟨#[]⟩ 0 dd).bind fun ae =>
  if qo.2 = true ∧ ae.2 = 0 ∧ ae.1 = a0 then some (kk, po.1, qo.1, (if tt > 0 then po.1 else ⟨#[]⟩), tt, 0, 0, 0, 0, 0, 0, ⟨#[]⟩, ⟨#[]⟩, 0, dd, 0) else some nil5
def item_Parse.f (a0 : ByteArray) : Option (Int × ByteArray × ByteArray × ByteArray × Int × Int × Int × Int × Int × Int × Int × ByteArray × ByteArray × Int × Int × Int) := (strings_Split.f a0 ⟨#[32]⟩).bind fun l => item_Parse.g a0 l
set_option maxHeartbeats 8000000 in
set_option maxRecDepth 100000 in
theorem parse_walk (a0 : ByteArray) (l : List ByteArray) (p0 p1 p2 p3 : ByteArray) (w : World) (hsp : ∀ w, Calls Tryd.prog 11 #[.string a0, .string (⟨#[32]⟩ : ByteArray)] w fun e w' => ∃ v0_ : Value, e = .returned (v0_) ∧ Kd.R Kd.string 9 w' w.heap.size (fun _ => True) v0_ l ∧ Below w.heap.size w w') (h3 : 3 ≤ l.length) (h4 : l.length ≤ 4)
    (e0 : l[0]? = some p0) (e1 : l[1]? = some p1) (e2 : l[2]? = some p2) (e3 : l.length = 4 → l[3]? = some p3) (hz : p0.size = 2) (kk dd tt : Int) (pp : ByteArray) (ok : Bool) (qq : ByteArray) (ok2 : Bool) (again : ByteArray) (er : Int) (c0 c1 : Int) (hb0 : 0 < p0.size) (hb1 : 1 < p0.size) (hc0 : ((p0[0]'hb0).toNat : Int) = c0) (hc1 : ((p0[1]'hb1).toNat : Int) = c1)
    (f1 : item_place.f 20 kindsN c0 = some kk) (f2 : item_diff.f 20 p1 = some dd) (f3 : item_unword.f 20000 p2 = some (pp, ok)) (f4 : item_place.f 20 thingsN c1 = some tt)
    (f5 : if ok = true ∧ l.length = 4 then item_unword.f 20000 p3 = some (qq, ok2) else (qq = ⟨#[]⟩ ∧ ok2 = ok)) (f6 : item_Line.f kk pp qq ⟨#[]⟩ tt 0 0 0 0 0 0 ⟨#[]⟩ ⟨#[]⟩ 0 dd = some (again, er)) (res : Value)
    (hres : Aside0 (res = (if ok2 = true ∧ er = 0 ∧ again = a0 then .tuple #[.agg (sP kk pp qq (if tt > 0 then pp else ⟨#[]⟩) tt dd), .int .i64 0] else .tuple #[.agg zS, .int .i64 5]))) :
    Calls Tryd.prog 6 #[.string a0] w fun e w' => e = .returned res ∧ Below w.heap.size w w' := by
  have hu1 := Tryd.underlying28
  have hu2 := Tryd.underlying40
  have hu3 := Tryd.underlying42
  have HD := Aside0.mk (B1.start 28 w zS)
  have hne : l ≠ [] := by intro h; rw [h] at h3; simp at h3
  have hkd : ∀ w, Calls Tryd.prog 12 #[] w fun e w' => e = .returned (.agg #[.int .u8 0, .int .u8 100, .int .u8 102, .int .u8 108, .int .u8 104, .int .u8 115, .int .u8 120, .int .u8 109]) ∧ Below w.heap.size w w' := fun w => kinds_call w
  have hth : ∀ w, Calls Tryd.prog 13 #[] w fun e w' => e = .returned (.agg #[.int .u8 45, .int .u8 102, .int .u8 100, .int .u8 108]) ∧ Below w.heap.size w w' := fun w => things_call w
  have hln : ∀ w, Calls Tryd.prog 10 #[.agg (sP kk pp qq ⟨#[]⟩ tt dd)] w fun e w' => e = .returned (.tuple #[.string again, .int .i64 er]) ∧ Below w.heap.size w w' := fun w => item_Line.calls kk pp qq ⟨#[]⟩ tt 0 0 0 0 0 0 ⟨#[]⟩ ⟨#[]⟩ 0 dd again er w f6
  have l1 : ((l.length : Int) < 3) = False := eq_false (by omega)
  have l2 : (l.length < 3) = False := eq_false (by omega)
  have l3 : ((4 : Int) < (l.length : Int)) = False := eq_false (by omega)
  have l4 : (4 < l.length) = False := eq_false (by omega)
  have l5 : ((0 : Int) < (l.length : Int)) = True := eq_true (by omega)
  have l6 : (0 < l.length) = True := eq_true (by omega)
  have l7 : ((1 : Int) < (l.length : Int)) = True := eq_true (by omega)
  have l8 : (1 < l.length) = True := eq_true (by omega)
  have l9 : ((2 : Int) < (l.length : Int)) = True := eq_true (by omega)
  have l10 : (2 < l.length) = True := eq_true (by omega)
  go_enter Tryd.func6, Tryd.ntmps6
  go_wp2_with (first | (go_at_call 11; (with_reducible refine (hsp _).mono ?_); rintro e w1 ⟨v0, rfl, hR, hb⟩; obtain ⟨g, cc, rfl, hpu⟩ := split_row HD.out hR hb hne; have HP := Aside0.mk hpu; clear hpu hR hb HD; have hx0 := HP.out.row 0 p0 e0) | (go_at_call 12; (with_reducible refine (hkd _).mono ?_); rintro e w2 ⟨rfl, hb⟩; have n0_ := Aside0.mk (PU.step HP.out hb); clear HP hb; have HP := n0_; clear n0_) | (go_at_call 13; (with_reducible refine (hth _).mono ?_); rintro e w2 ⟨rfl, hb⟩; have n0_ := Aside0.mk (PU.step HP.out hb); clear HP hb; have HP := n0_; clear n0_))
  have n0_ := Aside0.mk (PV.step (PU.two HP.out) (below_drew1 (Below.refl _ _)))
  clear HP hx0 hkd hth hsp
  have HP := n0_
  clear n0_
  obtain ⟨g2, hg2⟩ : ∃ x, x = w2.heap.size + 1 := ⟨_, rfl⟩
  obtain ⟨g1, hg1⟩ : ∃ x, x = w2.heap.size := ⟨_, rfl⟩
  rw [← hg2, ← hg1] at HP ⊢
  clear hg1 hg2
  refine start_ (n := 13) (S := fun w' => w'.cell? ⟨g, 0, none⟩ = some (.string p0) ∧ w'.cell? ⟨g, 1, none⟩ = some (.string p1)) (ds := []) #[Z_, Z_, Z_, Z_, Z_, Z_, Z_, Z_, Z_, Z_, Z_, Z_, Z_] (by kernel_rfl) rfl rfl ⟨HP.out.row 0 p0 e0, HP.out.row 1 p1 e1⟩ (fun hHeld => ?_)
  refine with_tabW item_Parse_h.tab5 item_Parse_h.bits5 (fun HT_ HW_ => ?_)
  refine pure_ (i := 0) (N := some 32) (v := ?_) (a' := ?_) #[Y_, Z_, Z_, Z_, Z_, Z_, Z_, Z_, Z_, Z_, Z_, Z_, Z_] rfl rfl (any_of HT_.out (by kernel_rfl)) (fun _ _ _ h => h) (Or.inl ⟨by rfl, ?_⟩) ?_ ?_
  rotate_left
  · intro w'; go_simp; with_reducible rfl
  rotate_left
  · simp only [Act.put, nS, i64_w, i32_w]; rfl
  refine pure_ (i := 1) (N := some 33) (v := ?_) (a' := ?_) #[Y_, Y_, Z_, Z_, Z_, Z_, Z_, Z_, Z_, Z_, Z_, Z_, Z_] rfl rfl (any_of HT_.out (by kernel_rfl)) (fun _ _ _ h => h) (Or.inl ⟨by rfl, ?_⟩) ?_ ?_
  rotate_left
  · intro w'; go_simp; with_reducible rfl
  rotate_left
  · simp only [Act.put, nS, i64_w, i32_w]; rfl
  refine pure_ (i := 2) (N := some 34) (v := ?_) (a' := ?_) #[Y_, Y_, Y_, Z_, Z_, Z_, Z_, Z_, Z_, Z_, Z_, Z_, Z_] rfl rfl (any_of HT_.out (by kernel_rfl)) (fun _ _ _ h => h) (Or.inl ⟨by rfl, ?_⟩) ?_ ?_
  rotate_left
  · intro w'; go_simp; with_reducible rfl
  rotate_left
  · simp only [Act.put, nS, i64_w, i32_w]; rfl
  refine take_ (i := 3) (N := some 35) (v := ?_) (a' := ?_) #[Y_, Y_, Y_, Y_, Z_, Z_, Z_, Z_, Z_, Z_, Z_, Z_, Z_] rfl rfl (take_ofW HT_.out HW_.out (by kernel_rfl)) (fun _ _ _ h => h) (Or.inl ⟨by rfl, ?_⟩) hHeld ?_ ?_
  rotate_left
  · rintro w' ⟨hr0_, hr1_⟩
    go_simp
    with_reducible rfl
  rotate_left
  · simp only [Act.put, nS, i64_w, i32_w]; rfl
  refine pure_ (i := 4) (N := some 36) (v := ?_) (a' := ?_) #[Y_, Y_, Y_, Y_, Y_, Z_, Z_, Z_, Z_, Z_, Z_, Z_, Z_] rfl rfl (any_of HT_.out (by kernel_rfl)) (fun _ _ _ h => h) (Or.inl ⟨by rfl, ?_⟩) ?_ ?_
  rotate_left
  · intro w'; go_simp; with_reducible rfl
  rotate_left
  · simp only [Act.put, nS, i64_w, i32_w]; rfl
  refine pure_ (i := 6) (N := some 38) (v := ?_) (a' := ?_) #[Y_, Y_, Y_, Y_, Y_, Z_, Y_, Z_, Z_, Z_, Z_, Z_, Z_] rfl rfl (any_of HT_.out (by kernel_rfl)) (fun _ _ _ h => h) (Or.inl ⟨by rfl, ?_⟩) ?_ ?_
  rotate_left
  · intro w'; go_simp; with_reducible rfl
  rotate_left
  · simp only [Act.put, nS, i64_w, i32_w]; rfl
  refine pure_ (i := 7) (N := some 39) (v := ?_) (a' := ?_) #[Y_, Y_, Y_, Y_, Y_, Z_, Y_, Y_, Z_, Z_, Z_, Z_, Z_] rfl rfl (any_of HT_.out (by kernel_rfl)) (fun _ _ _ h => h) (Or.inl ⟨by rfl, ?_⟩) ?_ ?_
  rotate_left
  · intro w'; go_simp; with_reducible rfl
  rotate_left
  · simp only [Act.put, nS, i64_w, i32_w]; rfl
  refine take_ (i := 8) (N := some 40) (v := ?_) (a' := ?_) #[Y_, Y_, Y_, Y_, Y_, Z_, Y_, Y_, Y_, Z_, Z_, Z_, Z_] rfl rfl (take_ofW HT_.out HW_.out (by kernel_rfl)) (fun _ _ _ h => h) (Or.inl ⟨by rfl, ?_⟩) hHeld ?_ ?_
  rotate_left
  · rintro w' ⟨hr0_, hr1_⟩
    go_simp
    with_reducible rfl
  rotate_left
  · simp only [Act.put, nS, i64_w, i32_w]; rfl
  refine two_ (i := 5) (j := 11) (Ni := some 37) (Nj := some 7) #[Y_, Y_, Y_, Y_, Y_, Y_, Y_, Y_, Y_, Z_, Z_, Z_, Z_] #[Y_, Y_, Y_, Y_, Y_, Z_, Y_, Y_, Y_, Z_, Z_, Y_, Z_] rfl rfl rfl rfl (two_of HT_.out (by kernel_rfl)) (by decide) (by decide) (fun K hK => ?_) (fun K hK => ?_)
  · refine goes_ Tryd.func14 (by kernel_rfl) rfl #[.slice (some ⟨g1, 0, none⟩) 8 8, .int .u8 c0] (by rfl) rfl rfl (by (try simp only [List.map_toArray, List.map_cons, List.map_nil]); first | done | rfl) ?_
    refine (place_at kindsN (by decide) _ _ _ HP.out.k1 c0 kk f1).mono ?_
    rintro e w1 ⟨rfl, hb⟩
    refine ⟨_, rfl, ?_⟩
    have n0_ := Aside0.mk (PV.step HP.out hb)
    clear HP
    have HP := n0_
    clear n0_
    clear hb
    refine hK.out _ _ ⟨HP.out.row 0 p0 e0, HP.out.row 1 p1 e1⟩ (fun hHeld => ?_)
    clear hK K
    refine norm_ (a' := ?_) ?_ ?_
    rotate_left
    · show Act.put _ (some 37) _ = _
      simp only [Act.put, nS, i64_w, i32_w]
      rfl
    refine two_ (i := 9) (j := 11) (Ni := some 41) (Nj := some 7) #[Y_, Y_, Y_, Y_, Y_, Y_, Y_, Y_, Y_, Y_, Z_, Z_, Z_] #[Y_, Y_, Y_, Y_, Y_, Y_, Y_, Y_, Y_, Z_, Z_, Y_, Z_] rfl rfl rfl rfl (two_of HT_.out (by kernel_rfl)) (by decide) (by decide) (fun K hK => ?_) (fun K hK => ?_)
    · refine goes_ Tryd.func15 (by kernel_rfl) rfl #[.string p1] (by rfl) rfl rfl (by (try simp only [List.map_toArray, List.map_cons, List.map_nil]); first | done | rfl) ?_
      refine (item_diff.calls 20 p1 dd _ f2).mono ?_
      rintro e w1 ⟨rfl, hb⟩
      refine ⟨_, rfl, ?_⟩
      have n0_ := Aside0.mk (PV.step HP.out hb)
      clear HP
      have HP := n0_
      clear n0_
      clear hb
      refine hK.out _ _ ⟨HP.out.row 0 p0 e0, HP.out.row 1 p1 e1⟩ (fun hHeld => ?_)
      clear hK K
      refine norm_ (a' := ?_) ?_ ?_
      rotate_left
      · show Act.put _ (some 41) _ = _
        simp only [Act.put, nS, i64_w, i32_w]
        rfl
      refine pure_ (i := 10) (N := some 42) (v := ?_) (a' := ?_) #[Y_, Y_, Y_, Y_, Y_, Y_, Y_, Y_, Y_, Y_, Y_, Z_, Z_] rfl rfl (any_of HT_.out (by kernel_rfl)) (fun _ _ _ h => h) (Or.inl ⟨by rfl, ?_⟩) ?_ ?_
      rotate_left
      · intro w'; go_simp; with_reducible rfl
      rotate_left
      · simp only [Act.put, nS, i64_w, i32_w]; rfl
      refine one_ (i := 11) (N := some 7) #[Y_, Y_, Y_, Y_, Y_, Y_, Y_, Y_, Y_, Y_, Y_, Y_, Z_] rfl rfl (one_of HT_.out (by kernel_rfl)) (by decide) (fun K hK => ?_)
      refine box_step (by rfl) (N := 7) rfl (cs := zS) (t := 28) ?hr ?_
      case hr => first | (go_simp; done) | (go_simp; rfl)
      intro g3 hg w5 hbox hb
      have n0_ := Aside0.mk (PV.boxed HP.out hg hbox hb)
      clear HP hg hbox hb
      have HP := n0_
      clear n0_
      refine hK.out _ _ ⟨HP.out.row 0 p0 e0, HP.out.row 1 p1 e1⟩ (fun hHeld => ?_)
      clear hK K
      refine norm_ (a' := ?_) ?_ ?_
      rotate_left
      · show Act.put _ (some 7) _ = _
        simp only [Act.put, nS, i64_w, i32_w]
        rfl
      refine one_ (i := 12) (N := none) #[Y_, Y_, Y_, Y_, Y_, Y_, Y_, Y_, Y_, Y_, Y_, Y_, Y_] rfl rfl (one_of HT_.out (by kernel_rfl)) (by decide) (fun K hK => ?_)
      refine skip_ (by rfl) rfl (store_run _ _ 28 zS (sP kk ⟨#[]⟩ ⟨#[]⟩ ⟨#[]⟩ 0 dd) HP.out.k3 (.tmp 7) (.tmp 42) rfl rfl rfl (by kernel_rfl) rfl (sP_one _ _ _ _ _ _)) ?_
      have n0_ := Aside0.mk (PW.row_ HP.out (sP kk ⟨#[]⟩ ⟨#[]⟩ ⟨#[]⟩ 0 dd))
      clear HP
      have HP := n0_
      clear n0_
      refine hK.out _ _ ⟨HP.out.row 0 p0 e0, HP.out.row 1 p1 e1⟩ (fun hHeld => ?_)
      clear hK K
      refine done_ (done_of HT_.out (by kernel_rfl)) ?_
      have hx2 := HP.out.row 2 p2 e2
      go_wp2_with (first | (go_at_call 16; (with_reducible refine (item_unword.calls 20000 p2 pp ok _ f3).mono ?_); rintro e w6 ⟨rfl, hb⟩; have n0_ := Aside0.mk (PW.step HP.out hb); clear HP hb; have HP := n0_; clear n0_))
      try clear hx2
      have n0_ := Aside0.mk (PW.step HP.out (below_drew1 (Below.refl _ _)))
      clear HP
      have HP := n0_
      clear n0_
      refine start_ (n := 12) (S := fun w' => w'.cell? ⟨g, 0, none⟩ = some (.string p0)) (ds := []) #[Z_, Z_, Z_, Z_, Z_, Z_, Z_, Z_, Z_, Z_, Z_, Z_] (by kernel_rfl) rfl rfl (HP.out.row 0 p0 e0) (fun hHeld => ?_)
      refine with_tabW item_Parse_h.tab7 item_Parse_h.bits7 (fun HT_ HW_ => ?_)
      refine pure_ (i := 0) (N := some 50) (v := ?_) (a' := ?_) #[Y_, Z_, Z_, Z_, Z_, Z_, Z_, Z_, Z_, Z_, Z_, Z_] rfl rfl (any_of HT_.out (by kernel_rfl)) (fun _ _ _ h => h) (Or.inl ⟨by rfl, ?_⟩) ?_ ?_
      rotate_left
      · intro w'; go_simp; with_reducible rfl
      rotate_left
      · simp only [Act.put, nS, i64_w, i32_w]; rfl
      refine pure_ (i := 1) (N := some 51) (v := ?_) (a' := ?_) #[Y_, Y_, Z_, Z_, Z_, Z_, Z_, Z_, Z_, Z_, Z_, Z_] rfl rfl (any_of HT_.out (by kernel_rfl)) (fun _ _ _ h => h) (Or.inl ⟨by rfl, ?_⟩) ?_ ?_
      rotate_left
      · intro w'; go_simp; with_reducible rfl
      rotate_left
      · simp only [Act.put, nS, i64_w, i32_w]; rfl
      refine pure_ (i := 2) (N := some 52) (v := ?_) (a' := ?_) #[Y_, Y_, Y_, Z_, Z_, Z_, Z_, Z_, Z_, Z_, Z_, Z_] rfl rfl (any_of HT_.out (by kernel_rfl)) (fun _ _ _ h => h) (Or.inl ⟨by rfl, ?_⟩) ?_ ?_
      rotate_left
      · intro w'; go_simp; with_reducible rfl
      rotate_left
      · simp only [Act.put, nS, i64_w, i32_w]; rfl
      refine pure_ (i := 3) (N := some 53) (v := ?_) (a' := ?_) #[Y_, Y_, Y_, Y_, Z_, Z_, Z_, Z_, Z_, Z_, Z_, Z_] rfl rfl (any_of HT_.out (by kernel_rfl)) (fun _ _ _ h => h) (Or.inl ⟨by rfl, ?_⟩) ?_ ?_
      rotate_left
      · intro w'; go_simp; with_reducible rfl
      rotate_left
      · simp only [Act.put, nS, i64_w, i32_w]; rfl
      refine take_ (i := 4) (N := some 54) (v := ?_) (a' := ?_) #[Y_, Y_, Y_, Y_, Y_, Z_, Z_, Z_, Z_, Z_, Z_, Z_] rfl rfl (take_ofW HT_.out HW_.out (by kernel_rfl)) (fun _ _ _ h => h) (Or.inl ⟨by rfl, ?_⟩) hHeld ?_ ?_
      rotate_left
      · rintro w' hr0_
        go_simp
        with_reducible rfl
      rotate_left
      · simp only [Act.put, nS, i64_w, i32_w]; rfl
      refine pure_ (i := 5) (N := some 55) (v := ?_) (a' := ?_) #[Y_, Y_, Y_, Y_, Y_, Y_, Z_, Z_, Z_, Z_, Z_, Z_] rfl rfl (any_of HT_.out (by kernel_rfl)) (fun _ _ _ h => h) (Or.inl ⟨by rfl, ?_⟩) ?_ ?_
      rotate_left
      · intro w'; go_simp; with_reducible rfl
      rotate_left
      · simp only [Act.put, nS, i64_w, i32_w]; rfl
      refine pure_ (i := 7) (N := some 57) (v := ?_) (a' := ?_) #[Y_, Y_, Y_, Y_, Y_, Y_, Z_, Y_, Z_, Z_, Z_, Z_] rfl rfl (any_of HT_.out (by kernel_rfl)) (fun _ _ _ h => h) (Or.inl ⟨by rfl, ?_⟩) ?_ ?_
      rotate_left
      · intro w'; go_simp; with_reducible rfl
      rotate_left
      · simp only [Act.put, nS, i64_w, i32_w]; rfl
      refine one_ (i := 6) (N := some 56) #[Y_, Y_, Y_, Y_, Y_, Y_, Y_, Y_, Z_, Z_, Z_, Z_] rfl rfl (one_of HT_.out (by kernel_rfl)) (by decide) (fun K hK => ?_)
      refine goes_ Tryd.func14 (by kernel_rfl) rfl #[.slice (some ⟨g2, 0, none⟩) 4 4, .int .u8 c1] (by rfl) rfl rfl (by (try simp only [List.map_toArray, List.map_cons, List.map_nil]); first | done | rfl) ?_
      refine (place_at thingsN (by decide) _ _ _ HP.out.k2 c1 tt f4).mono ?_
      rintro e w1 ⟨rfl, hb⟩
      refine ⟨_, rfl, ?_⟩
      have n0_ := Aside0.mk (PW.step HP.out hb)
      clear HP
      have HP := n0_
      clear n0_
      clear hb
      refine hK.out _ _ (HP.out.row 0 p0 e0) (fun hHeld => ?_)
      clear hK K
      refine norm_ (a' := ?_) ?_ ?_
      rotate_left
      · show Act.put _ (some 56) _ = _
        simp only [Act.put, nS, i64_w, i32_w]
        rfl
      refine one_ (i := 8) (N := none) #[Y_, Y_, Y_, Y_, Y_, Y_, Y_, Y_, Y_, Z_, Z_, Z_] rfl rfl (one_of HT_.out (by kernel_rfl)) (by decide) (fun K hK => ?_)
      have hcz := blk_cell HP.out.k3 1
      have hfz := blk_frozen HP.out.k3 1
      refine skip_ (w1 := ?_) (by rfl) rfl ?_ ?_
      rotate_left
      · go_simp
        rfl
      clear hcz hfz
      have n0_ := Aside0.mk (PW.put HP.out 1 (.string pp) (sP kk pp ⟨#[]⟩ ⟨#[]⟩ 0 dd) rfl)
      clear HP
      have HP := n0_
      clear n0_
      refine hK.out _ _ (HP.out.row 0 p0 e0) (fun hHeld => ?_)
      clear hK K
      refine pure_ (i := 9) (N := some 58) (v := ?_) (a' := ?_) #[Y_, Y_, Y_, Y_, Y_, Y_, Y_, Y_, Y_, Y_, Z_, Z_] rfl rfl (any_of HT_.out (by kernel_rfl)) (fun _ _ _ h => h) (Or.inl ⟨by rfl, ?_⟩) ?_ ?_
      rotate_left
      · intro w'; go_simp; with_reducible rfl
      rotate_left
      · simp only [Act.put, nS, i64_w, i32_w]; rfl
      refine pure_ (i := 10) (N := some 59) (v := ?_) (a' := ?_) #[Y_, Y_, Y_, Y_, Y_, Y_, Y_, Y_, Y_, Y_, Y_, Z_] rfl rfl (any_of HT_.out (by kernel_rfl)) (fun _ _ _ h => h) (Or.inl ⟨by rfl, ?_⟩) ?_ ?_
      rotate_left
      · intro w'; go_simp; with_reducible rfl
      rotate_left
      · simp only [Act.put, nS, i64_w, i32_w]; rfl
      refine one_ (i := 11) (N := none) #[Y_, Y_, Y_, Y_, Y_, Y_, Y_, Y_, Y_, Y_, Y_, Y_] rfl rfl (one_of HT_.out (by kernel_rfl)) (by decide) (fun K hK => ?_)
      have hcz := blk_cell HP.out.k3 4
      have hfz := blk_frozen HP.out.k3 4
      refine skip_ (w1 := ?_) (by rfl) rfl ?_ ?_
      rotate_left
      · go_simp
        rfl
      clear hcz hfz
      have n0_ := Aside0.mk (PW.put HP.out 4 (.int .i64 tt) (sP kk pp ⟨#[]⟩ ⟨#[]⟩ tt dd) rfl)
      clear HP
      have HP := n0_
      clear n0_
      refine hK.out _ _ (HP.out.row 0 p0 e0) (fun hHeld => ?_)
      clear hK K
      refine done_ (done_of HT_.out (by kernel_rfl)) ?_
      cases ok with
      | false =>
        rw [if_neg (fun h => absurd h.1 (by decide))] at f5
        obtain ⟨hqq, rfl⟩ := f5
        have n0_ := Aside0.mk (show PW w _ g l g1 g2 g3 (sP kk pp qq ⟨#[]⟩ tt dd) from by rw [hqq]; exact HP.out)
        clear HP hqq
        have HP := n0_
        clear n0_
        go_wp2_with (first | ((with_reducible refine gate_dst (N := 75) rfl ?_); refine wpList_load_row rfl 28 (.tmp 7) rfl g3 rfl 28 _ (0, 0) _ HP.out.k3 hu1 rfl (by kernel_rfl) ?_) | (go_at_call 10; (with_reducible refine (hln _).mono ?_); rintro e w9 ⟨rfl, hb⟩; have n0_ := Aside0.mk (PW.step HP.out hb); clear HP hb; have HP := n0_; clear n0_; have hk1 := blk_cell HP.out.k3 1; have hk4 := blk_cell HP.out.k3 4; change _ = some (Value.string pp) at hk1; change _ = some (Value.int .i64 tt) at hk4) | ((with_reducible refine gate_store (t := 28) (p := 2) rfl ?_); refine wpList_store_rowTo rfl 28 (.tmp 2) (.tmp 90) rfl rfl w.heap.size zS rfl rfl 28 zS HP.out.res (by kernel_rfl) rfl (sP_one _ _ _ _ _ _) ?_))
        refine bodyPost_ret (results_ct rfl _ _ w.heap.size 28 zS (0, 0) _ rfl (setRow_heap _ _ zS _ 28 (0, 0) HP.out.res) hu1 rfl (by kernel_rfl)) rfl ?_
        exact ⟨by rw [hres.out, if_neg (fun h => absurd h.1 (by decide))]; rfl, below_setRow HP.out.below (Nat.le_refl _) _⟩
      | true =>
        by_cases hl4 : l.length = 4
        · rw [if_pos ⟨rfl, hl4⟩] at f5
          have hx3 := HP.out.row 3 p3 (e3 hl4)
          have e4 : ((l.length : Int) == 4) = true := beq_iff_eq.2 (by omega)
          have e5 : ((3 : Int) < (l.length : Int)) = True := eq_true (by omega)
          have e6 : (3 < l.length) = True := eq_true (by omega)
          cases ok2 with
          | false =>
            go_wp2_with (first | (go_at_call 16; (with_reducible refine (item_unword.calls 20000 p3 qq _ _ f5).mono ?_); rintro e w7 ⟨rfl, hb⟩; have n0_ := Aside0.mk (PW.step HP.out hb); clear HP hb; have HP := n0_; clear n0_; have hcz2 := blk_cell HP.out.k3 2; have hfz2 := blk_frozen HP.out.k3 2; change _ = some (Value.string _) at hcz2) | ((with_reducible refine gate_dst (N := 75) rfl ?_); refine wpList_load_row rfl 28 (.tmp 7) rfl g3 rfl 28 _ (0, 0) _ (PW.put HP.out 2 (.string qq) (sP kk pp qq ⟨#[]⟩ tt dd) rfl).k3 hu1 rfl (by kernel_rfl) ?_) | (go_at_call 10; (with_reducible refine (hln _).mono ?_); rintro e w9 ⟨rfl, hb⟩; have n0_ := Aside0.mk (PW.step (PW.put HP.out 2 (.string qq) (sP kk pp qq ⟨#[]⟩ tt dd) rfl) hb); clear HP hb; have HP := n0_; clear n0_; have hk1 := blk_cell HP.out.k3 1; have hk4 := blk_cell HP.out.k3 4; change _ = some (Value.string pp) at hk1; change _ = some (Value.int .i64 tt) at hk4) | ((with_reducible refine gate_store (t := 28) (p := 2) rfl ?_); refine wpList_store_rowTo rfl 28 (.tmp 2) (.tmp 90) rfl rfl w.heap.size zS rfl rfl 28 zS HP.out.res (by kernel_rfl) rfl (sP_one _ _ _ _ _ _) ?_))
            refine bodyPost_ret (results_ct rfl _ _ w.heap.size 28 zS (0, 0) _ rfl (setRow_heap _ _ zS _ 28 (0, 0) HP.out.res) hu1 rfl (by kernel_rfl)) rfl ?_
            exact ⟨by rw [hres.out, if_neg (fun h => absurd h.1 (by decide))]; rfl, below_setRow HP.out.below (Nat.le_refl _) _⟩
          | true =>
            by_cases he : er = 0
            · subst he
              by_cases ha : again = a0
              · subst ha
                have q1 : (again.toList == again.toList) = true := beq_self_eq_true _
                by_cases ht : tt > 0
                · have ht1 : (0 < tt) = True := eq_true ht
                  go_wp2_with (first | (go_at_call 16; (with_reducible refine (item_unword.calls 20000 p3 qq _ _ f5).mono ?_); rintro e w7 ⟨rfl, hb⟩; have n0_ := Aside0.mk (PW.step HP.out hb); clear HP hb; have HP := n0_; clear n0_; have hcz2 := blk_cell HP.out.k3 2; have hfz2 := blk_frozen HP.out.k3 2; change _ = some (Value.string _) at hcz2) | ((with_reducible refine gate_dst (N := 75) rfl ?_); refine wpList_load_row rfl 28 (.tmp 7) rfl g3 rfl 28 _ (0, 0) _ (PW.put HP.out 2 (.string qq) (sP kk pp qq ⟨#[]⟩ tt dd) rfl).k3 hu1 rfl (by kernel_rfl) ?_) | (go_at_call 10; (with_reducible refine (hln _).mono ?_); rintro e w9 ⟨rfl, hb⟩; have n0_ := Aside0.mk (PW.step (PW.put HP.out 2 (.string qq) (sP kk pp qq ⟨#[]⟩ tt dd) rfl) hb); clear HP hb; have HP := n0_; clear n0_; have hk1 := blk_cell HP.out.k3 1; have hk4 := blk_cell HP.out.k3 4; change _ = some (Value.string pp) at hk1; change _ = some (Value.int .i64 tt) at hk4; have hcz3 := blk_cell HP.out.k3 3; have hfz3 := blk_frozen HP.out.k3 3; change _ = some (Value.string _) at hcz3) | ((with_reducible refine gate_dst (N := 99) rfl ?_); refine wpList_load_row rfl 28 (.tmp 7) rfl g3 rfl 28 _ (0, 0) _ (PW.put HP.out 3 (.string pp) (sP kk pp qq pp tt dd) rfl).k3 hu1 rfl (by kernel_rfl) ?_) | ((with_reducible refine gate_store (t := 28) (p := 2) rfl ?_); refine wpList_store_rowTo rfl 28 (.tmp 2) (.tmp 99) rfl rfl w.heap.size (sP kk pp qq pp tt dd) rfl rfl 28 zS (PW.put HP.out 3 (.string pp) (sP kk pp qq pp tt dd) rfl).res (by kernel_rfl) rfl (sP_one _ _ _ _ _ _) ?_))
                  refine bodyPost_ret (results_ct rfl _ _ w.heap.size 28 (sP kk pp qq pp tt dd) (0, 0) _ rfl (setRow_heap _ _ zS _ 28 (0, 0) (PW.put HP.out 3 (.string pp) (sP kk pp qq pp tt dd) rfl).res) hu1 rfl (by kernel_rfl)) rfl ?_
                  exact ⟨by rw [hres.out]; simp [ht1], below_setRow (PW.put HP.out 3 (.string pp) (sP kk pp qq pp tt dd) rfl).below (Nat.le_refl _) _⟩
                · have ht1 : (0 < tt) = False := eq_false ht
                  go_wp2_with (first | (go_at_call 16; (with_reducible refine (item_unword.calls 20000 p3 qq _ _ f5).mono ?_); rintro e w7 ⟨rfl, hb⟩; have n0_ := Aside0.mk (PW.step HP.out hb); clear HP hb; have HP := n0_; clear n0_; have hcz2 := blk_cell HP.out.k3 2; have hfz2 := blk_frozen HP.out.k3 2; change _ = some (Value.string _) at hcz2) | ((with_reducible refine gate_dst (N := 75) rfl ?_); refine wpList_load_row rfl 28 (.tmp 7) rfl g3 rfl 28 _ (0, 0) _ (PW.put HP.out 2 (.string qq) (sP kk pp qq ⟨#[]⟩ tt dd) rfl).k3 hu1 rfl (by kernel_rfl) ?_) | (go_at_call 10; (with_reducible refine (hln _).mono ?_); rintro e w9 ⟨rfl, hb⟩; have n0_ := Aside0.mk (PW.step (PW.put HP.out 2 (.string qq) (sP kk pp qq ⟨#[]⟩ tt dd) rfl) hb); clear HP hb; have HP := n0_; clear n0_; have hk1 := blk_cell HP.out.k3 1; have hk4 := blk_cell HP.out.k3 4; change _ = some (Value.string pp) at hk1; change _ = some (Value.int .i64 tt) at hk4) | ((with_reducible refine gate_dst (N := 99) rfl ?_); refine wpList_load_row rfl 28 (.tmp 7) rfl g3 rfl 28 _ (0, 0) _ HP.out.k3 hu1 rfl (by kernel_rfl) ?_) | ((with_reducible refine gate_store (t := 28) (p := 2) rfl ?_); refine wpList_store_rowTo rfl 28 (.tmp 2) (.tmp 99) rfl rfl w.heap.size (sP kk pp qq ⟨#[]⟩ tt dd) rfl rfl 28 zS HP.out.res (by kernel_rfl) rfl (sP_one _ _ _ _ _ _) ?_))
                  refine bodyPost_ret (results_ct rfl _ _ w.heap.size 28 (sP kk pp qq ⟨#[]⟩ tt dd) (0, 0) _ rfl (setRow_heap _ _ zS _ 28 (0, 0) HP.out.res) hu1 rfl (by kernel_rfl)) rfl ?_
                  exact ⟨by rw [hres.out]; simp [ht1], below_setRow HP.out.below (Nat.le_refl _) _⟩
              · have q1 : (again.toList == a0.toList) = false := beq_eq_false_iff_ne.2 (fun e => ha (ByteArray.ext (Array.toList_inj.1 (by rwa [ByteArray.toList_eq, ByteArray.toList_eq] at e))))
                go_wp2_with (first | (go_at_call 16; (with_reducible refine (item_unword.calls 20000 p3 qq _ _ f5).mono ?_); rintro e w7 ⟨rfl, hb⟩; have n0_ := Aside0.mk (PW.step HP.out hb); clear HP hb; have HP := n0_; clear n0_; have hcz2 := blk_cell HP.out.k3 2; have hfz2 := blk_frozen HP.out.k3 2; change _ = some (Value.string _) at hcz2) | ((with_reducible refine gate_dst (N := 75) rfl ?_); refine wpList_load_row rfl 28 (.tmp 7) rfl g3 rfl 28 _ (0, 0) _ (PW.put HP.out 2 (.string qq) (sP kk pp qq ⟨#[]⟩ tt dd) rfl).k3 hu1 rfl (by kernel_rfl) ?_) | (go_at_call 10; (with_reducible refine (hln _).mono ?_); rintro e w9 ⟨rfl, hb⟩; have n0_ := Aside0.mk (PW.step (PW.put HP.out 2 (.string qq) (sP kk pp qq ⟨#[]⟩ tt dd) rfl) hb); clear HP hb; have HP := n0_; clear n0_; have hk1 := blk_cell HP.out.k3 1; have hk4 := blk_cell HP.out.k3 4; change _ = some (Value.string pp) at hk1; change _ = some (Value.int .i64 tt) at hk4) | ((with_reducible refine gate_store (t := 28) (p := 2) rfl ?_); refine wpList_store_rowTo rfl 28 (.tmp 2) (.tmp 90) rfl rfl w.heap.size zS rfl rfl 28 zS HP.out.res (by kernel_rfl) rfl (sP_one _ _ _ _ _ _) ?_))
                refine bodyPost_ret (results_ct rfl _ _ w.heap.size 28 zS (0, 0) _ rfl (setRow_heap _ _ zS _ 28 (0, 0) HP.out.res) hu1 rfl (by kernel_rfl)) rfl ?_
                exact ⟨by rw [hres.out, if_neg (fun h => ha h.2.2)]; rfl, below_setRow HP.out.below (Nat.le_refl _) _⟩
            · have q2 : (er != 0) = true := bne_iff_ne.2 he
              go_wp2_with (first | (go_at_call 16; (with_reducible refine (item_unword.calls 20000 p3 qq _ _ f5).mono ?_); rintro e w7 ⟨rfl, hb⟩; have n0_ := Aside0.mk (PW.step HP.out hb); clear HP hb; have HP := n0_; clear n0_; have hcz2 := blk_cell HP.out.k3 2; have hfz2 := blk_frozen HP.out.k3 2; change _ = some (Value.string _) at hcz2) | ((with_reducible refine gate_dst (N := 75) rfl ?_); refine wpList_load_row rfl 28 (.tmp 7) rfl g3 rfl 28 _ (0, 0) _ (PW.put HP.out 2 (.string qq) (sP kk pp qq ⟨#[]⟩ tt dd) rfl).k3 hu1 rfl (by kernel_rfl) ?_) | (go_at_call 10; (with_reducible refine (hln _).mono ?_); rintro e w9 ⟨rfl, hb⟩; have n0_ := Aside0.mk (PW.step (PW.put HP.out 2 (.string qq) (sP kk pp qq ⟨#[]⟩ tt dd) rfl) hb); clear HP hb; have HP := n0_; clear n0_; have hk1 := blk_cell HP.out.k3 1; have hk4 := blk_cell HP.out.k3 4; change _ = some (Value.string pp) at hk1; change _ = some (Value.int .i64 tt) at hk4) | ((with_reducible refine gate_store (t := 28) (p := 2) rfl ?_); refine wpList_store_rowTo rfl 28 (.tmp 2) (.tmp 90) rfl rfl w.heap.size zS rfl rfl 28 zS HP.out.res (by kernel_rfl) rfl (sP_one _ _ _ _ _ _) ?_))
              refine bodyPost_ret (results_ct rfl _ _ w.heap.size 28 zS (0, 0) _ rfl (setRow_heap _ _ zS _ 28 (0, 0) HP.out.res) hu1 rfl (by kernel_rfl)) rfl ?_
              exact ⟨by rw [hres.out, if_neg (fun h => he h.2.1)]; rfl, below_setRow HP.out.below (Nat.le_refl _) _⟩
        · rw [if_neg (fun h => hl4 h.2)] at f5
          obtain ⟨hqq, rfl⟩ := f5
          have n0_ := Aside0.mk (show PW w _ g l g1 g2 g3 (sP kk pp qq ⟨#[]⟩ tt dd) from by rw [hqq]; exact HP.out)
          clear HP hqq
          have HP := n0_
          clear n0_
          have e4 : ((l.length : Int) == 4) = false := beq_eq_false_iff_ne.2 (by omega)
          by_cases he : er = 0
          · subst he
            by_cases ha : again = a0
            · subst ha
              have q1 : (again.toList == again.toList) = true := beq_self_eq_true _
              by_cases ht : tt > 0
              · have ht1 : (0 < tt) = True := eq_true ht
                go_wp2_with (first | ((with_reducible refine gate_dst (N := 75) rfl ?_); refine wpList_load_row rfl 28 (.tmp 7) rfl g3 rfl 28 _ (0, 0) _ HP.out.k3 hu1 rfl (by kernel_rfl) ?_) | (go_at_call 10; (with_reducible refine (hln _).mono ?_); rintro e w9 ⟨rfl, hb⟩; have n0_ := Aside0.mk (PW.step HP.out hb); clear HP hb; have HP := n0_; clear n0_; have hk1 := blk_cell HP.out.k3 1; have hk4 := blk_cell HP.out.k3 4; change _ = some (Value.string pp) at hk1; change _ = some (Value.int .i64 tt) at hk4; have hcz3 := blk_cell HP.out.k3 3; have hfz3 := blk_frozen HP.out.k3 3; change _ = some (Value.string _) at hcz3) | ((with_reducible refine gate_dst (N := 99) rfl ?_); refine wpList_load_row rfl 28 (.tmp 7) rfl g3 rfl 28 _ (0, 0) _ (PW.put HP.out 3 (.string pp) (sP kk pp qq pp tt dd) rfl).k3 hu1 rfl (by kernel_rfl) ?_) | ((with_reducible refine gate_store (t := 28) (p := 2) rfl ?_); refine wpList_store_rowTo rfl 28 (.tmp 2) (.tmp 99) rfl rfl w.heap.size (sP kk pp qq pp tt dd) rfl rfl 28 zS (PW.put HP.out 3 (.string pp) (sP kk pp qq pp tt dd) rfl).res (by kernel_rfl) rfl (sP_one _ _ _ _ _ _) ?_))
                refine bodyPost_ret (results_ct rfl _ _ w.heap.size 28 (sP kk pp qq pp tt dd) (0, 0) _ rfl (setRow_heap _ _ zS _ 28 (0, 0) (PW.put HP.out 3 (.string pp) (sP kk pp qq pp tt dd) rfl).res) hu1 rfl (by kernel_rfl)) rfl ?_
                exact ⟨by rw [hres.out]; simp [ht1], below_setRow (PW.put HP.out 3 (.string pp) (sP kk pp qq pp tt dd) rfl).below (Nat.le_refl _) _⟩
              · have ht1 : (0 < tt) = False := eq_false ht
                go_wp2_with (first | ((with_reducible refine gate_dst (N := 75) rfl ?_); refine wpList_load_row rfl 28 (.tmp 7) rfl g3 rfl 28 _ (0, 0) _ HP.out.k3 hu1 rfl (by kernel_rfl) ?_) | (go_at_call 10; (with_reducible refine (hln _).mono ?_); rintro e w9 ⟨rfl, hb⟩; have n0_ := Aside0.mk (PW.step HP.out hb); clear HP hb; have HP := n0_; clear n0_; have hk1 := blk_cell HP.out.k3 1; have hk4 := blk_cell HP.out.k3 4; change _ = some (Value.string pp) at hk1; change _ = some (Value.int .i64 tt) at hk4) | ((with_reducible refine gate_dst (N := 99) rfl ?_); refine wpList_load_row rfl 28 (.tmp 7) rfl g3 rfl 28 _ (0, 0) _ HP.out.k3 hu1 rfl (by kernel_rfl) ?_) | ((with_reducible refine gate_store (t := 28) (p := 2) rfl ?_); refine wpList_store_rowTo rfl 28 (.tmp 2) (.tmp 99) rfl rfl w.heap.size (sP kk pp qq ⟨#[]⟩ tt dd) rfl rfl 28 zS HP.out.res (by kernel_rfl) rfl (sP_one _ _ _ _ _ _) ?_))
                refine bodyPost_ret (results_ct rfl _ _ w.heap.size 28 (sP kk pp qq ⟨#[]⟩ tt dd) (0, 0) _ rfl (setRow_heap _ _ zS _ 28 (0, 0) HP.out.res) hu1 rfl (by kernel_rfl)) rfl ?_
                exact ⟨by rw [hres.out]; simp [ht1], below_setRow HP.out.below (Nat.le_refl _) _⟩
            · have q1 : (again.toList == a0.toList) = false := beq_eq_false_iff_ne.2 (fun e => ha (ByteArray.ext (Array.toList_inj.1 (by rwa [ByteArray.toList_eq, ByteArray.toList_eq] at e))))
              go_wp2_with (first | ((with_reducible refine gate_dst (N := 75) rfl ?_); refine wpList_load_row rfl 28 (.tmp 7) rfl g3 rfl 28 _ (0, 0) _ HP.out.k3 hu1 rfl (by kernel_rfl) ?_) | (go_at_call 10; (with_reducible refine (hln _).mono ?_); rintro e w9 ⟨rfl, hb⟩; have n0_ := Aside0.mk (PW.step HP.out hb); clear HP hb; have HP := n0_; clear n0_; have hk1 := blk_cell HP.out.k3 1; have hk4 := blk_cell HP.out.k3 4; change _ = some (Value.string pp) at hk1; change _ = some (Value.int .i64 tt) at hk4) | ((with_reducible refine gate_store (t := 28) (p := 2) rfl ?_); refine wpList_store_rowTo rfl 28 (.tmp 2) (.tmp 90) rfl rfl w.heap.size zS rfl rfl 28 zS HP.out.res (by kernel_rfl) rfl (sP_one _ _ _ _ _ _) ?_))
              refine bodyPost_ret (results_ct rfl _ _ w.heap.size 28 zS (0, 0) _ rfl (setRow_heap _ _ zS _ 28 (0, 0) HP.out.res) hu1 rfl (by kernel_rfl)) rfl ?_
              exact ⟨by rw [hres.out, if_neg (fun h => ha h.2.2)]; rfl, below_setRow HP.out.below (Nat.le_refl _) _⟩
          · have q2 : (er != 0) = true := bne_iff_ne.2 he
            go_wp2_with (first | ((with_reducible refine gate_dst (N := 75) rfl ?_); refine wpList_load_row rfl 28 (.tmp 7) rfl g3 rfl 28 _ (0, 0) _ HP.out.k3 hu1 rfl (by kernel_rfl) ?_) | (go_at_call 10; (with_reducible refine (hln _).mono ?_); rintro e w9 ⟨rfl, hb⟩; have n0_ := Aside0.mk (PW.step HP.out hb); clear HP hb; have HP := n0_; clear n0_; have hk1 := blk_cell HP.out.k3 1; have hk4 := blk_cell HP.out.k3 4; change _ = some (Value.string pp) at hk1; change _ = some (Value.int .i64 tt) at hk4) | ((with_reducible refine gate_store (t := 28) (p := 2) rfl ?_); refine wpList_store_rowTo rfl 28 (.tmp 2) (.tmp 90) rfl rfl w.heap.size zS rfl rfl 28 zS HP.out.res (by kernel_rfl) rfl (sP_one _ _ _ _ _ _) ?_))
            refine bodyPost_ret (results_ct rfl _ _ w.heap.size 28 zS (0, 0) _ rfl (setRow_heap _ _ zS _ 28 (0, 0) HP.out.res) hu1 rfl (by kernel_rfl)) rfl ?_
            exact ⟨by rw [hres.out, if_neg (fun h => he h.2.1)]; rfl, below_setRow HP.out.below (Nat.le_refl _) _⟩
    · refine box_step (by rfl) (N := 7) rfl (cs := zS) (t := 28) ?hr ?_
      case hr => first | (go_simp; done) | (go_simp; rfl)
      intro g3 hg w5 hbox hb
      have n0_ := Aside0.mk (PV.boxed HP.out hg hbox hb)
      clear HP hg hbox hb
      have HP := n0_
      clear n0_
      refine hK.out _ _ ⟨HP.out.row 0 p0 e0, HP.out.row 1 p1 e1⟩ (fun hHeld => ?_)
      clear hK K
      refine norm_ (a' := ?_) ?_ ?_
      rotate_left
      · show Act.put _ (some 7) _ = _
        simp only [Act.put, nS, i64_w, i32_w]
        rfl
      refine one_ (i := 9) (N := some 41) #[Y_, Y_, Y_, Y_, Y_, Y_, Y_, Y_, Y_, Y_, Z_, Y_, Z_] rfl rfl (one_of HT_.out (by kernel_rfl)) (by decide) (fun K hK => ?_)
      refine goes_ Tryd.func15 (by kernel_rfl) rfl #[.string p1] (by rfl) rfl rfl (by (try simp only [List.map_toArray, List.map_cons, List.map_nil]); first | done | rfl) ?_
      refine (item_diff.calls 20 p1 dd _ f2).mono ?_
      rintro e w1 ⟨rfl, hb⟩
      refine ⟨_, rfl, ?_⟩
      have n0_ := Aside0.mk (PW.step HP.out hb)
      clear HP
      have HP := n0_
      clear n0_
      clear hb
      refine hK.out _ _ ⟨HP.out.row 0 p0 e0, HP.out.row 1 p1 e1⟩ (fun hHeld => ?_)
      clear hK K
      refine norm_ (a' := ?_) ?_ ?_
      rotate_left
      · show Act.put _ (some 41) _ = _
        simp only [Act.put, nS, i64_w, i32_w]
        rfl
      refine pure_ (i := 10) (N := some 42) (v := ?_) (a' := ?_) #[Y_, Y_, Y_, Y_, Y_, Y_, Y_, Y_, Y_, Y_, Y_, Y_, Z_] rfl rfl (any_of HT_.out (by kernel_rfl)) (fun _ _ _ h => h) (Or.inl ⟨by rfl, ?_⟩) ?_ ?_
      rotate_left
      · intro w'; go_simp; with_reducible rfl
      rotate_left
      · simp only [Act.put, nS, i64_w, i32_w]; rfl
      refine one_ (i := 12) (N := none) #[Y_, Y_, Y_, Y_, Y_, Y_, Y_, Y_, Y_, Y_, Y_, Y_, Y_] rfl rfl (one_of HT_.out (by kernel_rfl)) (by decide) (fun K hK => ?_)
      refine skip_ (by rfl) rfl (store_run _ _ 28 zS (sP kk ⟨#[]⟩ ⟨#[]⟩ ⟨#[]⟩ 0 dd) HP.out.k3 (.tmp 7) (.tmp 42) rfl rfl rfl (by kernel_rfl) rfl (sP_one _ _ _ _ _ _)) ?_
      have n0_ := Aside0.mk (PW.row_ HP.out (sP kk ⟨#[]⟩ ⟨#[]⟩ ⟨#[]⟩ 0 dd))
      clear HP
      have HP := n0_
      clear n0_
      refine hK.out _ _ ⟨HP.out.row 0 p0 e0, HP.out.row 1 p1 e1⟩ (fun hHeld => ?_)
      clear hK K
      refine done_ (done_of HT_.out (by kernel_rfl)) ?_
      have hx2 := HP.out.row 2 p2 e2
      go_wp2_with (first | (go_at_call 16; (with_reducible refine (item_unword.calls 20000 p2 pp ok _ f3).mono ?_); rintro e w6 ⟨rfl, hb⟩; have n0_ := Aside0.mk (PW.step HP.out hb); clear HP hb; have HP := n0_; clear n0_))
      try clear hx2
      have n0_ := Aside0.mk (PW.step HP.out (below_drew1 (Below.refl _ _)))
      clear HP
      have HP := n0_
      clear n0_
      refine start_ (n := 12) (S := fun w' => w'.cell? ⟨g, 0, none⟩ = some (.string p0)) (ds := []) #[Z_, Z_, Z_, Z_, Z_, Z_, Z_, Z_, Z_, Z_, Z_, Z_] (by kernel_rfl) rfl rfl (HP.out.row 0 p0 e0) (fun hHeld => ?_)
      refine with_tabW item_Parse_h.tab7 item_Parse_h.bits7 (fun HT_ HW_ => ?_)
      refine pure_ (i := 0) (N := some 50) (v := ?_) (a' := ?_) #[Y_, Z_, Z_, Z_, Z_, Z_, Z_, Z_, Z_, Z_, Z_, Z_] rfl rfl (any_of HT_.out (by kernel_rfl)) (fun _ _ _ h => h) (Or.inl ⟨by rfl, ?_⟩) ?_ ?_
      rotate_left
      · intro w'; go_simp; with_reducible rfl
      rotate_left
      · simp only [Act.put, nS, i64_w, i32_w]; rfl
      refine pure_ (i := 1) (N := some 51) (v := ?_) (a' := ?_) #[Y_, Y_, Z_, Z_, Z_, Z_, Z_, Z_, Z_, Z_, Z_, Z_] rfl rfl (any_of HT_.out (by kernel_rfl)) (fun _ _ _ h => h) (Or.inl ⟨by rfl, ?_⟩) ?_ ?_
      rotate_left
      · intro w'; go_simp; with_reducible rfl
      rotate_left
      · simp only [Act.put, nS, i64_w, i32_w]; rfl
      refine pure_ (i := 2) (N := some 52) (v := ?_) (a' := ?_) #[Y_, Y_, Y_, Z_, Z_, Z_, Z_, Z_, Z_, Z_, Z_, Z_] rfl rfl (any_of HT_.out (by kernel_rfl)) (fun _ _ _ h => h) (Or.inl ⟨by rfl, ?_⟩) ?_ ?_
      rotate_left
      · intro w'; go_simp; with_reducible rfl
      rotate_left
      · simp only [Act.put, nS, i64_w, i32_w]; rfl
      refine pure_ (i := 3) (N := some 53) (v := ?_) (a' := ?_) #[Y_, Y_, Y_, Y_, Z_, Z_, Z_, Z_, Z_, Z_, Z_, Z_] rfl rfl (any_of HT_.out (by kernel_rfl)) (fun _ _ _ h => h) (Or.inl ⟨by rfl, ?_⟩) ?_ ?_
      rotate_left
      · intro w'; go_simp; with_reducible rfl
      rotate_left
      · simp only [Act.put, nS, i64_w, i32_w]; rfl
      refine take_ (i := 4) (N := some 54) (v := ?_) (a' := ?_) #[Y_, Y_, Y_, Y_, Y_, Z_, Z_, Z_, Z_, Z_, Z_, Z_] rfl rfl (take_ofW HT_.out HW_.out (by kernel_rfl)) (fun _ _ _ h => h) (Or.inl ⟨by rfl, ?_⟩) hHeld ?_ ?_
      rotate_left
      · rintro w' hr0_
        go_simp
        with_reducible rfl
      rotate_left
      · simp only [Act.put, nS, i64_w, i32_w]; rfl
      refine pure_ (i := 5) (N := some 55) (v := ?_) (a' := ?_) #[Y_, Y_, Y_, Y_, Y_, Y_, Z_, Z_, Z_, Z_, Z_, Z_] rfl rfl (any_of HT_.out (by kernel_rfl)) (fun _ _ _ h => h) (Or.inl ⟨by rfl, ?_⟩) ?_ ?_
      rotate_left
      · intro w'; go_simp; with_reducible rfl
      rotate_left
      · simp only [Act.put, nS, i64_w, i32_w]; rfl
      refine pure_ (i := 7) (N := some 57) (v := ?_) (a' := ?_) #[Y_, Y_, Y_, Y_, Y_, Y_, Z_, Y_, Z_, Z_, Z_, Z_] rfl rfl (any_of HT_.out (by kernel_rfl)) (fun _ _ _ h => h) (Or.inl ⟨by rfl, ?_⟩) ?_ ?_
      rotate_left
      · intro w'; go_simp; with_reducible rfl
      rotate_left
      · simp only [Act.put, nS, i64_w, i32_w]; rfl
      refine one_ (i := 6) (N := some 56) #[Y_, Y_, Y_, Y_, Y_, Y_, Y_, Y_, Z_, Z_, Z_, Z_] rfl rfl (one_of HT_.out (by kernel_rfl)) (by decide) (fun K hK => ?_)
      refine goes_ Tryd.func14 (by kernel_rfl) rfl #[.slice (some ⟨g2, 0, none⟩) 4 4, .int .u8 c1] (by rfl) rfl rfl (by (try simp only [List.map_toArray, List.map_cons, List.map_nil]); first | done | rfl) ?_
      refine (place_at thingsN (by decide) _ _ _ HP.out.k2 c1 tt f4).mono ?_
      rintro e w1 ⟨rfl, hb⟩
      refine ⟨_, rfl, ?_⟩
      have n0_ := Aside0.mk (PW.step HP.out hb)
      clear HP
      have HP := n0_
      clear n0_
      clear hb
      refine hK.out _ _ (HP.out.row 0 p0 e0) (fun hHeld => ?_)
      clear hK K
      refine norm_ (a' := ?_) ?_ ?_
      rotate_left
      · show Act.put _ (some 56) _ = _
        simp only [Act.put, nS, i64_w, i32_w]
        rfl
      refine one_ (i := 8) (N := none) #[Y_, Y_, Y_, Y_, Y_, Y_, Y_, Y_, Y_, Z_, Z_, Z_] rfl rfl (one_of HT_.out (by kernel_rfl)) (by decide) (fun K hK => ?_)
      have hcz := blk_cell HP.out.k3 1
      have hfz := blk_frozen HP.out.k3 1
      refine skip_ (w1 := ?_) (by rfl) rfl ?_ ?_
      rotate_left
      · go_simp
        rfl
      clear hcz hfz
      have n0_ := Aside0.mk (PW.put HP.out 1 (.string pp) (sP kk pp ⟨#[]⟩ ⟨#[]⟩ 0 dd) rfl)
      clear HP
      have HP := n0_
      clear n0_
      refine hK.out _ _ (HP.out.row 0 p0 e0) (fun hHeld => ?_)
      clear hK K
      refine pure_ (i := 9) (N := some 58) (v := ?_) (a' := ?_) #[Y_, Y_, Y_, Y_, Y_, Y_, Y_, Y_, Y_, Y_, Z_, Z_] rfl rfl (any_of HT_.out (by kernel_rfl)) (fun _ _ _ h => h) (Or.inl ⟨by rfl, ?_⟩) ?_ ?_
      rotate_left
      · intro w'; go_simp; with_reducible rfl
      rotate_left
      · simp only [Act.put, nS, i64_w, i32_w]; rfl
      refine pure_ (i := 10) (N := some 59) (v := ?_) (a' := ?_) #[Y_, Y_, Y_, Y_, Y_, Y_, Y_, Y_, Y_, Y_, Y_, Z_] rfl rfl (any_of HT_.out (by kernel_rfl)) (fun _ _ _ h => h) (Or.inl ⟨by rfl, ?_⟩) ?_ ?_
      rotate_left
      · intro w'; go_simp; with_reducible rfl
      rotate_left
      · simp only [Act.put, nS, i64_w, i32_w]; rfl
      refine one_ (i := 11) (N := none) #[Y_, Y_, Y_, Y_, Y_, Y_, Y_, Y_, Y_, Y_, Y_, Y_] rfl rfl (one_of HT_.out (by kernel_rfl)) (by decide) (fun K hK => ?_)
      have hcz := blk_cell HP.out.k3 4
      have hfz := blk_frozen HP.out.k3 4
      refine skip_ (w1 := ?_) (by rfl) rfl ?_ ?_
      rotate_left
      · go_simp
        rfl
      clear hcz hfz
      have n0_ := Aside0.mk (PW.put HP.out 4 (.int .i64 tt) (sP kk pp ⟨#[]⟩ ⟨#[]⟩ tt dd) rfl)
      clear HP
      have HP := n0_
      clear n0_
      refine hK.out _ _ (HP.out.row 0 p0 e0) (fun hHeld => ?_)
      clear hK K
      refine done_ (done_of HT_.out (by kernel_rfl)) ?_
      cases ok with
      | false =>
        rw [if_neg (fun h => absurd h.1 (by decide))] at f5
        obtain ⟨hqq, rfl⟩ := f5
        have n0_ := Aside0.mk (show PW w _ g l g1 g2 g3 (sP kk pp qq ⟨#[]⟩ tt dd) from by rw [hqq]; exact HP.out)
        clear HP hqq
        have HP := n0_
        clear n0_
        go_wp2_with (first | ((with_reducible refine gate_dst (N := 75) rfl ?_); refine wpList_load_row rfl 28 (.tmp 7) rfl g3 rfl 28 _ (0, 0) _ HP.out.k3 hu1 rfl (by kernel_rfl) ?_) | (go_at_call 10; (with_reducible refine (hln _).mono ?_); rintro e w9 ⟨rfl, hb⟩; have n0_ := Aside0.mk (PW.step HP.out hb); clear HP hb; have HP := n0_; clear n0_; have hk1 := blk_cell HP.out.k3 1; have hk4 := blk_cell HP.out.k3 4; change _ = some (Value.string pp) at hk1; change _ = some (Value.int .i64 tt) at hk4) | ((with_reducible refine gate_store (t := 28) (p := 2) rfl ?_); refine wpList_store_rowTo rfl 28 (.tmp 2) (.tmp 90) rfl rfl w.heap.size zS rfl rfl 28 zS HP.out.res (by kernel_rfl) rfl (sP_one _ _ _ _ _ _) ?_))
        refine bodyPost_ret (results_ct rfl _ _ w.heap.size 28 zS (0, 0) _ rfl (setRow_heap _ _ zS _ 28 (0, 0) HP.out.res) hu1 rfl (by kernel_rfl)) rfl ?_
        exact ⟨by rw [hres.out, if_neg (fun h => absurd h.1 (by decide))]; rfl, below_setRow HP.out.below (Nat.le_refl _) _⟩
      | true =>
        by_cases hl4 : l.length = 4
        · rw [if_pos ⟨rfl, hl4⟩] at f5
          have hx3 := HP.out.row 3 p3 (e3 hl4)
          have e4 : ((l.length : Int) == 4) = true := beq_iff_eq.2 (by omega)
          have e5 : ((3 : Int) < (l.length : Int)) = True := eq_true (by omega)
          have e6 : (3 < l.length) = True := eq_true (by omega)
          cases ok2 with
          | false =>
            go_wp2_with (first | (go_at_call 16; (with_reducible refine (item_unword.calls 20000 p3 qq _ _ f5).mono ?_); rintro e w7 ⟨rfl, hb⟩; have n0_ := Aside0.mk (PW.step HP.out hb); clear HP hb; have HP := n0_; clear n0_; have hcz2 := blk_cell HP.out.k3 2; have hfz2 := blk_frozen HP.out.k3 2; change _ = some (Value.string _) at hcz2) | ((with_reducible refine gate_dst (N := 75) rfl ?_); refine wpList_load_row rfl 28 (.tmp 7) rfl g3 rfl 28 _ (0, 0) _ (PW.put HP.out 2 (.string qq) (sP kk pp qq ⟨#[]⟩ tt dd) rfl).k3 hu1 rfl (by kernel_rfl) ?_) | (go_at_call 10; (with_reducible refine (hln _).mono ?_); rintro e w9 ⟨rfl, hb⟩; have n0_ := Aside0.mk (PW.step (PW.put HP.out 2 (.string qq) (sP kk pp qq ⟨#[]⟩ tt dd) rfl) hb); clear HP hb; have HP := n0_; clear n0_; have hk1 := blk_cell HP.out.k3 1; have hk4 := blk_cell HP.out.k3 4; change _ = some (Value.string pp) at hk1; change _ = some (Value.int .i64 tt) at hk4) | ((with_reducible refine gate_store (t := 28) (p := 2) rfl ?_); refine wpList_store_rowTo rfl 28 (.tmp 2) (.tmp 90) rfl rfl w.heap.size zS rfl rfl 28 zS HP.out.res (by kernel_rfl) rfl (sP_one _ _ _ _ _ _) ?_))
            refine bodyPost_ret (results_ct rfl _ _ w.heap.size 28 zS (0, 0) _ rfl (setRow_heap _ _ zS _ 28 (0, 0) HP.out.res) hu1 rfl (by kernel_rfl)) rfl ?_
            exact ⟨by rw [hres.out, if_neg (fun h => absurd h.1 (by decide))]; rfl, below_setRow HP.out.below (Nat.le_refl _) _⟩
          | true =>
            by_cases he : er = 0
            · subst he
              by_cases ha : again = a0
              · subst ha
                have q1 : (again.toList == again.toList) = true := beq_self_eq_true _
                by_cases ht : tt > 0
                · have ht1 : (0 < tt) = True := eq_true ht
                  go_wp2_with (first | (go_at_call 16; (with_reducible refine (item_unword.calls 20000 p3 qq _ _ f5).mono ?_); rintro e w7 ⟨rfl, hb⟩; have n0_ := Aside0.mk (PW.step HP.out hb); clear HP hb; have HP := n0_; clear n0_; have hcz2 := blk_cell HP.out.k3 2; have hfz2 := blk_frozen HP.out.k3 2; change _ = some (Value.string _) at hcz2) | ((with_reducible refine gate_dst (N := 75) rfl ?_); refine wpList_load_row rfl 28 (.tmp 7) rfl g3 rfl 28 _ (0, 0) _ (PW.put HP.out 2 (.string qq) (sP kk pp qq ⟨#[]⟩ tt dd) rfl).k3 hu1 rfl (by kernel_rfl) ?_) | (go_at_call 10; (with_reducible refine (hln _).mono ?_); rintro e w9 ⟨rfl, hb⟩; have n0_ := Aside0.mk (PW.step (PW.put HP.out 2 (.string qq) (sP kk pp qq ⟨#[]⟩ tt dd) rfl) hb); clear HP hb; have HP := n0_; clear n0_; have hk1 := blk_cell HP.out.k3 1; have hk4 := blk_cell HP.out.k3 4; change _ = some (Value.string pp) at hk1; change _ = some (Value.int .i64 tt) at hk4; have hcz3 := blk_cell HP.out.k3 3; have hfz3 := blk_frozen HP.out.k3 3; change _ = some (Value.string _) at hcz3) | ((with_reducible refine gate_dst (N := 99) rfl ?_); refine wpList_load_row rfl 28 (.tmp 7) rfl g3 rfl 28 _ (0, 0) _ (PW.put HP.out 3 (.string pp) (sP kk pp qq pp tt dd) rfl).k3 hu1 rfl (by kernel_rfl) ?_) | ((with_reducible refine gate_store (t := 28) (p := 2) rfl ?_); refine wpList_store_rowTo rfl 28 (.tmp 2) (.tmp 99) rfl rfl w.heap.size (sP kk pp qq pp tt dd) rfl rfl 28 zS (PW.put HP.out 3 (.string pp) (sP kk pp qq pp tt dd) rfl).res (by kernel_rfl) rfl (sP_one _ _ _ _ _ _) ?_))
                  refine bodyPost_ret (results_ct rfl _ _ w.heap.size 28 (sP kk pp qq pp tt dd) (0, 0) _ rfl (setRow_heap _ _ zS _ 28 (0, 0) (PW.put HP.out 3 (.string pp) (sP kk pp qq pp tt dd) rfl).res) hu1 rfl (by kernel_rfl)) rfl ?_
                  exact ⟨by rw [hres.out]; simp [ht1], below_setRow (PW.put HP.out 3 (.string pp) (sP kk pp qq pp tt dd) rfl).below (Nat.le_refl _) _⟩
                · have ht1 : (0 < tt) = False := eq_false ht
                  go_wp2_with (first | (go_at_call 16; (with_reducible refine (item_unword.calls 20000 p3 qq _ _ f5).mono ?_); rintro e w7 ⟨rfl, hb⟩; have n0_ := Aside0.mk (PW.step HP.out hb); clear HP hb; have HP := n0_; clear n0_; have hcz2 := blk_cell HP.out.k3 2; have hfz2 := blk_frozen HP.out.k3 2; change _ = some (Value.string _) at hcz2) | ((with_reducible refine gate_dst (N := 75) rfl ?_); refine wpList_load_row rfl 28 (.tmp 7) rfl g3 rfl 28 _ (0, 0) _ (PW.put HP.out 2 (.string qq) (sP kk pp qq ⟨#[]⟩ tt dd) rfl).k3 hu1 rfl (by kernel_rfl) ?_) | (go_at_call 10; (with_reducible refine (hln _).mono ?_); rintro e w9 ⟨rfl, hb⟩; have n0_ := Aside0.mk (PW.step (PW.put HP.out 2 (.string qq) (sP kk pp qq ⟨#[]⟩ tt dd) rfl) hb); clear HP hb; have HP := n0_; clear n0_; have hk1 := blk_cell HP.out.k3 1; have hk4 := blk_cell HP.out.k3 4; change _ = some (Value.string pp) at hk1; change _ = some (Value.int .i64 tt) at hk4) | ((with_reducible refine gate_dst (N := 99) rfl ?_); refine wpList_load_row rfl 28 (.tmp 7) rfl g3 rfl 28 _ (0, 0) _ HP.out.k3 hu1 rfl (by kernel_rfl) ?_) | ((with_reducible refine gate_store (t := 28) (p := 2) rfl ?_); refine wpList_store_rowTo rfl 28 (.tmp 2) (.tmp 99) rfl rfl w.heap.size (sP kk pp qq ⟨#[]⟩ tt dd) rfl rfl 28 zS HP.out.res (by kernel_rfl) rfl (sP_one _ _ _ _ _ _) ?_))
                  refine bodyPost_ret (results_ct rfl _ _ w.heap.size 28 (sP kk pp qq ⟨#[]⟩ tt dd) (0, 0) _ rfl (setRow_heap _ _ zS _ 28 (0, 0) HP.out.res) hu1 rfl (by kernel_rfl)) rfl ?_
                  exact ⟨by rw [hres.out]; simp [ht1], below_setRow HP.out.below (Nat.le_refl _) _⟩
              · have q1 : (again.toList == a0.toList) = false := beq_eq_false_iff_ne.2 (fun e => ha (ByteArray.ext (Array.toList_inj.1 (by rwa [ByteArray.toList_eq, ByteArray.toList_eq] at e))))
                go_wp2_with (first | (go_at_call 16; (with_reducible refine (item_unword.calls 20000 p3 qq _ _ f5).mono ?_); rintro e w7 ⟨rfl, hb⟩; have n0_ := Aside0.mk (PW.step HP.out hb); clear HP hb; have HP := n0_; clear n0_; have hcz2 := blk_cell HP.out.k3 2; have hfz2 := blk_frozen HP.out.k3 2; change _ = some (Value.string _) at hcz2) | ((with_reducible refine gate_dst (N := 75) rfl ?_); refine wpList_load_row rfl 28 (.tmp 7) rfl g3 rfl 28 _ (0, 0) _ (PW.put HP.out 2 (.string qq) (sP kk pp qq ⟨#[]⟩ tt dd) rfl).k3 hu1 rfl (by kernel_rfl) ?_) | (go_at_call 10; (with_reducible refine (hln _).mono ?_); rintro e w9 ⟨rfl, hb⟩; have n0_ := Aside0.mk (PW.step (PW.put HP.out 2 (.string qq) (sP kk pp qq ⟨#[]⟩ tt dd) rfl) hb); clear HP hb; have HP := n0_; clear n0_; have hk1 := blk_cell HP.out.k3 1; have hk4 := blk_cell HP.out.k3 4; change _ = some (Value.string pp) at hk1; change _ = some (Value.int .i64 tt) at hk4) | ((with_reducible refine gate_store (t := 28) (p := 2) rfl ?_); refine wpList_store_rowTo rfl 28 (.tmp 2) (.tmp 90) rfl rfl w.heap.size zS rfl rfl 28 zS HP.out.res (by kernel_rfl) rfl (sP_one _ _ _ _ _ _) ?_))
                refine bodyPost_ret (results_ct rfl _ _ w.heap.size 28 zS (0, 0) _ rfl (setRow_heap _ _ zS _ 28 (0, 0) HP.out.res) hu1 rfl (by kernel_rfl)) rfl ?_
                exact ⟨by rw [hres.out, if_neg (fun h => ha h.2.2)]; rfl, below_setRow HP.out.below (Nat.le_refl _) _⟩
            · have q2 : (er != 0) = true := bne_iff_ne.2 he
              go_wp2_with (first | (go_at_call 16; (with_reducible refine (item_unword.calls 20000 p3 qq _ _ f5).mono ?_); rintro e w7 ⟨rfl, hb⟩; have n0_ := Aside0.mk (PW.step HP.out hb); clear HP hb; have HP := n0_; clear n0_; have hcz2 := blk_cell HP.out.k3 2; have hfz2 := blk_frozen HP.out.k3 2; change _ = some (Value.string _) at hcz2) | ((with_reducible refine gate_dst (N := 75) rfl ?_); refine wpList_load_row rfl 28 (.tmp 7) rfl g3 rfl 28 _ (0, 0) _ (PW.put HP.out 2 (.string qq) (sP kk pp qq ⟨#[]⟩ tt dd) rfl).k3 hu1 rfl (by kernel_rfl) ?_) | (go_at_call 10; (with_reducible refine (hln _).mono ?_); rintro e w9 ⟨rfl, hb⟩; have n0_ := Aside0.mk (PW.step (PW.put HP.out 2 (.string qq) (sP kk pp qq ⟨#[]⟩ tt dd) rfl) hb); clear HP hb; have HP := n0_; clear n0_; have hk1 := blk_cell HP.out.k3 1; have hk4 := blk_cell HP.out.k3 4; change _ = some (Value.string pp) at hk1; change _ = some (Value.int .i64 tt) at hk4) | ((with_reducible refine gate_store (t := 28) (p := 2) rfl ?_); refine wpList_store_rowTo rfl 28 (.tmp 2) (.tmp 90) rfl rfl w.heap.size zS rfl rfl 28 zS HP.out.res (by kernel_rfl) rfl (sP_one _ _ _ _ _ _) ?_))
              refine bodyPost_ret (results_ct rfl _ _ w.heap.size 28 zS (0, 0) _ rfl (setRow_heap _ _ zS _ 28 (0, 0) HP.out.res) hu1 rfl (by kernel_rfl)) rfl ?_
              exact ⟨by rw [hres.out, if_neg (fun h => he h.2.1)]; rfl, below_setRow HP.out.below (Nat.le_refl _) _⟩
        · rw [if_neg (fun h => hl4 h.2)] at f5
          obtain ⟨hqq, rfl⟩ := f5
          have n0_ := Aside0.mk (show PW w _ g l g1 g2 g3 (sP kk pp qq ⟨#[]⟩ tt dd) from by rw [hqq]; exact HP.out)
          clear HP hqq
          have HP := n0_
          clear n0_
          have e4 : ((l.length : Int) == 4) = false := beq_eq_false_iff_ne.2 (by omega)
          by_cases he : er = 0
          · subst he
            by_cases ha : again = a0
            · subst ha
              have q1 : (again.toList == again.toList) = true := beq_self_eq_true _
              by_cases ht : tt > 0
              · have ht1 : (0 < tt) = True := eq_true ht
                go_wp2_with (first | ((with_reducible refine gate_dst (N := 75) rfl ?_); refine wpList_load_row rfl 28 (.tmp 7) rfl g3 rfl 28 _ (0, 0) _ HP.out.k3 hu1 rfl (by kernel_rfl) ?_) | (go_at_call 10; (with_reducible refine (hln _).mono ?_); rintro e w9 ⟨rfl, hb⟩; have n0_ := Aside0.mk (PW.step HP.out hb); clear HP hb; have HP := n0_; clear n0_; have hk1 := blk_cell HP.out.k3 1; have hk4 := blk_cell HP.out.k3 4; change _ = some (Value.string pp) at hk1; change _ = some (Value.int .i64 tt) at hk4; have hcz3 := blk_cell HP.out.k3 3; have hfz3 := blk_frozen HP.out.k3 3; change _ = some (Value.string _) at hcz3) | ((with_reducible refine gate_dst (N := 99) rfl ?_); refine wpList_load_row rfl 28 (.tmp 7) rfl g3 rfl 28 _ (0, 0) _ (PW.put HP.out 3 (.string pp) (sP kk pp qq pp tt dd) rfl).k3 hu1 rfl (by kernel_rfl) ?_) | ((with_reducible refine gate_store (t := 28) (p := 2) rfl ?_); refine wpList_store_rowTo rfl 28 (.tmp 2) (.tmp 99) rfl rfl w.heap.size (sP kk pp qq pp tt dd) rfl rfl 28 zS (PW.put HP.out 3 (.string pp) (sP kk pp qq pp tt dd) rfl).res (by kernel_rfl) rfl (sP_one _ _ _ _ _ _) ?_))
                refine bodyPost_ret (results_ct rfl _ _ w.heap.size 28 (sP kk pp qq pp tt dd) (0, 0) _ rfl (setRow_heap _ _ zS _ 28 (0, 0) (PW.put HP.out 3 (.string pp) (sP kk pp qq pp tt dd) rfl).res) hu1 rfl (by kernel_rfl)) rfl ?_
                exact ⟨by rw [hres.out]; simp [ht1], below_setRow (PW.put HP.out 3 (.string pp) (sP kk pp qq pp tt dd) rfl).below (Nat.le_refl _) _⟩
              · have ht1 : (0 < tt) = False := eq_false ht
                go_wp2_with (first | ((with_reducible refine gate_dst (N := 75) rfl ?_); refine wpList_load_row rfl 28 (.tmp 7) rfl g3 rfl 28 _ (0, 0) _ HP.out.k3 hu1 rfl (by kernel_rfl) ?_) | (go_at_call 10; (with_reducible refine (hln _).mono ?_); rintro e w9 ⟨rfl, hb⟩; have n0_ := Aside0.mk (PW.step HP.out hb); clear HP hb; have HP := n0_; clear n0_; have hk1 := blk_cell HP.out.k3 1; have hk4 := blk_cell HP.out.k3 4; change _ = some (Value.string pp) at hk1; change _ = some (Value.int .i64 tt) at hk4) | ((with_reducible refine gate_dst (N := 99) rfl ?_); refine wpList_load_row rfl 28 (.tmp 7) rfl g3 rfl 28 _ (0, 0) _ HP.out.k3 hu1 rfl (by kernel_rfl) ?_) | ((with_reducible refine gate_store (t := 28) (p := 2) rfl ?_); refine wpList_store_rowTo rfl 28 (.tmp 2) (.tmp 99) rfl rfl w.heap.size (sP kk pp qq ⟨#[]⟩ tt dd) rfl rfl 28 zS HP.out.res (by kernel_rfl) rfl (sP_one _ _ _ _ _ _) ?_))
                refine bodyPost_ret (results_ct rfl _ _ w.heap.size 28 (sP kk pp qq ⟨#[]⟩ tt dd) (0, 0) _ rfl (setRow_heap _ _ zS _ 28 (0, 0) HP.out.res) hu1 rfl (by kernel_rfl)) rfl ?_
                exact ⟨by rw [hres.out]; simp [ht1], below_setRow HP.out.below (Nat.le_refl _) _⟩
            · have q1 : (again.toList == a0.toList) = false := beq_eq_false_iff_ne.2 (fun e => ha (ByteArray.ext (Array.toList_inj.1 (by rwa [ByteArray.toList_eq, ByteArray.toList_eq] at e))))
              go_wp2_with (first | ((with_reducible refine gate_dst (N := 75) rfl ?_); refine wpList_load_row rfl 28 (.tmp 7) rfl g3 rfl 28 _ (0, 0) _ HP.out.k3 hu1 rfl (by kernel_rfl) ?_) | (go_at_call 10; (with_reducible refine (hln _).mono ?_); rintro e w9 ⟨rfl, hb⟩; have n0_ := Aside0.mk (PW.step HP.out hb); clear HP hb; have HP := n0_; clear n0_; have hk1 := blk_cell HP.out.k3 1; have hk4 := blk_cell HP.out.k3 4; change _ = some (Value.string pp) at hk1; change _ = some (Value.int .i64 tt) at hk4) | ((with_reducible refine gate_store (t := 28) (p := 2) rfl ?_); refine wpList_store_rowTo rfl 28 (.tmp 2) (.tmp 90) rfl rfl w.heap.size zS rfl rfl 28 zS HP.out.res (by kernel_rfl) rfl (sP_one _ _ _ _ _ _) ?_))
              refine bodyPost_ret (results_ct rfl _ _ w.heap.size 28 zS (0, 0) _ rfl (setRow_heap _ _ zS _ 28 (0, 0) HP.out.res) hu1 rfl (by kernel_rfl)) rfl ?_
              exact ⟨by rw [hres.out, if_neg (fun h => ha h.2.2)]; rfl, below_setRow HP.out.below (Nat.le_refl _) _⟩
          · have q2 : (er != 0) = true := bne_iff_ne.2 he
            go_wp2_with (first | ((with_reducible refine gate_dst (N := 75) rfl ?_); refine wpList_load_row rfl 28 (.tmp 7) rfl g3 rfl 28 _ (0, 0) _ HP.out.k3 hu1 rfl (by kernel_rfl) ?_) | (go_at_call 10; (with_reducible refine (hln _).mono ?_); rintro e w9 ⟨rfl, hb⟩; have n0_ := Aside0.mk (PW.step HP.out hb); clear HP hb; have HP := n0_; clear n0_; have hk1 := blk_cell HP.out.k3 1; have hk4 := blk_cell HP.out.k3 4; change _ = some (Value.string pp) at hk1; change _ = some (Value.int .i64 tt) at hk4) | ((with_reducible refine gate_store (t := 28) (p := 2) rfl ?_); refine wpList_store_rowTo rfl 28 (.tmp 2) (.tmp 90) rfl rfl w.heap.size zS rfl rfl 28 zS HP.out.res (by kernel_rfl) rfl (sP_one _ _ _ _ _ _) ?_))
            refine bodyPost_ret (results_ct rfl _ _ w.heap.size 28 zS (0, 0) _ rfl (setRow_heap _ _ zS _ 28 (0, 0) HP.out.res) hu1 rfl (by kernel_rfl)) rfl ?_
            exact ⟨by rw [hres.out, if_neg (fun h => he h.2.1)]; rfl, below_setRow HP.out.below (Nat.le_refl _) _⟩
  · refine box_step (by rfl) (N := 7) rfl (cs := zS) (t := 28) ?hr ?_
    case hr => first | (go_simp; done) | (go_simp; rfl)
    intro g3 hg w5 hbox hb
    have n0_ := Aside0.mk (PV.boxed HP.out hg hbox hb)
    clear HP hg hbox hb
    have HP := n0_
    clear n0_
    refine hK.out _ _ ⟨HP.out.row 0 p0 e0, HP.out.row 1 p1 e1⟩ (fun hHeld => ?_)
    clear hK K
    refine norm_ (a' := ?_) ?_ ?_
    rotate_left
    · show Act.put _ (some 7) _ = _
      simp only [Act.put, nS, i64_w, i32_w]
      rfl
    refine one_ (i := 5) (N := some 37) #[Y_, Y_, Y_, Y_, Y_, Y_, Y_, Y_, Y_, Z_, Z_, Y_, Z_] rfl rfl (one_of HT_.out (by kernel_rfl)) (by decide) (fun K hK => ?_)
    refine goes_ Tryd.func14 (by kernel_rfl) rfl #[.slice (some ⟨g1, 0, none⟩) 8 8, .int .u8 c0] (by rfl) rfl rfl (by (try simp only [List.map_toArray, List.map_cons, List.map_nil]); first | done | rfl) ?_
    refine (place_at kindsN (by decide) _ _ _ HP.out.k1 c0 kk f1).mono ?_
    rintro e w1 ⟨rfl, hb⟩
    refine ⟨_, rfl, ?_⟩
    have n0_ := Aside0.mk (PW.step HP.out hb)
    clear HP
    have HP := n0_
    clear n0_
    clear hb
    refine hK.out _ _ ⟨HP.out.row 0 p0 e0, HP.out.row 1 p1 e1⟩ (fun hHeld => ?_)
    clear hK K
    refine norm_ (a' := ?_) ?_ ?_
    rotate_left
    · show Act.put _ (some 37) _ = _
      simp only [Act.put, nS, i64_w, i32_w]
      rfl
    refine one_ (i := 9) (N := some 41) #[Y_, Y_, Y_, Y_, Y_, Y_, Y_, Y_, Y_, Y_, Z_, Y_, Z_] rfl rfl (one_of HT_.out (by kernel_rfl)) (by decide) (fun K hK => ?_)
    refine goes_ Tryd.func15 (by kernel_rfl) rfl #[.string p1] (by rfl) rfl rfl (by (try simp only [List.map_toArray, List.map_cons, List.map_nil]); first | done | rfl) ?_
    refine (item_diff.calls 20 p1 dd _ f2).mono ?_
    rintro e w1 ⟨rfl, hb⟩
    refine ⟨_, rfl, ?_⟩
    have n0_ := Aside0.mk (PW.step HP.out hb)
    clear HP
    have HP := n0_
    clear n0_
    clear hb
    refine hK.out _ _ ⟨HP.out.row 0 p0 e0, HP.out.row 1 p1 e1⟩ (fun hHeld => ?_)
    clear hK K
    refine norm_ (a' := ?_) ?_ ?_
    rotate_left
    · show Act.put _ (some 41) _ = _
      simp only [Act.put, nS, i64_w, i32_w]
      rfl
    refine pure_ (i := 10) (N := some 42) (v := ?_) (a' := ?_) #[Y_, Y_, Y_, Y_, Y_, Y_, Y_, Y_, Y_, Y_, Y_, Y_, Z_] rfl rfl (any_of HT_.out (by kernel_rfl)) (fun _ _ _ h => h) (Or.inl ⟨by rfl, ?_⟩) ?_ ?_
    rotate_left
    · intro w'; go_simp; with_reducible rfl
    rotate_left
    · simp only [Act.put, nS, i64_w, i32_w]; rfl
    refine one_ (i := 12) (N := none) #[Y_, Y_, Y_, Y_, Y_, Y_, Y_, Y_, Y_, Y_, Y_, Y_, Y_] rfl rfl (one_of HT_.out (by kernel_rfl)) (by decide) (fun K hK => ?_)
    refine skip_ (by rfl) rfl (store_run _ _ 28 zS (sP kk ⟨#[]⟩ ⟨#[]⟩ ⟨#[]⟩ 0 dd) HP.out.k3 (.tmp 7) (.tmp 42) rfl rfl rfl (by kernel_rfl) rfl (sP_one _ _ _ _ _ _)) ?_
    have n0_ := Aside0.mk (PW.row_ HP.out (sP kk ⟨#[]⟩ ⟨#[]⟩ ⟨#[]⟩ 0 dd))
    clear HP
    have HP := n0_
    clear n0_
    refine hK.out _ _ ⟨HP.out.row 0 p0 e0, HP.out.row 1 p1 e1⟩ (fun hHeld => ?_)
    clear hK K
    refine done_ (done_of HT_.out (by kernel_rfl)) ?_
    have hx2 := HP.out.row 2 p2 e2
    go_wp2_with (first | (go_at_call 16; (with_reducible refine (item_unword.calls 20000 p2 pp ok _ f3).mono ?_); rintro e w6 ⟨rfl, hb⟩; have n0_ := Aside0.mk (PW.step HP.out hb); clear HP hb; have HP := n0_; clear n0_))
    try clear hx2
    have n0_ := Aside0.mk (PW.step HP.out (below_drew1 (Below.refl _ _)))
    clear HP
    have HP := n0_
    clear n0_
    refine start_ (n := 12) (S := fun w' => w'.cell? ⟨g, 0, none⟩ = some (.string p0)) (ds := []) #[Z_, Z_, Z_, Z_, Z_, Z_, Z_, Z_, Z_, Z_, Z_, Z_] (by kernel_rfl) rfl rfl (HP.out.row 0 p0 e0) (fun hHeld => ?_)
    refine with_tabW item_Parse_h.tab7 item_Parse_h.bits7 (fun HT_ HW_ => ?_)
    refine pure_ (i := 0) (N := some 50) (v := ?_) (a' := ?_) #[Y_, Z_, Z_, Z_, Z_, Z_, Z_, Z_, Z_, Z_, Z_, Z_] rfl rfl (any_of HT_.out (by kernel_rfl)) (fun _ _ _ h => h) (Or.inl ⟨by rfl, ?_⟩) ?_ ?_
    rotate_left
    · intro w'; go_simp; with_reducible rfl
    rotate_left
    · simp only [Act.put, nS, i64_w, i32_w]; rfl
    refine pure_ (i := 1) (N := some 51) (v := ?_) (a' := ?_) #[Y_, Y_, Z_, Z_, Z_, Z_, Z_, Z_, Z_, Z_, Z_, Z_] rfl rfl (any_of HT_.out (by kernel_rfl)) (fun _ _ _ h => h) (Or.inl ⟨by rfl, ?_⟩) ?_ ?_
    rotate_left
    · intro w'; go_simp; with_reducible rfl
    rotate_left
    · simp only [Act.put, nS, i64_w, i32_w]; rfl
    refine pure_ (i := 2) (N := some 52) (v := ?_) (a' := ?_) #[Y_, Y_, Y_, Z_, Z_, Z_, Z_, Z_, Z_, Z_, Z_, Z_] rfl rfl (any_of HT_.out (by kernel_rfl)) (fun _ _ _ h => h) (Or.inl ⟨by rfl, ?_⟩) ?_ ?_
    rotate_left
    · intro w'; go_simp; with_reducible rfl
    rotate_left
    · simp only [Act.put, nS, i64_w, i32_w]; rfl
    refine pure_ (i := 3) (N := some 53) (v := ?_) (a' := ?_) #[Y_, Y_, Y_, Y_, Z_, Z_, Z_, Z_, Z_, Z_, Z_, Z_] rfl rfl (any_of HT_.out (by kernel_rfl)) (fun _ _ _ h => h) (Or.inl ⟨by rfl, ?_⟩) ?_ ?_
    rotate_left
    · intro w'; go_simp; with_reducible rfl
    rotate_left
    · simp only [Act.put, nS, i64_w, i32_w]; rfl
    refine take_ (i := 4) (N := some 54) (v := ?_) (a' := ?_) #[Y_, Y_, Y_, Y_, Y_, Z_, Z_, Z_, Z_, Z_, Z_, Z_] rfl rfl (take_ofW HT_.out HW_.out (by kernel_rfl)) (fun _ _ _ h => h) (Or.inl ⟨by rfl, ?_⟩) hHeld ?_ ?_
    rotate_left
    · rintro w' hr0_
      go_simp
      with_reducible rfl
    rotate_left
    · simp only [Act.put, nS, i64_w, i32_w]; rfl
    refine pure_ (i := 5) (N := some 55) (v := ?_) (a' := ?_) #[Y_, Y_, Y_, Y_, Y_, Y_, Z_, Z_, Z_, Z_, Z_, Z_] rfl rfl (any_of HT_.out (by kernel_rfl)) (fun _ _ _ h => h) (Or.inl ⟨by rfl, ?_⟩) ?_ ?_
    rotate_left
    · intro w'; go_simp; with_reducible rfl
    rotate_left
    · simp only [Act.put, nS, i64_w, i32_w]; rfl
    refine pure_ (i := 7) (N := some 57) (v := ?_) (a' := ?_) #[Y_, Y_, Y_, Y_, Y_, Y_, Z_, Y_, Z_, Z_, Z_, Z_] rfl rfl (any_of HT_.out (by kernel_rfl)) (fun _ _ _ h => h) (Or.inl ⟨by rfl, ?_⟩) ?_ ?_
    rotate_left
    · intro w'; go_simp; with_reducible rfl
    rotate_left
    · simp only [Act.put, nS, i64_w, i32_w]; rfl
    refine one_ (i := 6) (N := some 56) #[Y_, Y_, Y_, Y_, Y_, Y_, Y_, Y_, Z_, Z_, Z_, Z_] rfl rfl (one_of HT_.out (by kernel_rfl)) (by decide) (fun K hK => ?_)
    refine goes_ Tryd.func14 (by kernel_rfl) rfl #[.slice (some ⟨g2, 0, none⟩) 4 4, .int .u8 c1] (by rfl) rfl rfl (by (try simp only [List.map_toArray, List.map_cons, List.map_nil]); first | done | rfl) ?_
    refine (place_at thingsN (by decide) _ _ _ HP.out.k2 c1 tt f4).mono ?_
    rintro e w1 ⟨rfl, hb⟩
    refine ⟨_, rfl, ?_⟩
    have n0_ := Aside0.mk (PW.step HP.out hb)
    clear HP
    have HP := n0_
    clear n0_
    clear hb
    refine hK.out _ _ (HP.out.row 0 p0 e0) (fun hHeld => ?_)
    clear hK K
    refine norm_ (a' := ?_) ?_ ?_
    rotate_left
    · show Act.put _ (some 56) _ = _
      simp only [Act.put, nS, i64_w, i32_w]
      rfl
    refine one_ (i := 8) (N := none) #[Y_, Y_, Y_, Y_, Y_, Y_, Y_, Y_, Y_, Z_, Z_, Z_] rfl rfl (one_of HT_.out (by kernel_rfl)) (by decide) (fun K hK => ?_)
    have hcz := blk_cell HP.out.k3 1
    have hfz := blk_frozen HP.out.k3 1
    refine skip_ (w1 := ?_) (by rfl) rfl ?_ ?_
    rotate_left
    · go_simp
      rfl
    clear hcz hfz
    have n0_ := Aside0.mk (PW.put HP.out 1 (.string pp) (sP kk pp ⟨#[]⟩ ⟨#[]⟩ 0 dd) rfl)
    clear HP
    have HP := n0_
    clear n0_
    refine hK.out _ _ (HP.out.row 0 p0 e0) (fun hHeld => ?_)
    clear hK K
    refine pure_ (i := 9) (N := some 58) (v := ?_) (a' := ?_) #[Y_, Y_, Y_, Y_, Y_, Y_, Y_, Y_, Y_, Y_, Z_, Z_] rfl rfl (any_of HT_.out (by kernel_rfl)) (fun _ _ _ h => h) (Or.inl ⟨by rfl, ?_⟩) ?_ ?_
    rotate_left
    · intro w'; go_simp; with_reducible rfl
    rotate_left
    · simp only [Act.put, nS, i64_w, i32_w]; rfl
    refine pure_ (i := 10) (N := some 59) (v := ?_) (a' := ?_) #[Y_, Y_, Y_, Y_, Y_, Y_, Y_, Y_, Y_, Y_, Y_, Z_] rfl rfl (any_of HT_.out (by kernel_rfl)) (fun _ _ _ h => h) (Or.inl ⟨by rfl, ?_⟩) ?_ ?_
    rotate_left
    · intro w'; go_simp; with_reducible rfl
    rotate_left
    · simp only [Act.put, nS, i64_w, i32_w]; rfl
    refine one_ (i := 11) (N := none) #[Y_, Y_, Y_, Y_, Y_, Y_, Y_, Y_, Y_, Y_, Y_, Y_] rfl rfl (one_of HT_.out (by kernel_rfl)) (by decide) (fun K hK => ?_)
    have hcz := blk_cell HP.out.k3 4
    have hfz := blk_frozen HP.out.k3 4
    refine skip_ (w1 := ?_) (by rfl) rfl ?_ ?_
    rotate_left
    · go_simp
      rfl
    clear hcz hfz
    have n0_ := Aside0.mk (PW.put HP.out 4 (.int .i64 tt) (sP kk pp ⟨#[]⟩ ⟨#[]⟩ tt dd) rfl)
    clear HP
    have HP := n0_
    clear n0_
    refine hK.out _ _ (HP.out.row 0 p0 e0) (fun hHeld => ?_)
    clear hK K
    refine done_ (done_of HT_.out (by kernel_rfl)) ?_
    cases ok with
    | false =>
      rw [if_neg (fun h => absurd h.1 (by decide))] at f5
      obtain ⟨hqq, rfl⟩ := f5
      have n0_ := Aside0.mk (show PW w _ g l g1 g2 g3 (sP kk pp qq ⟨#[]⟩ tt dd) from by rw [hqq]; exact HP.out)
      clear HP hqq
      have HP := n0_
      clear n0_
      go_wp2_with (first | ((with_reducible refine gate_dst (N := 75) rfl ?_); refine wpList_load_row rfl 28 (.tmp 7) rfl g3 rfl 28 _ (0, 0) _ HP.out.k3 hu1 rfl (by kernel_rfl) ?_) | (go_at_call 10; (with_reducible refine (hln _).mono ?_); rintro e w9 ⟨rfl, hb⟩; have n0_ := Aside0.mk (PW.step HP.out hb); clear HP hb; have HP := n0_; clear n0_; have hk1 := blk_cell HP.out.k3 1; have hk4 := blk_cell HP.out.k3 4; change _ = some (Value.string pp) at hk1; change _ = some (Value.int .i64 tt) at hk4) | ((with_reducible refine gate_store (t := 28) (p := 2) rfl ?_); refine wpList_store_rowTo rfl 28 (.tmp 2) (.tmp 90) rfl rfl w.heap.size zS rfl rfl 28 zS HP.out.res (by kernel_rfl) rfl (sP_one _ _ _ _ _ _) ?_))
      refine bodyPost_ret (results_ct rfl _ _ w.heap.size 28 zS (0, 0) _ rfl (setRow_heap _ _ zS _ 28 (0, 0) HP.out.res) hu1 rfl (by kernel_rfl)) rfl ?_
      exact ⟨by rw [hres.out, if_neg (fun h => absurd h.1 (by decide))]; rfl, below_setRow HP.out.below (Nat.le_refl _) _⟩
    | true =>
      by_cases hl4 : l.length = 4
      · rw [if_pos ⟨rfl, hl4⟩] at f5
        have hx3 := HP.out.row 3 p3 (e3 hl4)
        have e4 : ((l.length : Int) == 4) = true := beq_iff_eq.2 (by omega)
        have e5 : ((3 : Int) < (l.length : Int)) = True := eq_true (by omega)
        have e6 : (3 < l.length) = True := eq_true (by omega)
        cases ok2 with
        | false =>
          go_wp2_with (first | (go_at_call 16; (with_reducible refine (item_unword.calls 20000 p3 qq _ _ f5).mono ?_); rintro e w7 ⟨rfl, hb⟩; have n0_ := Aside0.mk (PW.step HP.out hb); clear HP hb; have HP := n0_; clear n0_; have hcz2 := blk_cell HP.out.k3 2; have hfz2 := blk_frozen HP.out.k3 2; change _ = some (Value.string _) at hcz2) | ((with_reducible refine gate_dst (N := 75) rfl ?_); refine wpList_load_row rfl 28 (.tmp 7) rfl g3 rfl 28 _ (0, 0) _ (PW.put HP.out 2 (.string qq) (sP kk pp qq ⟨#[]⟩ tt dd) rfl).k3 hu1 rfl (by kernel_rfl) ?_) | (go_at_call 10; (with_reducible refine (hln _).mono ?_); rintro e w9 ⟨rfl, hb⟩; have n0_ := Aside0.mk (PW.step (PW.put HP.out 2 (.string qq) (sP kk pp qq ⟨#[]⟩ tt dd) rfl) hb); clear HP hb; have HP := n0_; clear n0_; have hk1 := blk_cell HP.out.k3 1; have hk4 := blk_cell HP.out.k3 4; change _ = some (Value.string pp) at hk1; change _ = some (Value.int .i64 tt) at hk4) | ((with_reducible refine gate_store (t := 28) (p := 2) rfl ?_); refine wpList_store_rowTo rfl 28 (.tmp 2) (.tmp 90) rfl rfl w.heap.size zS rfl rfl 28 zS HP.out.res (by kernel_rfl) rfl (sP_one _ _ _ _ _ _) ?_))
          refine bodyPost_ret (results_ct rfl _ _ w.heap.size 28 zS (0, 0) _ rfl (setRow_heap _ _ zS _ 28 (0, 0) HP.out.res) hu1 rfl (by kernel_rfl)) rfl ?_
          exact ⟨by rw [hres.out, if_neg (fun h => absurd h.1 (by decide))]; rfl, below_setRow HP.out.below (Nat.le_refl _) _⟩
        | true =>
          by_cases he : er = 0
          · subst he
            by_cases ha : again = a0
            · subst ha
              have q1 : (again.toList == again.toList) = true := beq_self_eq_true _
              by_cases ht : tt > 0
              · have ht1 : (0 < tt) = True := eq_true ht
                go_wp2_with (first | (go_at_call 16; (with_reducible refine (item_unword.calls 20000 p3 qq _ _ f5).mono ?_); rintro e w7 ⟨rfl, hb⟩; have n0_ := Aside0.mk (PW.step HP.out hb); clear HP hb; have HP := n0_; clear n0_; have hcz2 := blk_cell HP.out.k3 2; have hfz2 := blk_frozen HP.out.k3 2; change _ = some (Value.string _) at hcz2) | ((with_reducible refine gate_dst (N := 75) rfl ?_); refine wpList_load_row rfl 28 (.tmp 7) rfl g3 rfl 28 _ (0, 0) _ (PW.put HP.out 2 (.string qq) (sP kk pp qq ⟨#[]⟩ tt dd) rfl).k3 hu1 rfl (by kernel_rfl) ?_) | (go_at_call 10; (with_reducible refine (hln _).mono ?_); rintro e w9 ⟨rfl, hb⟩; have n0_ := Aside0.mk (PW.step (PW.put HP.out 2 (.string qq) (sP kk pp qq ⟨#[]⟩ tt dd) rfl) hb); clear HP hb; have HP := n0_; clear n0_; have hk1 := blk_cell HP.out.k3 1; have hk4 := blk_cell HP.out.k3 4; change _ = some (Value.string pp) at hk1; change _ = some (Value.int .i64 tt) at hk4; have hcz3 := blk_cell HP.out.k3 3; have hfz3 := blk_frozen HP.out.k3 3; change _ = some (Value.string _) at hcz3) | ((with_reducible refine gate_dst (N := 99) rfl ?_); refine wpList_load_row rfl 28 (.tmp 7) rfl g3 rfl 28 _ (0, 0) _ (PW.put HP.out 3 (.string pp) (sP kk pp qq pp tt dd) rfl).k3 hu1 rfl (by kernel_rfl) ?_) | ((with_reducible refine gate_store (t := 28) (p := 2) rfl ?_); refine wpList_store_rowTo rfl 28 (.tmp 2) (.tmp 99) rfl rfl w.heap.size (sP kk pp qq pp tt dd) rfl rfl 28 zS (PW.put HP.out 3 (.string pp) (sP kk pp qq pp tt dd) rfl).res (by kernel_rfl) rfl (sP_one _ _ _ _ _ _) ?_))
                refine bodyPost_ret (results_ct rfl _ _ w.heap.size 28 (sP kk pp qq pp tt dd) (0, 0) _ rfl (setRow_heap _ _ zS _ 28 (0, 0) (PW.put HP.out 3 (.string pp) (sP kk pp qq pp tt dd) rfl).res) hu1 rfl (by kernel_rfl)) rfl ?_
                exact ⟨by rw [hres.out]; simp [ht1], below_setRow (PW.put HP.out 3 (.string pp) (sP kk pp qq pp tt dd) rfl).below (Nat.le_refl _) _⟩
              · have ht1 : (0 < tt) = False := eq_false ht
                go_wp2_with (first | (go_at_call 16; (with_reducible refine (item_unword.calls 20000 p3 qq _ _ f5).mono ?_); rintro e w7 ⟨rfl, hb⟩; have n0_ := Aside0.mk (PW.step HP.out hb); clear HP hb; have HP := n0_; clear n0_; have hcz2 := blk_cell HP.out.k3 2; have hfz2 := blk_frozen HP.out.k3 2; change _ = some (Value.string _) at hcz2) | ((with_reducible refine gate_dst (N := 75) rfl ?_); refine wpList_load_row rfl 28 (.tmp 7) rfl g3 rfl 28 _ (0, 0) _ (PW.put HP.out 2 (.string qq) (sP kk pp qq ⟨#[]⟩ tt dd) rfl).k3 hu1 rfl (by kernel_rfl) ?_) | (go_at_call 10; (with_reducible refine (hln _).mono ?_); rintro e w9 ⟨rfl, hb⟩; have n0_ := Aside0.mk (PW.step (PW.put HP.out 2 (.string qq) (sP kk pp qq ⟨#[]⟩ tt dd) rfl) hb); clear HP hb; have HP := n0_; clear n0_; have hk1 := blk_cell HP.out.k3 1; have hk4 := blk_cell HP.out.k3 4; change _ = some (Value.string pp) at hk1; change _ = some (Value.int .i64 tt) at hk4) | ((with_reducible refine gate_dst (N := 99) rfl ?_); refine wpList_load_row rfl 28 (.tmp 7) rfl g3 rfl 28 _ (0, 0) _ HP.out.k3 hu1 rfl (by kernel_rfl) ?_) | ((with_reducible refine gate_store (t := 28) (p := 2) rfl ?_); refine wpList_store_rowTo rfl 28 (.tmp 2) (.tmp 99) rfl rfl w.heap.size (sP kk pp qq ⟨#[]⟩ tt dd) rfl rfl 28 zS HP.out.res (by kernel_rfl) rfl (sP_one _ _ _ _ _ _) ?_))
                refine bodyPost_ret (results_ct rfl _ _ w.heap.size 28 (sP kk pp qq ⟨#[]⟩ tt dd) (0, 0) _ rfl (setRow_heap _ _ zS _ 28 (0, 0) HP.out.res) hu1 rfl (by kernel_rfl)) rfl ?_
                exact ⟨by rw [hres.out]; simp [ht1], below_setRow HP.out.below (Nat.le_refl _) _⟩
            · have q1 : (again.toList == a0.toList) = false := beq_eq_false_iff_ne.2 (fun e => ha (ByteArray.ext (Array.toList_inj.1 (by rwa [ByteArray.toList_eq, ByteArray.toList_eq] at e))))
              go_wp2_with (first | (go_at_call 16; (with_reducible refine (item_unword.calls 20000 p3 qq _ _ f5).mono ?_); rintro e w7 ⟨rfl, hb⟩; have n0_ := Aside0.mk (PW.step HP.out hb); clear HP hb; have HP := n0_; clear n0_; have hcz2 := blk_cell HP.out.k3 2; have hfz2 := blk_frozen HP.out.k3 2; change _ = some (Value.string _) at hcz2) | ((with_reducible refine gate_dst (N := 75) rfl ?_); refine wpList_load_row rfl 28 (.tmp 7) rfl g3 rfl 28 _ (0, 0) _ (PW.put HP.out 2 (.string qq) (sP kk pp qq ⟨#[]⟩ tt dd) rfl).k3 hu1 rfl (by kernel_rfl) ?_) | (go_at_call 10; (with_reducible refine (hln _).mono ?_); rintro e w9 ⟨rfl, hb⟩; have n0_ := Aside0.mk (PW.step (PW.put HP.out 2 (.string qq) (sP kk pp qq ⟨#[]⟩ tt dd) rfl) hb); clear HP hb; have HP := n0_; clear n0_; have hk1 := blk_cell HP.out.k3 1; have hk4 := blk_cell HP.out.k3 4; change _ = some (Value.string pp) at hk1; change _ = some (Value.int .i64 tt) at hk4) | ((with_reducible refine gate_store (t := 28) (p := 2) rfl ?_); refine wpList_store_rowTo rfl 28 (.tmp 2) (.tmp 90) rfl rfl w.heap.size zS rfl rfl 28 zS HP.out.res (by kernel_rfl) rfl (sP_one _ _ _ _ _ _) ?_))
              refine bodyPost_ret (results_ct rfl _ _ w.heap.size 28 zS (0, 0) _ rfl (setRow_heap _ _ zS _ 28 (0, 0) HP.out.res) hu1 rfl (by kernel_rfl)) rfl ?_
              exact ⟨by rw [hres.out, if_neg (fun h => ha h.2.2)]; rfl, below_setRow HP.out.below (Nat.le_refl _) _⟩
          · have q2 : (er != 0) = true := bne_iff_ne.2 he
            go_wp2_with (first | (go_at_call 16; (with_reducible refine (item_unword.calls 20000 p3 qq _ _ f5).mono ?_); rintro e w7 ⟨rfl, hb⟩; have n0_ := Aside0.mk (PW.step HP.out hb); clear HP hb; have HP := n0_; clear n0_; have hcz2 := blk_cell HP.out.k3 2; have hfz2 := blk_frozen HP.out.k3 2; change _ = some (Value.string _) at hcz2) | ((with_reducible refine gate_dst (N := 75) rfl ?_); refine wpList_load_row rfl 28 (.tmp 7) rfl g3 rfl 28 _ (0, 0) _ (PW.put HP.out 2 (.string qq) (sP kk pp qq ⟨#[]⟩ tt dd) rfl).k3 hu1 rfl (by kernel_rfl) ?_) | (go_at_call 10; (with_reducible refine (hln _).mono ?_); rintro e w9 ⟨rfl, hb⟩; have n0_ := Aside0.mk (PW.step (PW.put HP.out 2 (.string qq) (sP kk pp qq ⟨#[]⟩ tt dd) rfl) hb); clear HP hb; have HP := n0_; clear n0_; have hk1 := blk_cell HP.out.k3 1; have hk4 := blk_cell HP.out.k3 4; change _ = some (Value.string pp) at hk1; change _ = some (Value.int .i64 tt) at hk4) | ((with_reducible refine gate_store (t := 28) (p := 2) rfl ?_); refine wpList_store_rowTo rfl 28 (.tmp 2) (.tmp 90) rfl rfl w.heap.size zS rfl rfl 28 zS HP.out.res (by kernel_rfl) rfl (sP_one _ _ _ _ _ _) ?_))
            refine bodyPost_ret (results_ct rfl _ _ w.heap.size 28 zS (0, 0) _ rfl (setRow_heap _ _ zS _ 28 (0, 0) HP.out.res) hu1 rfl (by kernel_rfl)) rfl ?_
            exact ⟨by rw [hres.out, if_neg (fun h => he h.2.1)]; rfl, below_setRow HP.out.below (Nat.le_refl _) _⟩
      · rw [if_neg (fun h => hl4 h.2)] at f5
        obtain ⟨hqq, rfl⟩ := f5
        have n0_ := Aside0.mk (show PW w _ g l g1 g2 g3 (sP kk pp qq ⟨#[]⟩ tt dd) from by rw [hqq]; exact HP.out)
        clear HP hqq
        have HP := n0_
        clear n0_
        have e4 : ((l.length : Int) == 4) = false := beq_eq_false_iff_ne.2 (by omega)
        by_cases he : er = 0
        · subst he
          by_cases ha : again = a0
          · subst ha
            have q1 : (again.toList == again.toList) = true := beq_self_eq_true _
            by_cases ht : tt > 0
            · have ht1 : (0 < tt) = True := eq_true ht
              go_wp2_with (first | ((with_reducible refine gate_dst (N := 75) rfl ?_); refine wpList_load_row rfl 28 (.tmp 7) rfl g3 rfl 28 _ (0, 0) _ HP.out.k3 hu1 rfl (by kernel_rfl) ?_) | (go_at_call 10; (with_reducible refine (hln _).mono ?_); rintro e w9 ⟨rfl, hb⟩; have n0_ := Aside0.mk (PW.step HP.out hb); clear HP hb; have HP := n0_; clear n0_; have hk1 := blk_cell HP.out.k3 1; have hk4 := blk_cell HP.out.k3 4; change _ = some (Value.string pp) at hk1; change _ = some (Value.int .i64 tt) at hk4; have hcz3 := blk_cell HP.out.k3 3; have hfz3 := blk_frozen HP.out.k3 3; change _ = some (Value.string _) at hcz3) | ((with_reducible refine gate_dst (N := 99) rfl ?_); refine wpList_load_row rfl 28 (.tmp 7) rfl g3 rfl 28 _ (0, 0) _ (PW.put HP.out 3 (.string pp) (sP kk pp qq pp tt dd) rfl).k3 hu1 rfl (by kernel_rfl) ?_) | ((with_reducible refine gate_store (t := 28) (p := 2) rfl ?_); refine wpList_store_rowTo rfl 28 (.tmp 2) (.tmp 99) rfl rfl w.heap.size (sP kk pp qq pp tt dd) rfl rfl 28 zS (PW.put HP.out 3 (.string pp) (sP kk pp qq pp tt dd) rfl).res (by kernel_rfl) rfl (sP_one _ _ _ _ _ _) ?_))
              refine bodyPost_ret (results_ct rfl _ _ w.heap.size 28 (sP kk pp qq pp tt dd) (0, 0) _ rfl (setRow_heap _ _ zS _ 28 (0, 0) (PW.put HP.out 3 (.string pp) (sP kk pp qq pp tt dd) rfl).res) hu1 rfl (by kernel_rfl)) rfl ?_
              exact ⟨by rw [hres.out]; simp [ht1], below_setRow (PW.put HP.out 3 (.string pp) (sP kk pp qq pp tt dd) rfl).below (Nat.le_refl _) _⟩
            · have ht1 : (0 < tt) = False := eq_false ht
              go_wp2_with (first | ((with_reducible refine gate_dst (N := 75) rfl ?_); refine wpList_load_row rfl 28 (.tmp 7) rfl g3 rfl 28 _ (0, 0) _ HP.out.k3 hu1 rfl (by kernel_rfl) ?_) | (go_at_call 10; (with_reducible refine (hln _).mono ?_); rintro e w9 ⟨rfl, hb⟩; have n0_ := Aside0.mk (PW.step HP.out hb); clear HP hb; have HP := n0_; clear n0_; have hk1 := blk_cell HP.out.k3 1; have hk4 := blk_cell HP.out.k3 4; change _ = some (Value.string pp) at hk1; change _ = some (Value.int .i64 tt) at hk4) | ((with_reducible refine gate_dst (N := 99) rfl ?_); refine wpList_load_row rfl 28 (.tmp 7) rfl g3 rfl 28 _ (0, 0) _ HP.out.k3 hu1 rfl (by kernel_rfl) ?_) | ((with_reducible refine gate_store (t := 28) (p := 2) rfl ?_); refine wpList_store_rowTo rfl 28 (.tmp 2) (.tmp 99) rfl rfl w.heap.size (sP kk pp qq ⟨#[]⟩ tt dd) rfl rfl 28 zS HP.out.res (by kernel_rfl) rfl (sP_one _ _ _ _ _ _) ?_))
              refine bodyPost_ret (results_ct rfl _ _ w.heap.size 28 (sP kk pp qq ⟨#[]⟩ tt dd) (0, 0) _ rfl (setRow_heap _ _ zS _ 28 (0, 0) HP.out.res) hu1 rfl (by kernel_rfl)) rfl ?_
              exact ⟨by rw [hres.out]; simp [ht1], below_setRow HP.out.below (Nat.le_refl _) _⟩
          · have q1 : (again.toList == a0.toList) = false := beq_eq_false_iff_ne.2 (fun e => ha (ByteArray.ext (Array.toList_inj.1 (by rwa [ByteArray.toList_eq, ByteArray.toList_eq] at e))))
            go_wp2_with (first | ((with_reducible refine gate_dst (N := 75) rfl ?_); refine wpList_load_row rfl 28 (.tmp 7) rfl g3 rfl 28 _ (0, 0) _ HP.out.k3 hu1 rfl (by kernel_rfl) ?_) | (go_at_call 10; (with_reducible refine (hln _).mono ?_); rintro e w9 ⟨rfl, hb⟩; have n0_ := Aside0.mk (PW.step HP.out hb); clear HP hb; have HP := n0_; clear n0_; have hk1 := blk_cell HP.out.k3 1; have hk4 := blk_cell HP.out.k3 4; change _ = some (Value.string pp) at hk1; change _ = some (Value.int .i64 tt) at hk4) | ((with_reducible refine gate_store (t := 28) (p := 2) rfl ?_); refine wpList_store_rowTo rfl 28 (.tmp 2) (.tmp 90) rfl rfl w.heap.size zS rfl rfl 28 zS HP.out.res (by kernel_rfl) rfl (sP_one _ _ _ _ _ _) ?_))
            refine bodyPost_ret (results_ct rfl _ _ w.heap.size 28 zS (0, 0) _ rfl (setRow_heap _ _ zS _ 28 (0, 0) HP.out.res) hu1 rfl (by kernel_rfl)) rfl ?_
            exact ⟨by rw [hres.out, if_neg (fun h => ha h.2.2)]; rfl, below_setRow HP.out.below (Nat.le_refl _) _⟩
        · have q2 : (er != 0) = true := bne_iff_ne.2 he
          go_wp2_with (first | ((with_reducible refine gate_dst (N := 75) rfl ?_); refine wpList_load_row rfl 28 (.tmp 7) rfl g3 rfl 28 _ (0, 0) _ HP.out.k3 hu1 rfl (by kernel_rfl) ?_) | (go_at_call 10; (with_reducible refine (hln _).mono ?_); rintro e w9 ⟨rfl, hb⟩; have n0_ := Aside0.mk (PW.step HP.out hb); clear HP hb; have HP := n0_; clear n0_; have hk1 := blk_cell HP.out.k3 1; have hk4 := blk_cell HP.out.k3 4; change _ = some (Value.string pp) at hk1; change _ = some (Value.int .i64 tt) at hk4) | ((with_reducible refine gate_store (t := 28) (p := 2) rfl ?_); refine wpList_store_rowTo rfl 28 (.tmp 2) (.tmp 90) rfl rfl w.heap.size zS rfl rfl 28 zS HP.out.res (by kernel_rfl) rfl (sP_one _ _ _ _ _ _) ?_))
          refine bodyPost_ret (results_ct rfl _ _ w.heap.size 28 zS (0, 0) _ rfl (setRow_heap _ _ zS _ 28 (0, 0) HP.out.res) hu1 rfl (by kernel_rfl)) rfl ?_
          exact ⟨by rw [hres.out, if_neg (fun h => he h.2.1)]; rfl, below_setRow HP.out.below (Nat.le_refl _) _⟩
set_option maxHeartbeats 8000000 in
set_option maxRecDepth 100000 in
theorem parse_bad (a0 : ByteArray) (l : List ByteArray) (w : World) (hsp : ∀ w, Calls Tryd.prog 11 #[.string a0, .string (⟨#[32]⟩ : ByteArray)] w fun e w' => ∃ v0_ : Value, e = .returned (v0_) ∧ Kd.R Kd.string 9 w' w.heap.size (fun _ => True) v0_ l ∧ Below w.heap.size w w') (hb : l.length < 3 ∨ 4 < l.length) :
    Calls Tryd.prog 6 #[.string a0] w fun e w' => e = .returned (.tuple #[.agg zS, .int .i64 5]) ∧ Below w.heap.size w w' := by
  have hu1 := Tryd.underlying28
  have HD := Aside0.mk (B1.start 28 w zS)
  by_cases hb1 : l.length < 3
  · have l1 : ((l.length : Int) < 3) = True := eq_true (by omega)
    have l2 : (l.length < 3) = True := eq_true (by omega)
    clear hb hb1
    go_enter Tryd.func6, Tryd.ntmps6
    go_wp2_with (first | (go_at_call 11; (with_reducible refine (hsp _).mono ?_); rintro e w1 ⟨v0, rfl, hR, hb⟩; obtain ⟨Ax, cc, rfl⟩ := Kd.R_slice hR; have n0_ := Aside0.mk (B1.step HD.out hb); clear HD hb hR; have HD := n0_; clear n0_) | ((with_reducible refine gate_store (t := 28) (p := 2) rfl ?_); refine wpList_store_rowTo rfl 28 (.tmp 2) (.tmp 29) rfl rfl w.heap.size zS rfl rfl 28 zS HD.out.2 (by kernel_rfl) rfl (sP_one _ _ _ _ _ _) ?_))
    refine bodyPost_ret (results_ct rfl _ _ w.heap.size 28 zS (0, 0) _ rfl (setRow_heap _ _ zS _ 28 (0, 0) HD.out.2) hu1 rfl (by kernel_rfl)) rfl ?_
    exact ⟨rfl, below_setRow HD.out.1 (Nat.le_refl _) _⟩
  · have l1 : ((l.length : Int) < 3) = False := eq_false (by omega)
    have l2 : (l.length < 3) = False := eq_false (by omega)
    have l3 : ((4 : Int) < (l.length : Int)) = True := eq_true (by omega)
    have l4 : (4 < l.length) = True := eq_true (by omega)
    clear hb hb1
    go_enter Tryd.func6, Tryd.ntmps6
    go_wp2_with (first | (go_at_call 11; (with_reducible refine (hsp _).mono ?_); rintro e w1 ⟨v0, rfl, hR, hb⟩; obtain ⟨Ax, cc, rfl⟩ := Kd.R_slice hR; have n0_ := Aside0.mk (B1.step HD.out hb); clear HD hb hR; have HD := n0_; clear n0_) | ((with_reducible refine gate_store (t := 28) (p := 2) rfl ?_); refine wpList_store_rowTo rfl 28 (.tmp 2) (.tmp 29) rfl rfl w.heap.size zS rfl rfl 28 zS HD.out.2 (by kernel_rfl) rfl (sP_one _ _ _ _ _ _) ?_))
    refine bodyPost_ret (results_ct rfl _ _ w.heap.size 28 zS (0, 0) _ rfl (setRow_heap _ _ zS _ 28 (0, 0) HD.out.2) hu1 rfl (by kernel_rfl)) rfl ?_
    exact ⟨rfl, below_setRow HD.out.1 (Nat.le_refl _) _⟩
set_option maxHeartbeats 8000000 in
set_option maxRecDepth 100000 in
theorem parse_bad2 (a0 : ByteArray) (l : List ByteArray) (p0 : ByteArray) (w : World) (hsp : ∀ w, Calls Tryd.prog 11 #[.string a0, .string (⟨#[32]⟩ : ByteArray)] w fun e w' => ∃ v0_ : Value, e = .returned (v0_) ∧ Kd.R Kd.string 9 w' w.heap.size (fun _ => True) v0_ l ∧ Below w.heap.size w w') (h3 : 3 ≤ l.length) (h4 : l.length ≤ 4) (e0 : l[0]? = some p0) (hz : p0.size ≠ 2) :
    Calls Tryd.prog 6 #[.string a0] w fun e w' => e = .returned (.tuple #[.agg zS, .int .i64 5]) ∧ Below w.heap.size w w' := by
  have hu1 := Tryd.underlying28
  have HD := Aside0.mk (B1.start 28 w zS)
  have hne : l ≠ [] := by intro h; rw [h] at h3; simp at h3
  have l1 : ((l.length : Int) < 3) = False := eq_false (by omega)
  have l2 : (l.length < 3) = False := eq_false (by omega)
  have l3 : ((4 : Int) < (l.length : Int)) = False := eq_false (by omega)
  have l4 : (4 < l.length) = False := eq_false (by omega)
  have l5 : ((0 : Int) < (l.length : Int)) = True := eq_true (by omega)
  have l6 : (0 < l.length) = True := eq_true (by omega)
  have hz1 : ((p0.size : Int) != 2) = true := bne_iff_ne.2 (by omega)
  go_enter Tryd.func6, Tryd.ntmps6
  go_wp2_with (first | (go_at_call 11; (with_reducible refine (hsp _).mono ?_); rintro e w1 ⟨v0, rfl, hR, hb⟩; obtain ⟨g, cc, rfl, hpu⟩ := split_row HD.out hR hb hne; have HP := Aside0.mk hpu; clear hpu hR hb HD; have hx0 := HP.out.row 0 p0 e0) | ((with_reducible refine gate_store (t := 28) (p := 2) rfl ?_); refine wpList_store_rowTo rfl 28 (.tmp 2) (.tmp 29) rfl rfl w.heap.size zS rfl rfl 28 zS HP.out.res (by kernel_rfl) rfl (sP_one _ _ _ _ _ _) ?_))
  refine bodyPost_ret (results_ct rfl _ _ w.heap.size 28 zS (0, 0) _ rfl (setRow_heap _ _ zS _ 28 (0, 0) HP.out.res) hu1 rfl (by kernel_rfl)) rfl ?_
  exact ⟨rfl, below_setRow HP.out.below (Nat.le_refl _) _⟩
theorem item_Parse.calls (a0 : ByteArray) (r1 : Int) (r2 : ByteArray) (r3 : ByteArray) (r4 : ByteArray) (r5 : Int) (r6 : Int) (r7 : Int) (r8 : Int) (r9 : Int) (r10 : Int) (r11 : Int) (r12 : ByteArray) (r13 : ByteArray) (r14 : Int) (r15 : Int) (r16 : Int) (w : World) (h : item_Parse.f a0 = some (r1, r2, r3, r4, r5, r6, r7, r8, r9, r10, r11, r12, r13, r14, r15, r16)) :
    Calls Tryd.prog 6 #[.string a0] w fun e w' => e = .returned (.tuple #[.agg #[.int .i64 r1, .string r2, .string r3, .string r4, .int .i64 r5, .int .i64 r6, .int .i64 r7, .int .i64 r8, .int .i64 r9, .int .i64 r10, .int .i64 r11, .string r12, .string r13, .int .i64 r14, .int .i64 r15], .int .i64 r16]) ∧ Below w.heap.size w w' := by
  unfold item_Parse.f at h
  obtain ⟨l, hl, h⟩ := Option.bind_eq_some_iff.1 h
  have hsp := fun w => strings_Split.calls a0 ⟨#[32]⟩ l w hl
  unfold item_Parse.g at h
  by_cases hb : l.length < 3 ∨ 4 < l.length
  · rw [if_pos hb] at h
    simp only [nil5, Option.some.injEq, Prod.mk.injEq] at h
    obtain ⟨rfl, rfl, rfl, rfl, rfl, rfl, rfl, rfl, rfl, rfl, rfl, rfl, rfl, rfl, rfl, rfl⟩ := h
    exact parse_bad a0 l w hsp hb
  · rw [if_neg hb] at h
    have g0 : ∀ i : Nat, i < l.length → l[i]? = some (rdOf ByteArray.empty l (i : Int)) := fun i hi => by simp [rdOf, hi]
    have h3 : 3 ≤ l.length := by omega
    have h4 : l.length ≤ 4 := by omega
    by_cases hz : (rdOf ByteArray.empty l 0).size ≠ 2
    · rw [if_pos hz] at h
      simp only [nil5, Option.some.injEq, Prod.mk.injEq] at h
      obtain ⟨rfl, rfl, rfl, rfl, rfl, rfl, rfl, rfl, rfl, rfl, rfl, rfl, rfl, rfl, rfl, rfl⟩ := h
      exact parse_bad2 a0 l _ w hsp h3 h4 (g0 0 (by omega)) hz
    · rw [if_neg hz] at h
      have hz2 : (rdOf ByteArray.empty l 0).size = 2 := by omega
      obtain ⟨kk, f1, h⟩ := Option.bind_eq_some_iff.1 h
      obtain ⟨dd, f2, h⟩ := Option.bind_eq_some_iff.1 h
      obtain ⟨⟨pp, ok⟩, f3, h⟩ := Option.bind_eq_some_iff.1 h
      obtain ⟨tt, f4, h⟩ := Option.bind_eq_some_iff.1 h
      obtain ⟨⟨qq, ok2⟩, f5, h⟩ := Option.bind_eq_some_iff.1 h
      obtain ⟨⟨again, er⟩, f6, h⟩ := Option.bind_eq_some_iff.1 h
      dsimp only at f5 f6 h
      have hb0 : 0 < (rdOf ByteArray.empty l 0).size := by omega
      have hb1 : 1 < (rdOf ByteArray.empty l 0).size := by omega
      have f5' : if ok = true ∧ l.length = 4 then item_unword.f 20000 (rdOf ByteArray.empty l 3) = some (qq, ok2) else (qq = ⟨#[]⟩ ∧ ok2 = ok) := by
        by_cases hc : ok = true ∧ l.length = 4
        · rw [if_pos hc] at f5 ⊢
          exact f5
        · rw [if_neg hc] at f5 ⊢
          have := Prod.mk.inj (Option.some.inj f5)
          exact ⟨this.1.symm, this.2.symm⟩
      have hw := parse_walk a0 l (rdOf ByteArray.empty l 0) (rdOf ByteArray.empty l 1) (rdOf ByteArray.empty l 2) (rdOf ByteArray.empty l 3) w hsp h3 h4 (g0 0 (by omega)) (g0 1 (by omega)) (g0 2 (by omega)) (fun e => g0 3 (by omega)) hz2 kk dd tt pp ok qq ok2 again er _ _ hb0 hb1 rfl rfl
        (by rw [← f1, bt, dif_pos (by simpa using hb0)]; rfl) f2 f3 (by rw [← f4, bt, dif_pos (by simpa using hb1)]; rfl) f5' f6 _ ⟨rfl⟩
      by_cases hc : ok2 = true ∧ er = 0 ∧ again = a0
      · rw [if_pos hc] at h hw
        simp only [Option.some.injEq, Prod.mk.injEq] at h
        obtain ⟨rfl, rfl, rfl, rfl, rfl, rfl, rfl, rfl, rfl, rfl, rfl, rfl, rfl, rfl, rfl, rfl⟩ := h
        exact hw
      · rw [if_neg hc] at h hw
        simp only [nil5, Option.some.injEq, Prod.mk.injEq] at h
        obtain ⟨rfl, rfl, rfl, rfl, rfl, rfl, rfl, rfl, rfl, rfl, rfl, rfl, rfl, rfl, rfl, rfl⟩ := h
        exact hw
end Go.Proofs.YtljpcmpjfklloaaDoor.PA
