/- The walk of the reference's Parse. -/
import Derived.Great.BuildSlice
import Derived.Laws.CopyOwn
import Derived.Laws.CopyRow
import Derived.Test.YtljpcmpjfklloaaDoorPAx0
import Derived.Test.YtljpcmpjfklloaaDoorXB1
import Derived.Test.YtljpcmpjfklloaaDoorXitemParse
namespace Go.Proofs.YtljpcmpjfklloaaDoor.PA
open Go.RowKit Go.Proofs.YtljpcmpjfklloaaDoorW.PrintWords Go.Proofs.YtljpcmpjfklloaaDoorW.PrintLast Go.Proofs.YtljpcmpjfklloaaDoorW.PrintMore
attribute [local go_sem] max2_int min2_int max_two min_two max_three min_three max_four min_four
set_option linter.unusedVariables false
set_option linter.unusedSimpArgs false
def remoraref28_Parse_h.T4 : Bool × List (List Nat × List Nat) := (true, [([], []), ([0], [0]), ([1], [1]), ([2], [2]), ([3], [3]), ([4], [4]), ([], []), ([6], [6]), ([7], [7]), ([8, 4], [8]), ([], []), ([10], [10]), ([11], [11]), ([12, 9], [12]), ([5, 9, 13], [5, 9, 13]), ([], []), ([15, 14, 13, 0, 1, 2, 3, 4, 5, 6, 7, 8, 9, 10, 11, 12, 13, 14, 15], [14, 15])])
def remoraref28_Parse_h.B4 : List Nat := [0, 1, 3, 7, 15, 31, 0, 64, 192, 479, 0, 1024, 3072, 8159, 16383, 0, 65535]
theorem remoraref28_Parse_h.tab4 : rtab .any (opsOf Tryd.f7 4) = remoraref28_Parse_h.T4 := by kernel_rfl
theorem remoraref28_Parse_h.bits4 : waitsOk remoraref28_Parse_h.T4.2 remoraref28_Parse_h.B4 = true := by kernel_rfl
def kB7 : ByteArray := ⟨#[100, 102, 108, 104, 115, 120, 109]⟩
def tB4 : ByteArray := ⟨#[45, 102, 100, 108]⟩
structure PX (w wr : World) (g : Nat) (l : List ByteArray) (g3 : Nat) (S : Array Value) : Prop extends PU w wr g l where
  k3 : wr.heap[g3]? = some (.cells S 28 (0, 0))
  n0 : w.heap.size < g3
  nr : l ≠ [] → g ≠ g3
theorem PX.step {w wr w2 : World} {g g3 : Nat} {l : List ByteArray} {S : Array Value} (h : PX w wr g l g3 S) (hb : Below wr.heap.size wr w2) : PX w w2 g l g3 S :=
  ⟨h.toPU.step hb, blk_below h.k3 hb, h.n0, h.nr⟩
theorem PX.boxed {w wr w5 : World} {g g3 : Nat} {l : List ByteArray} (h : PU w wr g l) (hg : g3 = wr.heap.size) (hbox : w5.heap[g3]? = some (.cells zS 28 (0, 0))) (hb : Below wr.heap.size wr w5) : PX w w5 g l g3 zS := by
  subst hg
  refine ⟨h.step hb, hbox, blk_lt h.res, fun hl => ?_⟩
  cases l with
  | nil => exact absurd rfl hl
  | cons p t => exact Nat.ne_of_lt (World.block_lt_of_cell? wr _ (h.row 0 p rfl))
theorem PX.row_ {w wr : World} {g g3 : Nat} {l : List ByteArray} {S : Array Value} (h : PX w wr g l g3 S) (S2 : Array Value) : PX w (wr.setRow g3 S2) g l g3 S2 :=
  ⟨⟨below_setRow h.below (Nat.le_of_lt h.n0) _, (setRow_other _ _ _ _ (Nat.ne_of_lt h.n0)).trans h.res, fun j p hj => (cell_setRow_other _ _ _ _ (h.nr (by rintro rfl; simp at hj))).trans (h.row j p hj)⟩, setRow_heap _ _ _ _ _ _ h.k3, h.n0, h.nr⟩
theorem PX.put {w wr : World} {g g3 : Nat} {l : List ByteArray} {S : Array Value} (h : PX w wr g l g3 S) (i : Nat) (v : Value) (S2 : Array Value) (e : S.setIfInBounds i v = S2) : PX w (wr.setCell ⟨g3, i, none⟩ v) g l g3 S2 := by
  refine ⟨⟨below_set h.below (Nat.le_of_lt h.n0), blk_far h.res (Nat.ne_of_lt h.n0) v, fun j p hj => ?_⟩, blk_put h.k3 i v e, h.n0, h.nr⟩
  have hne := h.nr (by rintro rfl; simp at hj)
  have hh := h.row j p hj
  unfold World.cell? at hh ⊢
  rw [Below.heap_setCell wr ⟨g3, i, none⟩ v g hne]
  exact hh
set_option maxHeartbeats 8000000 in
set_option maxRecDepth 100000 in
theorem rparse_walk (a0 : ByteArray) (l : List ByteArray) (p0 p1 p2 p3 : ByteArray) (w : World) (hsp : ∀ w, Calls Tryd.prog 17 #[.string a0] w fun e w' => ∃ v0_ : Value, e = .returned (v0_) ∧ Kd.R Kd.string 9 w' w.heap.size (fun _ => True) v0_ l ∧ Below w.heap.size w w') (h3 : 3 ≤ l.length) (h4 : l.length ≤ 4)
    (e0 : l[0]? = some p0) (e1 : l[1]? = some p1) (e2 : l[2]? = some p2) (e3 : l.length = 4 → l[3]? = some p3) (hz : p0.size = 2) (cc kk dd tt : Int) (pp : ByteArray) (qq : ByteArray) (again : ByteArray) (er : Int) (c0 c1 : Int) (hb0 : 0 < p0.size) (hb1 : 1 < p0.size) (hc0 : ((p0[0]'hb0).toNat : Int) = c0) (hc1 : ((p0[1]'hb1).toNat : Int) = c1) (hkk : wrap64 (cc + 1) = kk)
    (h1 : ∀ w, Calls Tryd.prog 18 #[.string kB7, .int .u8 c0] w fun e w' => e = .returned (.int .i64 cc) ∧ Below w.heap.size w w')
    (h2 : ∀ w, Calls Tryd.prog 19 #[.string p2] w fun e w' => e = .returned (.string pp) ∧ Below w.heap.size w w')
    (h3_ : ∀ w, Calls Tryd.prog 20 #[.string p1] w fun e w' => e = .returned (.int .i64 dd) ∧ Below w.heap.size w w')
    (h4_ : ∀ w, Calls Tryd.prog 18 #[.string (⟨#[45, 102, 100, 108]⟩ : ByteArray), .int .u8 c1] w fun e w' => e = .returned (.int .i64 tt) ∧ Below w.heap.size w w')
    (h5 : l.length = 4 → ∀ w, Calls Tryd.prog 19 #[.string p3] w fun e w' => e = .returned (.string qq) ∧ Below w.heap.size w w') (hq4 : ¬ l.length = 4 → qq = ⟨#[]⟩)
    (h6 : ∀ w, Calls Tryd.prog 21 #[.agg (sP kk pp qq (if tt > 0 then pp else ⟨#[]⟩) tt dd)] w fun e w' => e = .returned (.tuple #[.string again, .int .i64 er]) ∧ Below w.heap.size w w') (res : Value)
    (hres : Aside0 (res = (if er = 0 ∧ again = a0 then .tuple #[.agg (sP kk pp qq (if tt > 0 then pp else ⟨#[]⟩) tt dd), .int .i64 0] else .tuple #[.agg zS, .int .i64 5]))) :
    Calls Tryd.prog 7 #[.string a0] w fun e w' => e = .returned res ∧ Below w.heap.size w w' := by
  have hu1 := Tryd.underlying28
  have HD := Aside0.mk (B1.start 28 w zS)
  have hne : l ≠ [] := by intro h; rw [h] at h3; simp at h3
  have l1 : ((l.length : Int) < 3) = False := eq_false (by omega)
  have l2 : (l.length < 3) = False := eq_false (by omega)
  have l3 : ((4 : Int) < (l.length : Int)) = False := eq_false (by omega)
  have l4 : (4 < l.length) = False := eq_false (by omega)
  have l5 : ((0 : Int) < (l.length : Int)) = True := eq_true (by omega)
  have l6 : (0 < l.length) = True := eq_true (by omega)
  have l7 : ((1 : Int) < (l.length : Int)) = True := eq_true (by omega)
  have l8 : (1 < l.length) = True := eq_true (by omega)
  have l9 : ((2 : Int) < (l.length : Int)) = True := eq_true (by omega)
  have l10 : (2 < l.length) = True := eq_true (by omega)
  go_enter Tryd.func7, Tryd.ntmps7
  go_wp2_with (first | (go_at_call 17; (with_reducible refine (hsp _).mono ?_); rintro e w1 ⟨v0, rfl, hR, hb⟩; obtain ⟨g, cc, rfl, hpu⟩ := split_row HD.out hR hb hne; have HP := Aside0.mk hpu; clear hpu hR hb HD; have hx0 := HP.out.row 0 p0 e0))
  have n0_ := Aside0.mk (PU.step HP.out (below_drew1 (Below.refl _ _)))
  clear HP hx0 hsp
  have HP := n0_
  clear n0_
  refine start_ (n := 17) (S := fun w' => w'.cell? ⟨g, 0, none⟩ = some (.string p0) ∧ w'.cell? ⟨g, 1, none⟩ = some (.string p1) ∧ w'.cell? ⟨g, 2, none⟩ = some (.string p2)) (ds := []) #[Z_, Z_, Z_, Z_, Z_, Z_, Z_, Z_, Z_, Z_, Z_, Z_, Z_, Z_, Z_, Z_, Z_] (by kernel_rfl) rfl rfl ⟨HP.out.row 0 p0 e0, HP.out.row 1 p1 e1, HP.out.row 2 p2 e2⟩ (fun hHeld => ?_)
  refine with_tabW remoraref28_Parse_h.tab4 remoraref28_Parse_h.bits4 (fun HT_ HW_ => ?_)
  refine pure_ (i := 0) (N := some 26) (v := ?_) (a' := ?_) #[Y_, Z_, Z_, Z_, Z_, Z_, Z_, Z_, Z_, Z_, Z_, Z_, Z_, Z_, Z_, Z_, Z_] rfl rfl (any_of HT_.out (by kernel_rfl)) (fun _ _ _ h => h) (Or.inl ⟨by rfl, ?_⟩) ?_ ?_
  rotate_left
  · intro w'; go_simp; with_reducible rfl
  rotate_left
  · simp only [Act.put, nS, i64_w, i32_w]; rfl
  refine pure_ (i := 1) (N := some 27) (v := ?_) (a' := ?_) #[Y_, Y_, Z_, Z_, Z_, Z_, Z_, Z_, Z_, Z_, Z_, Z_, Z_, Z_, Z_, Z_, Z_] rfl rfl (any_of HT_.out (by kernel_rfl)) (fun _ _ _ h => h) (Or.inl ⟨by rfl, ?_⟩) ?_ ?_
  rotate_left
  · intro w'; go_simp; with_reducible rfl
  rotate_left
  · simp only [Act.put, nS, i64_w, i32_w]; rfl
  refine take_ (i := 2) (N := some 28) (v := ?_) (a' := ?_) #[Y_, Y_, Y_, Z_, Z_, Z_, Z_, Z_, Z_, Z_, Z_, Z_, Z_, Z_, Z_, Z_, Z_] rfl rfl (take_ofW HT_.out HW_.out (by kernel_rfl)) (fun _ _ _ h => h) (Or.inl ⟨by rfl, ?_⟩) hHeld ?_ ?_
  rotate_left
  · rintro w' ⟨hr0_, hr1_, hr2_⟩
    go_simp
    with_reducible rfl
  rotate_left
  · simp only [Act.put, nS, i64_w, i32_w]; rfl
  refine pure_ (i := 3) (N := some 29) (v := ?_) (a' := ?_) #[Y_, Y_, Y_, Y_, Z_, Z_, Z_, Z_, Z_, Z_, Z_, Z_, Z_, Z_, Z_, Z_, Z_] rfl rfl (any_of HT_.out (by kernel_rfl)) (fun _ _ _ h => h) (Or.inl ⟨by rfl, ?_⟩) ?_ ?_
  rotate_left
  · intro w'; go_simp; with_reducible rfl
  rotate_left
  · simp only [Act.put, nS, i64_w, i32_w]; rfl
  refine pure_ (i := 6) (N := some 32) (v := ?_) (a' := ?_) #[Y_, Y_, Y_, Y_, Z_, Z_, Y_, Z_, Z_, Z_, Z_, Z_, Z_, Z_, Z_, Z_, Z_] rfl rfl (any_of HT_.out (by kernel_rfl)) (fun _ _ _ h => h) (Or.inl ⟨by rfl, ?_⟩) ?_ ?_
  rotate_left
  · intro w'; go_simp; with_reducible rfl
  rotate_left
  · simp only [Act.put, nS, i64_w, i32_w]; rfl
  refine pure_ (i := 7) (N := some 33) (v := ?_) (a' := ?_) #[Y_, Y_, Y_, Y_, Z_, Z_, Y_, Y_, Z_, Z_, Z_, Z_, Z_, Z_, Z_, Z_, Z_] rfl rfl (any_of HT_.out (by kernel_rfl)) (fun _ _ _ h => h) (Or.inl ⟨by rfl, ?_⟩) ?_ ?_
  rotate_left
  · intro w'; go_simp; with_reducible rfl
  rotate_left
  · simp only [Act.put, nS, i64_w, i32_w]; rfl
  refine take_ (i := 8) (N := some 34) (v := ?_) (a' := ?_) #[Y_, Y_, Y_, Y_, Z_, Z_, Y_, Y_, Y_, Z_, Z_, Z_, Z_, Z_, Z_, Z_, Z_] rfl rfl (take_ofW HT_.out HW_.out (by kernel_rfl)) (fun _ _ _ h => h) (Or.inl ⟨by rfl, ?_⟩) hHeld ?_ ?_
  rotate_left
  · rintro w' ⟨hr0_, hr1_, hr2_⟩
    go_simp
    with_reducible rfl
  rotate_left
  · simp only [Act.put, nS, i64_w, i32_w]; rfl
  refine pure_ (i := 10) (N := some 36) (v := ?_) (a' := ?_) #[Y_, Y_, Y_, Y_, Z_, Z_, Y_, Y_, Y_, Z_, Y_, Z_, Z_, Z_, Z_, Z_, Z_] rfl rfl (any_of HT_.out (by kernel_rfl)) (fun _ _ _ h => h) (Or.inl ⟨by rfl, ?_⟩) ?_ ?_
  rotate_left
  · intro w'; go_simp; with_reducible rfl
  rotate_left
  · simp only [Act.put, nS, i64_w, i32_w]; rfl
  refine pure_ (i := 11) (N := some 37) (v := ?_) (a' := ?_) #[Y_, Y_, Y_, Y_, Z_, Z_, Y_, Y_, Y_, Z_, Y_, Y_, Z_, Z_, Z_, Z_, Z_] rfl rfl (any_of HT_.out (by kernel_rfl)) (fun _ _ _ h => h) (Or.inl ⟨by rfl, ?_⟩) ?_ ?_
  rotate_left
  · intro w'; go_simp; with_reducible rfl
  rotate_left
  · simp only [Act.put, nS, i64_w, i32_w]; rfl
  refine take_ (i := 12) (N := some 38) (v := ?_) (a' := ?_) #[Y_, Y_, Y_, Y_, Z_, Z_, Y_, Y_, Y_, Z_, Y_, Y_, Y_, Z_, Z_, Z_, Z_] rfl rfl (take_ofW HT_.out HW_.out (by kernel_rfl)) (fun _ _ _ h => h) (Or.inl ⟨by rfl, ?_⟩) hHeld ?_ ?_
  rotate_left
  · rintro w' ⟨hr0_, hr1_, hr2_⟩
    go_simp
    with_reducible rfl
  rotate_left
  · simp only [Act.put, nS, i64_w, i32_w]; rfl
  refine two_ (i := 4) (j := 15) (Ni := some 30) (Nj := some 5) #[Y_, Y_, Y_, Y_, Y_, Z_, Y_, Y_, Y_, Z_, Y_, Y_, Y_, Z_, Z_, Z_, Z_] #[Y_, Y_, Y_, Y_, Z_, Z_, Y_, Y_, Y_, Z_, Y_, Y_, Y_, Z_, Z_, Y_, Z_] rfl rfl rfl rfl (two_of HT_.out (by kernel_rfl)) (by decide) (by decide) (fun K hK => ?_) (fun K hK => ?_)
  focus
    refine goes_ Tryd.func18 (by kernel_rfl) rfl #[.string kB7, .int .u8 c0] (by rfl) rfl rfl (by (try simp only [List.map_toArray, List.map_cons, List.map_nil]); first | done | rfl) ?_
    refine (h1 _).mono ?_
    rintro e w1 ⟨rfl, hb⟩
    refine ⟨_, rfl, ?_⟩
    have n0_ := Aside0.mk (PU.step HP.out hb)
    clear HP
    have HP := n0_
    clear n0_
    clear hb
    refine hK.out _ _ ⟨HP.out.row 0 p0 e0, HP.out.row 1 p1 e1, HP.out.row 2 p2 e2⟩ (fun hHeld => ?_)
    clear hK K
    refine norm_ (a' := ?_) ?_ ?_
    rotate_left
    · show Act.put _ (some 30) _ = _
      simp only [Act.put, nS, i64_w, i32_w]
      rfl
    refine pure_ (i := 5) (N := some 31) (v := ?_) (a' := ?_) #[Y_, Y_, Y_, Y_, Y_, Y_, Y_, Y_, Y_, Z_, Y_, Y_, Y_, Z_, Z_, Z_, Z_] rfl rfl (any_of HT_.out (by kernel_rfl)) (fun _ _ _ h => h) (Or.inl ⟨by rfl, ?_⟩) ?_ ?_
    rotate_left
    · intro w'; go_simp; with_reducible rfl
    rotate_left
    · simp only [Act.put, nS, i64_w, i32_w]; rfl
    refine two_ (i := 9) (j := 15) (Ni := some 35) (Nj := some 5) #[Y_, Y_, Y_, Y_, Y_, Y_, Y_, Y_, Y_, Y_, Y_, Y_, Y_, Z_, Z_, Z_, Z_] #[Y_, Y_, Y_, Y_, Y_, Y_, Y_, Y_, Y_, Z_, Y_, Y_, Y_, Z_, Z_, Y_, Z_] rfl rfl rfl rfl (two_of HT_.out (by kernel_rfl)) (by decide) (by decide) (fun K hK => ?_) (fun K hK => ?_)
    focus
      refine goes_ Tryd.func19 (by kernel_rfl) rfl #[.string p2] (by rfl) rfl rfl (by (try simp only [List.map_toArray, List.map_cons, List.map_nil]); first | done | rfl) ?_
      refine (h2 _).mono ?_
      rintro e w1 ⟨rfl, hb⟩
      refine ⟨_, rfl, ?_⟩
      have n0_ := Aside0.mk (PU.step HP.out hb)
      clear HP
      have HP := n0_
      clear n0_
      clear hb
      refine hK.out _ _ ⟨HP.out.row 0 p0 e0, HP.out.row 1 p1 e1, HP.out.row 2 p2 e2⟩ (fun hHeld => ?_)
      clear hK K
      refine norm_ (a' := ?_) ?_ ?_
      rotate_left
      · show Act.put _ (some 35) _ = _
        simp only [Act.put, nS, i64_w, i32_w]
        rfl
      refine two_ (i := 13) (j := 15) (Ni := some 39) (Nj := some 5) #[Y_, Y_, Y_, Y_, Y_, Y_, Y_, Y_, Y_, Y_, Y_, Y_, Y_, Y_, Z_, Z_, Z_] #[Y_, Y_, Y_, Y_, Y_, Y_, Y_, Y_, Y_, Y_, Y_, Y_, Y_, Z_, Z_, Y_, Z_] rfl rfl rfl rfl (two_of HT_.out (by kernel_rfl)) (by decide) (by decide) (fun K hK => ?_) (fun K hK => ?_)
      focus
        refine goes_ Tryd.func20 (by kernel_rfl) rfl #[.string p1] (by rfl) rfl rfl (by (try simp only [List.map_toArray, List.map_cons, List.map_nil]); first | done | rfl) ?_
        refine (h3_ _).mono ?_
        rintro e w1 ⟨rfl, hb⟩
        refine ⟨_, rfl, ?_⟩
        have n0_ := Aside0.mk (PU.step HP.out hb)
        clear HP
        have HP := n0_
        clear n0_
        clear hb
        refine hK.out _ _ ⟨HP.out.row 0 p0 e0, HP.out.row 1 p1 e1, HP.out.row 2 p2 e2⟩ (fun hHeld => ?_)
        clear hK K
        refine norm_ (a' := ?_) ?_ ?_
        rotate_left
        · show Act.put _ (some 39) _ = _
          simp only [Act.put, nS, i64_w, i32_w]
          rfl
        refine pure_ (i := 14) (N := some 40) (v := ?_) (a' := ?_) #[Y_, Y_, Y_, Y_, Y_, Y_, Y_, Y_, Y_, Y_, Y_, Y_, Y_, Y_, Y_, Z_, Z_] rfl rfl (any_of HT_.out (by kernel_rfl)) (fun _ _ _ h => h) (Or.inl ⟨by rfl, ?_⟩) ?_ ?_
        rotate_left
        · intro w'; go_simp; with_reducible rfl
        rotate_left
        · simp only [Act.put, nS, i64_w, i32_w]; rfl
        refine one_ (i := 15) (N := some 5) #[Y_, Y_, Y_, Y_, Y_, Y_, Y_, Y_, Y_, Y_, Y_, Y_, Y_, Y_, Y_, Y_, Z_] rfl rfl (one_of HT_.out (by kernel_rfl)) (by decide) (fun K hK => ?_)
        refine box_step (by rfl) (N := 5) rfl (cs := zS) (t := 28) ?hr ?_
        case hr => first | (go_simp; done) | (go_simp; rfl)
        intro g3 hg w5 hbox hb
        have n0_ := Aside0.mk (PX.boxed HP.out hg hbox hb)
        clear HP hg hbox hb
        have HP := n0_
        clear n0_
        refine hK.out _ _ ⟨HP.out.row 0 p0 e0, HP.out.row 1 p1 e1, HP.out.row 2 p2 e2⟩ (fun hHeld => ?_)
        clear hK K
        refine norm_ (a' := ?_) ?_ ?_
        rotate_left
        · show Act.put _ (some 5) _ = _
          simp only [Act.put, nS, i64_w, i32_w]
          rfl
        refine one_ (i := 16) (N := none) #[Y_, Y_, Y_, Y_, Y_, Y_, Y_, Y_, Y_, Y_, Y_, Y_, Y_, Y_, Y_, Y_, Y_] rfl rfl (one_of HT_.out (by kernel_rfl)) (by decide) (fun K hK => ?_)
        refine skip_ (by rfl) rfl (store_run _ _ 28 zS (sP kk pp ⟨#[]⟩ ⟨#[]⟩ 0 dd) HP.out.k3 (.tmp 5) (.tmp 40) rfl rfl rfl (by kernel_rfl) rfl (sP_one _ _ _ _ _ _)) ?_
        have n0_ := Aside0.mk (PX.row_ HP.out (sP kk pp ⟨#[]⟩ ⟨#[]⟩ 0 dd))
        clear HP
        have HP := n0_
        clear n0_
        refine hK.out _ _ ⟨HP.out.row 0 p0 e0, HP.out.row 1 p1 e1, HP.out.row 2 p2 e2⟩ (fun hHeld => ?_)
        clear hK K
        refine done_ (done_of HT_.out (by kernel_rfl)) ?_
      rotate_left 1
      focus
        refine box_step (by rfl) (N := 5) rfl (cs := zS) (t := 28) ?hr ?_
        case hr => first | (go_simp; done) | (go_simp; rfl)
        intro g3 hg w5 hbox hb
        have n0_ := Aside0.mk (PX.boxed HP.out hg hbox hb)
        clear HP hg hbox hb
        have HP := n0_
        clear n0_
        refine hK.out _ _ ⟨HP.out.row 0 p0 e0, HP.out.row 1 p1 e1, HP.out.row 2 p2 e2⟩ (fun hHeld => ?_)
        clear hK K
        refine norm_ (a' := ?_) ?_ ?_
        rotate_left
        · show Act.put _ (some 5) _ = _
          simp only [Act.put, nS, i64_w, i32_w]
          rfl
        refine one_ (i := 13) (N := some 39) #[Y_, Y_, Y_, Y_, Y_, Y_, Y_, Y_, Y_, Y_, Y_, Y_, Y_, Y_, Z_, Y_, Z_] rfl rfl (one_of HT_.out (by kernel_rfl)) (by decide) (fun K hK => ?_)
        refine goes_ Tryd.func20 (by kernel_rfl) rfl #[.string p1] (by rfl) rfl rfl (by (try simp only [List.map_toArray, List.map_cons, List.map_nil]); first | done | rfl) ?_
        refine (h3_ _).mono ?_
        rintro e w1 ⟨rfl, hb⟩
        refine ⟨_, rfl, ?_⟩
        have n0_ := Aside0.mk (PX.step HP.out hb)
        clear HP
        have HP := n0_
        clear n0_
        clear hb
        refine hK.out _ _ ⟨HP.out.row 0 p0 e0, HP.out.row 1 p1 e1, HP.out.row 2 p2 e2⟩ (fun hHeld => ?_)
        clear hK K
        refine norm_ (a' := ?_) ?_ ?_
        rotate_left
        · show Act.put _ (some 39) _ = _
          simp only [Act.put, nS, i64_w, i32_w]
          rfl
        refine pure_ (i := 14) (N := some 40) (v := ?_) (a' := ?_) #[Y_, Y_, Y_, Y_, Y_, Y_, Y_, Y_, Y_, Y_, Y_, Y_, Y_, Y_, Y_, Y_, Z_] rfl rfl (any_of HT_.out (by kernel_rfl)) (fun _ _ _ h => h) (Or.inl ⟨by rfl, ?_⟩) ?_ ?_
        rotate_left
        · intro w'; go_simp; with_reducible rfl
        rotate_left
        · simp only [Act.put, nS, i64_w, i32_w]; rfl
        refine one_ (i := 16) (N := none) #[Y_, Y_, Y_, Y_, Y_, Y_, Y_, Y_, Y_, Y_, Y_, Y_, Y_, Y_, Y_, Y_, Y_] rfl rfl (one_of HT_.out (by kernel_rfl)) (by decide) (fun K hK => ?_)
        refine skip_ (by rfl) rfl (store_run _ _ 28 zS (sP kk pp ⟨#[]⟩ ⟨#[]⟩ 0 dd) HP.out.k3 (.tmp 5) (.tmp 40) rfl rfl rfl (by kernel_rfl) rfl (sP_one _ _ _ _ _ _)) ?_
        have n0_ := Aside0.mk (PX.row_ HP.out (sP kk pp ⟨#[]⟩ ⟨#[]⟩ 0 dd))
        clear HP
        have HP := n0_
        clear n0_
        refine hK.out _ _ ⟨HP.out.row 0 p0 e0, HP.out.row 1 p1 e1, HP.out.row 2 p2 e2⟩ (fun hHeld => ?_)
        clear hK K
        refine done_ (done_of HT_.out (by kernel_rfl)) ?_
    rotate_left 2
    focus
      refine box_step (by rfl) (N := 5) rfl (cs := zS) (t := 28) ?hr ?_
      case hr => first | (go_simp; done) | (go_simp; rfl)
      intro g3 hg w5 hbox hb
      have n0_ := Aside0.mk (PX.boxed HP.out hg hbox hb)
      clear HP hg hbox hb
      have HP := n0_
      clear n0_
      refine hK.out _ _ ⟨HP.out.row 0 p0 e0, HP.out.row 1 p1 e1, HP.out.row 2 p2 e2⟩ (fun hHeld => ?_)
      clear hK K
      refine norm_ (a' := ?_) ?_ ?_
      rotate_left
      · show Act.put _ (some 5) _ = _
        simp only [Act.put, nS, i64_w, i32_w]
        rfl
      refine one_ (i := 9) (N := some 35) #[Y_, Y_, Y_, Y_, Y_, Y_, Y_, Y_, Y_, Y_, Y_, Y_, Y_, Z_, Z_, Y_, Z_] rfl rfl (one_of HT_.out (by kernel_rfl)) (by decide) (fun K hK => ?_)
      refine goes_ Tryd.func19 (by kernel_rfl) rfl #[.string p2] (by rfl) rfl rfl (by (try simp only [List.map_toArray, List.map_cons, List.map_nil]); first | done | rfl) ?_
      refine (h2 _).mono ?_
      rintro e w1 ⟨rfl, hb⟩
      refine ⟨_, rfl, ?_⟩
      have n0_ := Aside0.mk (PX.step HP.out hb)
      clear HP
      have HP := n0_
      clear n0_
      clear hb
      refine hK.out _ _ ⟨HP.out.row 0 p0 e0, HP.out.row 1 p1 e1, HP.out.row 2 p2 e2⟩ (fun hHeld => ?_)
      clear hK K
      refine norm_ (a' := ?_) ?_ ?_
      rotate_left
      · show Act.put _ (some 35) _ = _
        simp only [Act.put, nS, i64_w, i32_w]
        rfl
      refine one_ (i := 13) (N := some 39) #[Y_, Y_, Y_, Y_, Y_, Y_, Y_, Y_, Y_, Y_, Y_, Y_, Y_, Y_, Z_, Y_, Z_] rfl rfl (one_of HT_.out (by kernel_rfl)) (by decide) (fun K hK => ?_)
      refine goes_ Tryd.func20 (by kernel_rfl) rfl #[.string p1] (by rfl) rfl rfl (by (try simp only [List.map_toArray, List.map_cons, List.map_nil]); first | done | rfl) ?_
      refine (h3_ _).mono ?_
      rintro e w1 ⟨rfl, hb⟩
      refine ⟨_, rfl, ?_⟩
      have n0_ := Aside0.mk (PX.step HP.out hb)
      clear HP
      have HP := n0_
      clear n0_
      clear hb
      refine hK.out _ _ ⟨HP.out.row 0 p0 e0, HP.out.row 1 p1 e1, HP.out.row 2 p2 e2⟩ (fun hHeld => ?_)
      clear hK K
      refine norm_ (a' := ?_) ?_ ?_
      rotate_left
      · show Act.put _ (some 39) _ = _
        simp only [Act.put, nS, i64_w, i32_w]
        rfl
      refine pure_ (i := 14) (N := some 40) (v := ?_) (a' := ?_) #[Y_, Y_, Y_, Y_, Y_, Y_, Y_, Y_, Y_, Y_, Y_, Y_, Y_, Y_, Y_, Y_, Z_] rfl rfl (any_of HT_.out (by kernel_rfl)) (fun _ _ _ h => h) (Or.inl ⟨by rfl, ?_⟩) ?_ ?_
      rotate_left
      · intro w'; go_simp; with_reducible rfl
      rotate_left
      · simp only [Act.put, nS, i64_w, i32_w]; rfl
      refine one_ (i := 16) (N := none) #[Y_, Y_, Y_, Y_, Y_, Y_, Y_, Y_, Y_, Y_, Y_, Y_, Y_, Y_, Y_, Y_, Y_] rfl rfl (one_of HT_.out (by kernel_rfl)) (by decide) (fun K hK => ?_)
      refine skip_ (by rfl) rfl (store_run _ _ 28 zS (sP kk pp ⟨#[]⟩ ⟨#[]⟩ 0 dd) HP.out.k3 (.tmp 5) (.tmp 40) rfl rfl rfl (by kernel_rfl) rfl (sP_one _ _ _ _ _ _)) ?_
      have n0_ := Aside0.mk (PX.row_ HP.out (sP kk pp ⟨#[]⟩ ⟨#[]⟩ 0 dd))
      clear HP
      have HP := n0_
      clear n0_
      refine hK.out _ _ ⟨HP.out.row 0 p0 e0, HP.out.row 1 p1 e1, HP.out.row 2 p2 e2⟩ (fun hHeld => ?_)
      clear hK K
      refine done_ (done_of HT_.out (by kernel_rfl)) ?_
  rotate_left 3
  focus
    refine box_step (by rfl) (N := 5) rfl (cs := zS) (t := 28) ?hr ?_
    case hr => first | (go_simp; done) | (go_simp; rfl)
    intro g3 hg w5 hbox hb
    have n0_ := Aside0.mk (PX.boxed HP.out hg hbox hb)
    clear HP hg hbox hb
    have HP := n0_
    clear n0_
    refine hK.out _ _ ⟨HP.out.row 0 p0 e0, HP.out.row 1 p1 e1, HP.out.row 2 p2 e2⟩ (fun hHeld => ?_)
    clear hK K
    refine norm_ (a' := ?_) ?_ ?_
    rotate_left
    · show Act.put _ (some 5) _ = _
      simp only [Act.put, nS, i64_w, i32_w]
      rfl
    refine one_ (i := 4) (N := some 30) #[Y_, Y_, Y_, Y_, Y_, Z_, Y_, Y_, Y_, Z_, Y_, Y_, Y_, Z_, Z_, Y_, Z_] rfl rfl (one_of HT_.out (by kernel_rfl)) (by decide) (fun K hK => ?_)
    refine goes_ Tryd.func18 (by kernel_rfl) rfl #[.string kB7, .int .u8 c0] (by rfl) rfl rfl (by (try simp only [List.map_toArray, List.map_cons, List.map_nil]); first | done | rfl) ?_
    refine (h1 _).mono ?_
    rintro e w1 ⟨rfl, hb⟩
    refine ⟨_, rfl, ?_⟩
    have n0_ := Aside0.mk (PX.step HP.out hb)
    clear HP
    have HP := n0_
    clear n0_
    clear hb
    refine hK.out _ _ ⟨HP.out.row 0 p0 e0, HP.out.row 1 p1 e1, HP.out.row 2 p2 e2⟩ (fun hHeld => ?_)
    clear hK K
    refine norm_ (a' := ?_) ?_ ?_
    rotate_left
    · show Act.put _ (some 30) _ = _
      simp only [Act.put, nS, i64_w, i32_w]
      rfl
    refine pure_ (i := 5) (N := some 31) (v := ?_) (a' := ?_) #[Y_, Y_, Y_, Y_, Y_, Y_, Y_, Y_, Y_, Z_, Y_, Y_, Y_, Z_, Z_, Y_, Z_] rfl rfl (any_of HT_.out (by kernel_rfl)) (fun _ _ _ h => h) (Or.inl ⟨by rfl, ?_⟩) ?_ ?_
    rotate_left
    · intro w'; go_simp; with_reducible rfl
    rotate_left
    · simp only [Act.put, nS, i64_w, i32_w]; rfl
    refine one_ (i := 9) (N := some 35) #[Y_, Y_, Y_, Y_, Y_, Y_, Y_, Y_, Y_, Y_, Y_, Y_, Y_, Z_, Z_, Y_, Z_] rfl rfl (one_of HT_.out (by kernel_rfl)) (by decide) (fun K hK => ?_)
    refine goes_ Tryd.func19 (by kernel_rfl) rfl #[.string p2] (by rfl) rfl rfl (by (try simp only [List.map_toArray, List.map_cons, List.map_nil]); first | done | rfl) ?_
    refine (h2 _).mono ?_
    rintro e w1 ⟨rfl, hb⟩
    refine ⟨_, rfl, ?_⟩
    have n0_ := Aside0.mk (PX.step HP.out hb)
    clear HP
    have HP := n0_
    clear n0_
    clear hb
    refine hK.out _ _ ⟨HP.out.row 0 p0 e0, HP.out.row 1 p1 e1, HP.out.row 2 p2 e2⟩ (fun hHeld => ?_)
    clear hK K
    refine norm_ (a' := ?_) ?_ ?_
    rotate_left
    · show Act.put _ (some 35) _ = _
      simp only [Act.put, nS, i64_w, i32_w]
      rfl
    refine one_ (i := 13) (N := some 39) #[Y_, Y_, Y_, Y_, Y_, Y_, Y_, Y_, Y_, Y_, Y_, Y_, Y_, Y_, Z_, Y_, Z_] rfl rfl (one_of HT_.out (by kernel_rfl)) (by decide) (fun K hK => ?_)
    refine goes_ Tryd.func20 (by kernel_rfl) rfl #[.string p1] (by rfl) rfl rfl (by (try simp only [List.map_toArray, List.map_cons, List.map_nil]); first | done | rfl) ?_
    refine (h3_ _).mono ?_
    rintro e w1 ⟨rfl, hb⟩
    refine ⟨_, rfl, ?_⟩
    have n0_ := Aside0.mk (PX.step HP.out hb)
    clear HP
    have HP := n0_
    clear n0_
    clear hb
    refine hK.out _ _ ⟨HP.out.row 0 p0 e0, HP.out.row 1 p1 e1, HP.out.row 2 p2 e2⟩ (fun hHeld => ?_)
    clear hK K
    refine norm_ (a' := ?_) ?_ ?_
    rotate_left
    · show Act.put _ (some 39) _ = _
      simp only [Act.put, nS, i64_w, i32_w]
      rfl
    refine pure_ (i := 14) (N := some 40) (v := ?_) (a' := ?_) #[Y_, Y_, Y_, Y_, Y_, Y_, Y_, Y_, Y_, Y_, Y_, Y_, Y_, Y_, Y_, Y_, Z_] rfl rfl (any_of HT_.out (by kernel_rfl)) (fun _ _ _ h => h) (Or.inl ⟨by rfl, ?_⟩) ?_ ?_
    rotate_left
    · intro w'; go_simp; with_reducible rfl
    rotate_left
    · simp only [Act.put, nS, i64_w, i32_w]; rfl
    refine one_ (i := 16) (N := none) #[Y_, Y_, Y_, Y_, Y_, Y_, Y_, Y_, Y_, Y_, Y_, Y_, Y_, Y_, Y_, Y_, Y_] rfl rfl (one_of HT_.out (by kernel_rfl)) (by decide) (fun K hK => ?_)
    refine skip_ (by rfl) rfl (store_run _ _ 28 zS (sP kk pp ⟨#[]⟩ ⟨#[]⟩ 0 dd) HP.out.k3 (.tmp 5) (.tmp 40) rfl rfl rfl (by kernel_rfl) rfl (sP_one _ _ _ _ _ _)) ?_
    have n0_ := Aside0.mk (PX.row_ HP.out (sP kk pp ⟨#[]⟩ ⟨#[]⟩ 0 dd))
    clear HP
    have HP := n0_
    clear n0_
    refine hK.out _ _ ⟨HP.out.row 0 p0 e0, HP.out.row 1 p1 e1, HP.out.row 2 p2 e2⟩ (fun hHeld => ?_)
    clear hK K
    refine done_ (done_of HT_.out (by kernel_rfl)) ?_
  all_goals
    have hx0 := HP.out.row 0 p0 e0
    by_cases hl4 : l.length = 4
    · have e4 : ((l.length : Int) == 4) = true := beq_iff_eq.2 (by omega)
      have e5 : ((3 : Int) < (l.length : Int)) = True := eq_true (by omega)
      have e6 : (3 < l.length) = True := eq_true (by omega)
      by_cases ht : tt > 0
      · have ht1 : (0 < tt) = True := eq_true ht
        rw [if_pos ht] at h6
        by_cases he : er = 0
        · subst he
          by_cases ha : again = a0
          · subst ha
            have q1 : (again.toList == again.toList) = true := beq_self_eq_true _
            go_wp2_with (first | (go_at_call 18; (with_reducible refine (h4_ _).mono ?_); rintro e w6 ⟨rfl, hb⟩; have n0_ := Aside0.mk (PX.step HP.out hb); clear HP hb; have HP := n0_; clear n0_; have hcz4 := blk_cell HP.out.k3 4; have hfz4 := blk_frozen HP.out.k3 4; change _ = some _ at hcz4; have hk1 := blk_cell HP.out.k3 1; change _ = some (Value.string pp) at hk1; have hcz3 := blk_cell HP.out.k3 3; have hfz3 := blk_frozen HP.out.k3 3; change _ = some _ at hcz3; have n1_ := Aside0.mk (PX.put HP.out 4 (.int .i64 tt) (sP kk pp ⟨#[]⟩ ⟨#[]⟩ tt dd) rfl); have n0_ := Aside0.mk (PX.put n1_.out 3 (.string pp) (sP kk pp ⟨#[]⟩ pp tt dd) rfl); clear n1_; clear HP; have HP := n0_; clear n0_; try clear hx0; have hx3 := HP.out.row 3 p3 (e3 hl4)) | (go_at_call 19; (with_reducible refine (h5 hl4 _).mono ?_); rintro e w7 ⟨rfl, hb⟩; have n0_ := Aside0.mk (PX.step HP.out hb); clear HP hb; have HP := n0_; clear n0_; have hcz2 := blk_cell HP.out.k3 2; have hfz2 := blk_frozen HP.out.k3 2; change _ = some _ at hcz2; have n0_ := Aside0.mk (PX.put HP.out 2 (.string qq) (sP kk pp qq pp tt dd) rfl); clear HP; have HP := n0_; clear n0_) | ((with_reducible refine gate_dst (N := 65) rfl ?_); refine wpList_load_row rfl 28 (.tmp 5) rfl g3 rfl 28 _ (0, 0) _ HP.out.k3 hu1 rfl (by kernel_rfl) ?_) | (go_at_call 21; (with_reducible refine (h6 _).mono ?_); rintro e w9 ⟨rfl, hb⟩; have n0_ := Aside0.mk (PX.step HP.out hb); clear HP hb; have HP := n0_; clear n0_) | ((with_reducible refine gate_dst (N := 77) rfl ?_); refine wpList_load_row rfl 28 (.tmp 5) rfl g3 rfl 28 _ (0, 0) _ HP.out.k3 hu1 rfl (by kernel_rfl) ?_) | ((with_reducible refine gate_store (t := 28) (p := 2) rfl ?_); refine wpList_store_rowTo rfl 28 (.tmp 2) (.tmp 77) rfl rfl w.heap.size (sP kk pp qq pp tt dd) rfl rfl 28 zS HP.out.res (by kernel_rfl) rfl (sP_one _ _ _ _ _ _) ?_))
            refine bodyPost_ret (results_ct rfl _ _ w.heap.size 28 (sP kk pp qq pp tt dd) (0, 0) _ rfl (setRow_heap _ _ zS _ 28 (0, 0) HP.out.res) hu1 rfl (by kernel_rfl)) rfl ?_
            exact ⟨by rw [hres.out]; simp [ht1], below_setRow HP.out.below (Nat.le_refl _) _⟩
          · have q1 : (again.toList == a0.toList) = false := beq_eq_false_iff_ne.2 (fun e => ha (ByteArray.ext (Array.toList_inj.1 (by rwa [ByteArray.toList_eq, ByteArray.toList_eq] at e))))
            go_wp2_with (first | (go_at_call 18; (with_reducible refine (h4_ _).mono ?_); rintro e w6 ⟨rfl, hb⟩; have n0_ := Aside0.mk (PX.step HP.out hb); clear HP hb; have HP := n0_; clear n0_; have hcz4 := blk_cell HP.out.k3 4; have hfz4 := blk_frozen HP.out.k3 4; change _ = some _ at hcz4; have hk1 := blk_cell HP.out.k3 1; change _ = some (Value.string pp) at hk1; have hcz3 := blk_cell HP.out.k3 3; have hfz3 := blk_frozen HP.out.k3 3; change _ = some _ at hcz3; have n1_ := Aside0.mk (PX.put HP.out 4 (.int .i64 tt) (sP kk pp ⟨#[]⟩ ⟨#[]⟩ tt dd) rfl); have n0_ := Aside0.mk (PX.put n1_.out 3 (.string pp) (sP kk pp ⟨#[]⟩ pp tt dd) rfl); clear n1_; clear HP; have HP := n0_; clear n0_; try clear hx0; have hx3 := HP.out.row 3 p3 (e3 hl4)) | (go_at_call 19; (with_reducible refine (h5 hl4 _).mono ?_); rintro e w7 ⟨rfl, hb⟩; have n0_ := Aside0.mk (PX.step HP.out hb); clear HP hb; have HP := n0_; clear n0_; have hcz2 := blk_cell HP.out.k3 2; have hfz2 := blk_frozen HP.out.k3 2; change _ = some _ at hcz2; have n0_ := Aside0.mk (PX.put HP.out 2 (.string qq) (sP kk pp qq pp tt dd) rfl); clear HP; have HP := n0_; clear n0_) | ((with_reducible refine gate_dst (N := 65) rfl ?_); refine wpList_load_row rfl 28 (.tmp 5) rfl g3 rfl 28 _ (0, 0) _ HP.out.k3 hu1 rfl (by kernel_rfl) ?_) | (go_at_call 21; (with_reducible refine (h6 _).mono ?_); rintro e w9 ⟨rfl, hb⟩; have n0_ := Aside0.mk (PX.step HP.out hb); clear HP hb; have HP := n0_; clear n0_) | ((with_reducible refine gate_store (t := 28) (p := 2) rfl ?_); refine wpList_store_rowTo rfl 28 (.tmp 2) (.tmp 76) rfl rfl w.heap.size zS rfl rfl 28 zS HP.out.res (by kernel_rfl) rfl (sP_one _ _ _ _ _ _) ?_))
            refine bodyPost_ret (results_ct rfl _ _ w.heap.size 28 zS (0, 0) _ rfl (setRow_heap _ _ zS _ 28 (0, 0) HP.out.res) hu1 rfl (by kernel_rfl)) rfl ?_
            exact ⟨by rw [hres.out]; rw [if_neg (fun h => ha h.2)]; rfl, below_setRow HP.out.below (Nat.le_refl _) _⟩
        · have q2 : (er != 0) = true := bne_iff_ne.2 he
          go_wp2_with (first | (go_at_call 18; (with_reducible refine (h4_ _).mono ?_); rintro e w6 ⟨rfl, hb⟩; have n0_ := Aside0.mk (PX.step HP.out hb); clear HP hb; have HP := n0_; clear n0_; have hcz4 := blk_cell HP.out.k3 4; have hfz4 := blk_frozen HP.out.k3 4; change _ = some _ at hcz4; have hk1 := blk_cell HP.out.k3 1; change _ = some (Value.string pp) at hk1; have hcz3 := blk_cell HP.out.k3 3; have hfz3 := blk_frozen HP.out.k3 3; change _ = some _ at hcz3; have n1_ := Aside0.mk (PX.put HP.out 4 (.int .i64 tt) (sP kk pp ⟨#[]⟩ ⟨#[]⟩ tt dd) rfl); have n0_ := Aside0.mk (PX.put n1_.out 3 (.string pp) (sP kk pp ⟨#[]⟩ pp tt dd) rfl); clear n1_; clear HP; have HP := n0_; clear n0_; try clear hx0; have hx3 := HP.out.row 3 p3 (e3 hl4)) | (go_at_call 19; (with_reducible refine (h5 hl4 _).mono ?_); rintro e w7 ⟨rfl, hb⟩; have n0_ := Aside0.mk (PX.step HP.out hb); clear HP hb; have HP := n0_; clear n0_; have hcz2 := blk_cell HP.out.k3 2; have hfz2 := blk_frozen HP.out.k3 2; change _ = some _ at hcz2; have n0_ := Aside0.mk (PX.put HP.out 2 (.string qq) (sP kk pp qq pp tt dd) rfl); clear HP; have HP := n0_; clear n0_) | ((with_reducible refine gate_dst (N := 65) rfl ?_); refine wpList_load_row rfl 28 (.tmp 5) rfl g3 rfl 28 _ (0, 0) _ HP.out.k3 hu1 rfl (by kernel_rfl) ?_) | (go_at_call 21; (with_reducible refine (h6 _).mono ?_); rintro e w9 ⟨rfl, hb⟩; have n0_ := Aside0.mk (PX.step HP.out hb); clear HP hb; have HP := n0_; clear n0_) | ((with_reducible refine gate_store (t := 28) (p := 2) rfl ?_); refine wpList_store_rowTo rfl 28 (.tmp 2) (.tmp 76) rfl rfl w.heap.size zS rfl rfl 28 zS HP.out.res (by kernel_rfl) rfl (sP_one _ _ _ _ _ _) ?_))
          refine bodyPost_ret (results_ct rfl _ _ w.heap.size 28 zS (0, 0) _ rfl (setRow_heap _ _ zS _ 28 (0, 0) HP.out.res) hu1 rfl (by kernel_rfl)) rfl ?_
          exact ⟨by rw [hres.out]; rw [if_neg (fun h => he h.1)]; rfl, below_setRow HP.out.below (Nat.le_refl _) _⟩
      · have ht1 : (0 < tt) = False := eq_false ht
        rw [if_neg ht] at h6
        by_cases he : er = 0
        · subst he
          by_cases ha : again = a0
          · subst ha
            have q1 : (again.toList == again.toList) = true := beq_self_eq_true _
            go_wp2_with (first | (go_at_call 18; (with_reducible refine (h4_ _).mono ?_); rintro e w6 ⟨rfl, hb⟩; have n0_ := Aside0.mk (PX.step HP.out hb); clear HP hb; have HP := n0_; clear n0_; have hcz4 := blk_cell HP.out.k3 4; have hfz4 := blk_frozen HP.out.k3 4; change _ = some _ at hcz4; have hk1 := blk_cell HP.out.k3 1; change _ = some (Value.string pp) at hk1; have hcz3 := blk_cell HP.out.k3 3; have hfz3 := blk_frozen HP.out.k3 3; change _ = some _ at hcz3; have n0_ := Aside0.mk (PX.put HP.out 4 (.int .i64 tt) (sP kk pp ⟨#[]⟩ ⟨#[]⟩ tt dd) rfl); clear HP; have HP := n0_; clear n0_; try clear hx0; have hx3 := HP.out.row 3 p3 (e3 hl4)) | (go_at_call 19; (with_reducible refine (h5 hl4 _).mono ?_); rintro e w7 ⟨rfl, hb⟩; have n0_ := Aside0.mk (PX.step HP.out hb); clear HP hb; have HP := n0_; clear n0_; have hcz2 := blk_cell HP.out.k3 2; have hfz2 := blk_frozen HP.out.k3 2; change _ = some _ at hcz2; have n0_ := Aside0.mk (PX.put HP.out 2 (.string qq) (sP kk pp qq ⟨#[]⟩ tt dd) rfl); clear HP; have HP := n0_; clear n0_) | ((with_reducible refine gate_dst (N := 65) rfl ?_); refine wpList_load_row rfl 28 (.tmp 5) rfl g3 rfl 28 _ (0, 0) _ HP.out.k3 hu1 rfl (by kernel_rfl) ?_) | (go_at_call 21; (with_reducible refine (h6 _).mono ?_); rintro e w9 ⟨rfl, hb⟩; have n0_ := Aside0.mk (PX.step HP.out hb); clear HP hb; have HP := n0_; clear n0_) | ((with_reducible refine gate_dst (N := 77) rfl ?_); refine wpList_load_row rfl 28 (.tmp 5) rfl g3 rfl 28 _ (0, 0) _ HP.out.k3 hu1 rfl (by kernel_rfl) ?_) | ((with_reducible refine gate_store (t := 28) (p := 2) rfl ?_); refine wpList_store_rowTo rfl 28 (.tmp 2) (.tmp 77) rfl rfl w.heap.size (sP kk pp qq ⟨#[]⟩ tt dd) rfl rfl 28 zS HP.out.res (by kernel_rfl) rfl (sP_one _ _ _ _ _ _) ?_))
            refine bodyPost_ret (results_ct rfl _ _ w.heap.size 28 (sP kk pp qq ⟨#[]⟩ tt dd) (0, 0) _ rfl (setRow_heap _ _ zS _ 28 (0, 0) HP.out.res) hu1 rfl (by kernel_rfl)) rfl ?_
            exact ⟨by rw [hres.out]; simp [ht1], below_setRow HP.out.below (Nat.le_refl _) _⟩
          · have q1 : (again.toList == a0.toList) = false := beq_eq_false_iff_ne.2 (fun e => ha (ByteArray.ext (Array.toList_inj.1 (by rwa [ByteArray.toList_eq, ByteArray.toList_eq] at e))))
            go_wp2_with (first | (go_at_call 18; (with_reducible refine (h4_ _).mono ?_); rintro e w6 ⟨rfl, hb⟩; have n0_ := Aside0.mk (PX.step HP.out hb); clear HP hb; have HP := n0_; clear n0_; have hcz4 := blk_cell HP.out.k3 4; have hfz4 := blk_frozen HP.out.k3 4; change _ = some _ at hcz4; have hk1 := blk_cell HP.out.k3 1; change _ = some (Value.string pp) at hk1; have hcz3 := blk_cell HP.out.k3 3; have hfz3 := blk_frozen HP.out.k3 3; change _ = some _ at hcz3; have n0_ := Aside0.mk (PX.put HP.out 4 (.int .i64 tt) (sP kk pp ⟨#[]⟩ ⟨#[]⟩ tt dd) rfl); clear HP; have HP := n0_; clear n0_; try clear hx0; have hx3 := HP.out.row 3 p3 (e3 hl4)) | (go_at_call 19; (with_reducible refine (h5 hl4 _).mono ?_); rintro e w7 ⟨rfl, hb⟩; have n0_ := Aside0.mk (PX.step HP.out hb); clear HP hb; have HP := n0_; clear n0_; have hcz2 := blk_cell HP.out.k3 2; have hfz2 := blk_frozen HP.out.k3 2; change _ = some _ at hcz2; have n0_ := Aside0.mk (PX.put HP.out 2 (.string qq) (sP kk pp qq ⟨#[]⟩ tt dd) rfl); clear HP; have HP := n0_; clear n0_) | ((with_reducible refine gate_dst (N := 65) rfl ?_); refine wpList_load_row rfl 28 (.tmp 5) rfl g3 rfl 28 _ (0, 0) _ HP.out.k3 hu1 rfl (by kernel_rfl) ?_) | (go_at_call 21; (with_reducible refine (h6 _).mono ?_); rintro e w9 ⟨rfl, hb⟩; have n0_ := Aside0.mk (PX.step HP.out hb); clear HP hb; have HP := n0_; clear n0_) | ((with_reducible refine gate_store (t := 28) (p := 2) rfl ?_); refine wpList_store_rowTo rfl 28 (.tmp 2) (.tmp 76) rfl rfl w.heap.size zS rfl rfl 28 zS HP.out.res (by kernel_rfl) rfl (sP_one _ _ _ _ _ _) ?_))
            refine bodyPost_ret (results_ct rfl _ _ w.heap.size 28 zS (0, 0) _ rfl (setRow_heap _ _ zS _ 28 (0, 0) HP.out.res) hu1 rfl (by kernel_rfl)) rfl ?_
            exact ⟨by rw [hres.out]; rw [if_neg (fun h => ha h.2)]; rfl, below_setRow HP.out.below (Nat.le_refl _) _⟩
        · have q2 : (er != 0) = true := bne_iff_ne.2 he
          go_wp2_with (first | (go_at_call 18; (with_reducible refine (h4_ _).mono ?_); rintro e w6 ⟨rfl, hb⟩; have n0_ := Aside0.mk (PX.step HP.out hb); clear HP hb; have HP := n0_; clear n0_; have hcz4 := blk_cell HP.out.k3 4; have hfz4 := blk_frozen HP.out.k3 4; change _ = some _ at hcz4; have hk1 := blk_cell HP.out.k3 1; change _ = some (Value.string pp) at hk1; have hcz3 := blk_cell HP.out.k3 3; have hfz3 := blk_frozen HP.out.k3 3; change _ = some _ at hcz3; have n0_ := Aside0.mk (PX.put HP.out 4 (.int .i64 tt) (sP kk pp ⟨#[]⟩ ⟨#[]⟩ tt dd) rfl); clear HP; have HP := n0_; clear n0_; try clear hx0; have hx3 := HP.out.row 3 p3 (e3 hl4)) | (go_at_call 19; (with_reducible refine (h5 hl4 _).mono ?_); rintro e w7 ⟨rfl, hb⟩; have n0_ := Aside0.mk (PX.step HP.out hb); clear HP hb; have HP := n0_; clear n0_; have hcz2 := blk_cell HP.out.k3 2; have hfz2 := blk_frozen HP.out.k3 2; change _ = some _ at hcz2; have n0_ := Aside0.mk (PX.put HP.out 2 (.string qq) (sP kk pp qq ⟨#[]⟩ tt dd) rfl); clear HP; have HP := n0_; clear n0_) | ((with_reducible refine gate_dst (N := 65) rfl ?_); refine wpList_load_row rfl 28 (.tmp 5) rfl g3 rfl 28 _ (0, 0) _ HP.out.k3 hu1 rfl (by kernel_rfl) ?_) | (go_at_call 21; (with_reducible refine (h6 _).mono ?_); rintro e w9 ⟨rfl, hb⟩; have n0_ := Aside0.mk (PX.step HP.out hb); clear HP hb; have HP := n0_; clear n0_) | ((with_reducible refine gate_store (t := 28) (p := 2) rfl ?_); refine wpList_store_rowTo rfl 28 (.tmp 2) (.tmp 76) rfl rfl w.heap.size zS rfl rfl 28 zS HP.out.res (by kernel_rfl) rfl (sP_one _ _ _ _ _ _) ?_))
          refine bodyPost_ret (results_ct rfl _ _ w.heap.size 28 zS (0, 0) _ rfl (setRow_heap _ _ zS _ 28 (0, 0) HP.out.res) hu1 rfl (by kernel_rfl)) rfl ?_
          exact ⟨by rw [hres.out]; rw [if_neg (fun h => he h.1)]; rfl, below_setRow HP.out.below (Nat.le_refl _) _⟩
    · have e4 : ((l.length : Int) == 4) = false := beq_eq_false_iff_ne.2 (by omega)
      obtain hqq := hq4 hl4
      subst hqq
      by_cases ht : tt > 0
      · have ht1 : (0 < tt) = True := eq_true ht
        rw [if_pos ht] at h6
        by_cases he : er = 0
        · subst he
          by_cases ha : again = a0
          · subst ha
            have q1 : (again.toList == again.toList) = true := beq_self_eq_true _
            go_wp2_with (first | (go_at_call 18; (with_reducible refine (h4_ _).mono ?_); rintro e w6 ⟨rfl, hb⟩; have n0_ := Aside0.mk (PX.step HP.out hb); clear HP hb; have HP := n0_; clear n0_; have hcz4 := blk_cell HP.out.k3 4; have hfz4 := blk_frozen HP.out.k3 4; change _ = some _ at hcz4; have hk1 := blk_cell HP.out.k3 1; change _ = some (Value.string pp) at hk1; have hcz3 := blk_cell HP.out.k3 3; have hfz3 := blk_frozen HP.out.k3 3; change _ = some _ at hcz3; have n1_ := Aside0.mk (PX.put HP.out 4 (.int .i64 tt) (sP kk pp ⟨#[]⟩ ⟨#[]⟩ tt dd) rfl); have n0_ := Aside0.mk (PX.put n1_.out 3 (.string pp) (sP kk pp ⟨#[]⟩ pp tt dd) rfl); clear n1_; clear HP; have HP := n0_; clear n0_; try clear hx0) | ((with_reducible refine gate_dst (N := 65) rfl ?_); refine wpList_load_row rfl 28 (.tmp 5) rfl g3 rfl 28 _ (0, 0) _ HP.out.k3 hu1 rfl (by kernel_rfl) ?_) | (go_at_call 21; (with_reducible refine (h6 _).mono ?_); rintro e w9 ⟨rfl, hb⟩; have n0_ := Aside0.mk (PX.step HP.out hb); clear HP hb; have HP := n0_; clear n0_) | ((with_reducible refine gate_dst (N := 77) rfl ?_); refine wpList_load_row rfl 28 (.tmp 5) rfl g3 rfl 28 _ (0, 0) _ HP.out.k3 hu1 rfl (by kernel_rfl) ?_) | ((with_reducible refine gate_store (t := 28) (p := 2) rfl ?_); refine wpList_store_rowTo rfl 28 (.tmp 2) (.tmp 77) rfl rfl w.heap.size (sP kk pp ⟨#[]⟩ pp tt dd) rfl rfl 28 zS HP.out.res (by kernel_rfl) rfl (sP_one _ _ _ _ _ _) ?_))
            refine bodyPost_ret (results_ct rfl _ _ w.heap.size 28 (sP kk pp ⟨#[]⟩ pp tt dd) (0, 0) _ rfl (setRow_heap _ _ zS _ 28 (0, 0) HP.out.res) hu1 rfl (by kernel_rfl)) rfl ?_
            exact ⟨by rw [hres.out]; simp [ht1], below_setRow HP.out.below (Nat.le_refl _) _⟩
          · have q1 : (again.toList == a0.toList) = false := beq_eq_false_iff_ne.2 (fun e => ha (ByteArray.ext (Array.toList_inj.1 (by rwa [ByteArray.toList_eq, ByteArray.toList_eq] at e))))
            go_wp2_with (first | (go_at_call 18; (with_reducible refine (h4_ _).mono ?_); rintro e w6 ⟨rfl, hb⟩; have n0_ := Aside0.mk (PX.step HP.out hb); clear HP hb; have HP := n0_; clear n0_; have hcz4 := blk_cell HP.out.k3 4; have hfz4 := blk_frozen HP.out.k3 4; change _ = some _ at hcz4; have hk1 := blk_cell HP.out.k3 1; change _ = some (Value.string pp) at hk1; have hcz3 := blk_cell HP.out.k3 3; have hfz3 := blk_frozen HP.out.k3 3; change _ = some _ at hcz3; have n1_ := Aside0.mk (PX.put HP.out 4 (.int .i64 tt) (sP kk pp ⟨#[]⟩ ⟨#[]⟩ tt dd) rfl); have n0_ := Aside0.mk (PX.put n1_.out 3 (.string pp) (sP kk pp ⟨#[]⟩ pp tt dd) rfl); clear n1_; clear HP; have HP := n0_; clear n0_; try clear hx0) | ((with_reducible refine gate_dst (N := 65) rfl ?_); refine wpList_load_row rfl 28 (.tmp 5) rfl g3 rfl 28 _ (0, 0) _ HP.out.k3 hu1 rfl (by kernel_rfl) ?_) | (go_at_call 21; (with_reducible refine (h6 _).mono ?_); rintro e w9 ⟨rfl, hb⟩; have n0_ := Aside0.mk (PX.step HP.out hb); clear HP hb; have HP := n0_; clear n0_) | ((with_reducible refine gate_store (t := 28) (p := 2) rfl ?_); refine wpList_store_rowTo rfl 28 (.tmp 2) (.tmp 76) rfl rfl w.heap.size zS rfl rfl 28 zS HP.out.res (by kernel_rfl) rfl (sP_one _ _ _ _ _ _) ?_))
            refine bodyPost_ret (results_ct rfl _ _ w.heap.size 28 zS (0, 0) _ rfl (setRow_heap _ _ zS _ 28 (0, 0) HP.out.res) hu1 rfl (by kernel_rfl)) rfl ?_
            exact ⟨by rw [hres.out]; rw [if_neg (fun h => ha h.2)]; rfl, below_setRow HP.out.below (Nat.le_refl _) _⟩
        · have q2 : (er != 0) = true := bne_iff_ne.2 he
          go_wp2_with (first | (go_at_call 18; (with_reducible refine (h4_ _).mono ?_); rintro e w6 ⟨rfl, hb⟩; have n0_ := Aside0.mk (PX.step HP.out hb); clear HP hb; have HP := n0_; clear n0_; have hcz4 := blk_cell HP.out.k3 4; have hfz4 := blk_frozen HP.out.k3 4; change _ = some _ at hcz4; have hk1 := blk_cell HP.out.k3 1; change _ = some (Value.string pp) at hk1; have hcz3 := blk_cell HP.out.k3 3; have hfz3 := blk_frozen HP.out.k3 3; change _ = some _ at hcz3; have n1_ := Aside0.mk (PX.put HP.out 4 (.int .i64 tt) (sP kk pp ⟨#[]⟩ ⟨#[]⟩ tt dd) rfl); have n0_ := Aside0.mk (PX.put n1_.out 3 (.string pp) (sP kk pp ⟨#[]⟩ pp tt dd) rfl); clear n1_; clear HP; have HP := n0_; clear n0_; try clear hx0) | ((with_reducible refine gate_dst (N := 65) rfl ?_); refine wpList_load_row rfl 28 (.tmp 5) rfl g3 rfl 28 _ (0, 0) _ HP.out.k3 hu1 rfl (by kernel_rfl) ?_) | (go_at_call 21; (with_reducible refine (h6 _).mono ?_); rintro e w9 ⟨rfl, hb⟩; have n0_ := Aside0.mk (PX.step HP.out hb); clear HP hb; have HP := n0_; clear n0_) | ((with_reducible refine gate_store (t := 28) (p := 2) rfl ?_); refine wpList_store_rowTo rfl 28 (.tmp 2) (.tmp 76) rfl rfl w.heap.size zS rfl rfl 28 zS HP.out.res (by kernel_rfl) rfl (sP_one _ _ _ _ _ _) ?_))
          refine bodyPost_ret (results_ct rfl _ _ w.heap.size 28 zS (0, 0) _ rfl (setRow_heap _ _ zS _ 28 (0, 0) HP.out.res) hu1 rfl (by kernel_rfl)) rfl ?_
          exact ⟨by rw [hres.out]; rw [if_neg (fun h => he h.1)]; rfl, below_setRow HP.out.below (Nat.le_refl _) _⟩
      · have ht1 : (0 < tt) = False := eq_false ht
        rw [if_neg ht] at h6
        by_cases he : er = 0
        · subst he
          by_cases ha : again = a0
          · subst ha
            have q1 : (again.toList == again.toList) = true := beq_self_eq_true _
            go_wp2_with (first | (go_at_call 18; (with_reducible refine (h4_ _).mono ?_); rintro e w6 ⟨rfl, hb⟩; have n0_ := Aside0.mk (PX.step HP.out hb); clear HP hb; have HP := n0_; clear n0_; have hcz4 := blk_cell HP.out.k3 4; have hfz4 := blk_frozen HP.out.k3 4; change _ = some _ at hcz4; have hk1 := blk_cell HP.out.k3 1; change _ = some (Value.string pp) at hk1; have hcz3 := blk_cell HP.out.k3 3; have hfz3 := blk_frozen HP.out.k3 3; change _ = some _ at hcz3; have n0_ := Aside0.mk (PX.put HP.out 4 (.int .i64 tt) (sP kk pp ⟨#[]⟩ ⟨#[]⟩ tt dd) rfl); clear HP; have HP := n0_; clear n0_; try clear hx0) | ((with_reducible refine gate_dst (N := 65) rfl ?_); refine wpList_load_row rfl 28 (.tmp 5) rfl g3 rfl 28 _ (0, 0) _ HP.out.k3 hu1 rfl (by kernel_rfl) ?_) | (go_at_call 21; (with_reducible refine (h6 _).mono ?_); rintro e w9 ⟨rfl, hb⟩; have n0_ := Aside0.mk (PX.step HP.out hb); clear HP hb; have HP := n0_; clear n0_) | ((with_reducible refine gate_dst (N := 77) rfl ?_); refine wpList_load_row rfl 28 (.tmp 5) rfl g3 rfl 28 _ (0, 0) _ HP.out.k3 hu1 rfl (by kernel_rfl) ?_) | ((with_reducible refine gate_store (t := 28) (p := 2) rfl ?_); refine wpList_store_rowTo rfl 28 (.tmp 2) (.tmp 77) rfl rfl w.heap.size (sP kk pp ⟨#[]⟩ ⟨#[]⟩ tt dd) rfl rfl 28 zS HP.out.res (by kernel_rfl) rfl (sP_one _ _ _ _ _ _) ?_))
            refine bodyPost_ret (results_ct rfl _ _ w.heap.size 28 (sP kk pp ⟨#[]⟩ ⟨#[]⟩ tt dd) (0, 0) _ rfl (setRow_heap _ _ zS _ 28 (0, 0) HP.out.res) hu1 rfl (by kernel_rfl)) rfl ?_
            exact ⟨by rw [hres.out]; simp [ht1], below_setRow HP.out.below (Nat.le_refl _) _⟩
          · have q1 : (again.toList == a0.toList) = false := beq_eq_false_iff_ne.2 (fun e => ha (ByteArray.ext (Array.toList_inj.1 (by rwa [ByteArray.toList_eq, ByteArray.toList_eq] at e))))
            go_wp2_with (first | (go_at_call 18; (with_reducible refine (h4_ _).mono ?_); rintro e w6 ⟨rfl, hb⟩; have n0_ := Aside0.mk (PX.step HP.out hb); clear HP hb; have HP := n0_; clear n0_; have hcz4 := blk_cell HP.out.k3 4; have hfz4 := blk_frozen HP.out.k3 4; change _ = some _ at hcz4; have hk1 := blk_cell HP.out.k3 1; change _ = some (Value.string pp) at hk1; have hcz3 := blk_cell HP.out.k3 3; have hfz3 := blk_frozen HP.out.k3 3; change _ = some _ at hcz3; have n0_ := Aside0.mk (PX.put HP.out 4 (.int .i64 tt) (sP kk pp ⟨#[]⟩ ⟨#[]⟩ tt dd) rfl); clear HP; have HP := n0_; clear n0_; try clear hx0) | ((with_reducible refine gate_dst (N := 65) rfl ?_); refine wpList_load_row rfl 28 (.tmp 5) rfl g3 rfl 28 _ (0, 0) _ HP.out.k3 hu1 rfl (by kernel_rfl) ?_) | (go_at_call 21; (with_reducible refine (h6 _).mono ?_); rintro e w9 ⟨rfl, hb⟩; have n0_ := Aside0.mk (PX.step HP.out hb); clear HP hb; have HP := n0_; clear n0_) | ((with_reducible refine gate_store (t := 28) (p := 2) rfl ?_); refine wpList_store_rowTo rfl 28 (.tmp 2) (.tmp 76) rfl rfl w.heap.size zS rfl rfl 28 zS HP.out.res (by kernel_rfl) rfl (sP_one _ _ _ _ _ _) ?_))
            refine bodyPost_ret (results_ct rfl _ _ w.heap.size 28 zS (0, 0) _ rfl (setRow_heap _ _ zS _ 28 (0, 0) HP.out.res) hu1 rfl (by kernel_rfl)) rfl ?_
            exact ⟨by rw [hres.out]; rw [if_neg (fun h => ha h.2)]; rfl, below_setRow HP.out.below (Nat.le_refl _) _⟩
        · have q2 : (er != 0) = true := bne_iff_ne.2 he
          go_wp2_with (first | (go_at_call 18; (with_reducible refine (h4_ _).mono ?_); rintro e w6 ⟨rfl, hb⟩; have n0_ := Aside0.mk (PX.step HP.out hb); clear HP hb; have HP := n0_; clear n0_; have hcz4 := blk_cell HP.out.k3 4; have hfz4 := blk_frozen HP.out.k3 4; change _ = some _ at hcz4; have hk1 := blk_cell HP.out.k3 1; change _ = some (Value.string pp) at hk1; have hcz3 := blk_cell HP.out.k3 3; have hfz3 := blk_frozen HP.out.k3 3; change _ = some _ at hcz3; have n0_ := Aside0.mk (PX.put HP.out 4 (.int .i64 tt) (sP kk pp ⟨#[]⟩ ⟨#[]⟩ tt dd) rfl); clear HP; have HP := n0_; clear n0_; try clear hx0) | ((with_reducible refine gate_dst (N := 65) rfl ?_); refine wpList_load_row rfl 28 (.tmp 5) rfl g3 rfl 28 _ (0, 0) _ HP.out.k3 hu1 rfl (by kernel_rfl) ?_) | (go_at_call 21; (with_reducible refine (h6 _).mono ?_); rintro e w9 ⟨rfl, hb⟩; have n0_ := Aside0.mk (PX.step HP.out hb); clear HP hb; have HP := n0_; clear n0_) | ((with_reducible refine gate_store (t := 28) (p := 2) rfl ?_); refine wpList_store_rowTo rfl 28 (.tmp 2) (.tmp 76) rfl rfl w.heap.size zS rfl rfl 28 zS HP.out.res (by kernel_rfl) rfl (sP_one _ _ _ _ _ _) ?_))
          refine bodyPost_ret (results_ct rfl _ _ w.heap.size 28 zS (0, 0) _ rfl (setRow_heap _ _ zS _ 28 (0, 0) HP.out.res) hu1 rfl (by kernel_rfl)) rfl ?_
          exact ⟨by rw [hres.out]; rw [if_neg (fun h => he h.1)]; rfl, below_setRow HP.out.below (Nat.le_refl _) _⟩
end Go.Proofs.YtljpcmpjfklloaaDoor.PA
