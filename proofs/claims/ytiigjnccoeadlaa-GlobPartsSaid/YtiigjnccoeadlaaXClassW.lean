/- The walks of the two functions that read a class: what they return, by the plain cls0. -/
import Derived.Great.BuildSlice
import Derived.Laws.CopyOwn
import Derived.Outline
import Derived.Test.YtiigjnccoeadlaaPAfglobmember
import Derived.Test.YtiigjnccoeadlaaPAx0
import Derived.Test.YtiigjnccoeadlaaXB1
import Derived.Test.YtiigjnccoeadlaaXGlobBase
import Derived.Test.YtiigjnccoeadlaaXGlobSpec
namespace Go.Proofs.Ytiigjnccoeadlaa.PA
open Go.RowKit Go.Proofs.YtiigjnccoeadlaaW.PrintWords Go.Proofs.YtiigjnccoeadlaaW.PrintLast Go.Proofs.YtiigjnccoeadlaaW.PrintMore
attribute [local go_sem] max2_int min2_int max_two min_two max_three min_three max_four min_four
set_option linter.unusedVariables false
set_option linter.unusedSimpArgs false
def ClsPost (a0 : ByteArray) (o : Option (Tok × List Int)) (w : World) (e : Ending) (w' : World) : Prop := Below w.heap.size w w' ∧
  match o with
  | some (t, r) => ∃ j : Nat, r = dropL a0 j ∧ j ≤ a0.size ∧ e = .returned (.tuple #[.agg (sgA (codeSg t)), .int .i64 j, .bool true])
  | none => ∃ (x : Sg) (j : Int), e = .returned (.tuple #[.agg (sgA x), .int .i64 j, .bool false])
theorem dr_below {w w' : World} (h : Drawn0 w w') : Below w.heap.size w w' := by
  obtain ⟨n, rfl⟩ := h
  exact pw_below_drewN (Below.refl _ _) n
theorem sgA_same (x y : Sg) : (sgA x).size = (sgA y).size := by rw [sgA_len, sgA_len]
theorem B2.row {s o : Nat} {w0 wr : World} {S O : Array Value} (h : B2 s o w0 wr S O) (O2 : Array Value) : B2 s o w0 (wr.setRow (w0.heap.size + 1) O2) S O2 :=
  ⟨below_setRow h.1 (Nat.le_succ _) _, (setRow_other _ _ _ _ (Nat.ne_of_lt (Nat.lt_succ_self _))).trans h.2.1, setRow_heap _ _ _ _ _ _ h.2.2⟩
theorem b2_cell {s o : Nat} {w0 wr : World} {S O : Array Value} (h : B2 s o w0 wr S O) (i : Nat) : wr.cell? ⟨w0.heap.size + 1, i, none⟩ = O[i]? := blk_cell h.2.2 i
theorem b2_at {s o : Nat} {w0 wr : World} {S : Array Value} {k c : Int} {n : Bool} {f : Nat → Bool} (h : B2 s o w0 wr S (sgA ⟨k, c, n, f⟩)) (q : Nat) (hq : q < 256) : wr.cell? ⟨w0.heap.size + 1, 3 + q, none⟩ = some (.bool (f q)) := (blk_cell h.2.2 _).trans (sgA_get _ _ hq)
theorem b2_put {s o : Nat} {w0 wr : World} {S : Array Value} {k c : Int} {n : Bool} {f : Nat → Bool} (h : B2 s o w0 wr S (sgA ⟨k, c, n, f⟩)) (q : Nat) (hq : q < 256) : B2 s o w0 (wr.setCell ⟨w0.heap.size + 1, 3 + q, none⟩ (.bool true)) S (sgA ⟨k, c, n, addS f q⟩) := by
  have := h.put (3 + q) (.bool true)
  rwa [sg_set k c n f q hq] at this
theorem rng_none (s : Nat → Bool) (lo : Nat) : rngS s lo ((lo : Int) - 1) = s := by
  funext i
  have : (decide ((lo : Int) ≤ (i : Int)) && decide ((i : Int) ≤ (lo : Int) - 1)) = false := by
    rw [Bool.and_eq_false_iff, decide_eq_false_iff_not, decide_eq_false_iff_not]
    omega
  simp only [rngS, this, Bool.false_or]
theorem rng_next (s : Nat → Bool) (lo q : Nat) (h : lo ≤ q) : addS (rngS s lo ((q : Int) - 1)) q = rngS s lo (((q + 1 : Nat) : Int) - 1) := by
  funext i
  simp only [addS, rngS]
  by_cases hi : i = q
  · subst hi
    have : (decide ((lo : Int) ≤ (i : Int)) && decide ((i : Int) ≤ ((i + 1 : Nat) : Int) - 1)) = true := by
      rw [Bool.and_eq_true, decide_eq_true_iff, decide_eq_true_iff]
      omega
    rw [this]
    simp
  · have e1 : (i == q) = false := beq_eq_false_iff_ne.2 hi
    have e2 : decide ((i : Int) ≤ (q : Int) - 1) = decide ((i : Int) ≤ ((q + 1 : Nat) : Int) - 1) := by
      rw [Bool.eq_iff_iff, decide_eq_true_iff, decide_eq_true_iff]
      omega
    rw [e1, e2, Bool.false_or]
/-- The state of the loop over a class's members: it has come to place i with the members s. -/
def CInv (a0 : ByteArray) (i0 i : Nat) (s : Nat → Bool) : Prop := i0 ≤ i ∧ i ≤ a0.size ∧ (i0 < i → i0 < a0.size ∧ bt a0 (i0 : Int) ≠ 93) ∧ (i = i0 → s = noS) ∧
  ∃ n, (dropL a0 i).length < n ∧ clsL n (dropL a0 i) s = clsL ((dropL a0 i0).length + 1) (dropL a0 i0) noS
theorem CInv.start (a0 : ByteArray) (i0 : Nat) (h : i0 ≤ a0.size) : CInv a0 i0 i0 noS := ⟨Nat.le_refl _, h, fun h => absurd h (Nat.lt_irrefl _), fun _ => rfl, _, Nat.lt_succ_self _, rfl⟩
section
variable {a0 : ByteArray} {i0 i : Nat} {s : Nat → Bool} {nt : Bool}
theorem CInv.head (h : CInv a0 i0 i s) (hk : i < a0.size) (h93 : bt a0 (i : Int) ≠ 93) : i0 < a0.size ∧ bt a0 (i0 : Int) ≠ 93 := by
  obtain ⟨h1, h2, h3, _⟩ := h
  rcases Nat.lt_or_ge i0 i with hl | hl
  · exact h3 hl
  · obtain rfl : i0 = i := by omega
    exact ⟨hk, h93⟩
theorem cls1_of (h0 : i0 < a0.size) (h1 : bt a0 (i0 : Int) ≠ 93) : cls1 nt (dropL a0 i0) = clsEnd nt (clsL ((dropL a0 i0).length + 1) (dropL a0 i0) noS) := by
  rw [gl_drop a0 i0 h0]
  unfold cls1
  dsimp only
  rw [if_neg h1]
theorem CInv.close (h : CInv a0 i0 i s) (hk : i < a0.size) (h93 : bt a0 (i : Int) = 93) (hl : i0 < i) : cls1 nt (dropL a0 i0) = some (.cls nt s, dropL a0 (i + 1)) := by
  obtain ⟨h1, h2, h3, _, n, hn, he⟩ := h
  obtain ⟨g0, g1⟩ := h3 hl
  rw [cls1_of g0 g1, ← he]
  cases n with
  | zero => omega
  | succ n =>
    rw [gl_drop a0 i hk]
    rw [clsL_eq, if_pos h93]
    rfl
theorem CInv.empty (h : CInv a0 i0 i s) (hk : i < a0.size) (h93 : bt a0 (i : Int) = 93) (hl : ¬ i0 < i) : cls1 nt (dropL a0 i0) = none := by
  have h1 := h.1
  obtain rfl : i0 = i := by omega
  rw [gl_drop a0 i0 hk]
  unfold cls1
  dsimp only
  rw [if_pos h93]
theorem CInv.over (h : CInv a0 i0 i s) (hk : ¬ i < a0.size) : cls1 nt (dropL a0 i0) = none := by
  obtain ⟨h1, h2, h3, _, n, hn, he⟩ := h
  rcases Nat.lt_or_ge i0 i with hl | hl
  · obtain ⟨g0, g1⟩ := h3 hl
    rw [cls1_of g0 g1, ← he]
    cases n with
    | zero => omega
    | succ n =>
      rw [gl_end a0 i (by omega)]
      rfl
  · rw [gl_end a0 i0 (by omega)]
    rfl
theorem CInv.stop (h : CInv a0 i0 i s) (hk : i < a0.size) (h93 : bt a0 (i : Int) ≠ 93) (hm : mem1 (dropL a0 i) = none) : cls1 nt (dropL a0 i0) = none := by
  obtain ⟨g0, g1⟩ := h.head hk h93
  obtain ⟨h1, h2, h3, _, n, hn, he⟩ := h
  rw [cls1_of g0 g1, ← he]
  cases n with
  | zero => omega
  | succ n =>
    rw [gl_drop a0 i hk] at hm ⊢
    rw [clsL_eq, if_neg h93, hm]
    rfl
theorem dash_at (j : Nat) (h : j + 1 < a0.size ∧ bt a0 (j : Int) = 45 ∧ bt a0 ((j + 1 : Nat) : Int) ≠ 93) : dash (dropL a0 j) = true := by
  rw [gl_drop a0 j (by omega), gl_drop a0 (j + 1) h.1]
  simp only [dash, Bool.and_eq_true]
  exact ⟨beq_iff_eq.2 h.2.1, bne_iff_ne.2 h.2.2⟩
theorem dash_no (j : Nat) (h : ¬ (j + 1 < a0.size ∧ bt a0 (j : Int) = 45 ∧ bt a0 ((j + 1 : Nat) : Int) ≠ 93)) : dash (dropL a0 j) = false := by
  by_cases h0 : j < a0.size
  · rw [gl_drop a0 j h0]
    by_cases h1 : j + 1 < a0.size
    · rw [gl_drop a0 (j + 1) h1]
      simp only [dash]
      rw [Bool.and_eq_false_iff, beq_eq_false_iff_ne]
      by_cases h2 : bt a0 (j : Int) = 45
      · right
        have : bt a0 ((j + 1 : Nat) : Int) = 93 := Classical.not_not.1 (fun h3 => h ⟨h1, h2, h3⟩)
        rw [this]
        rfl
      · exact .inl h2
    · rw [gl_end a0 (j + 1) (by omega)]
      rfl
  · rw [gl_end a0 j (by omega)]
    rfl
theorem drop_one (j : Nat) : (dropL a0 j).drop 1 = dropL a0 (j + 1) := by rw [dropL, dropL, List.drop_drop]
theorem CInv.step (h : CInv a0 i0 i s) (hk : i < a0.size) (h93 : bt a0 (i : Int) ≠ 93) {lo : Int} {j : Nat} (hm : mem1 (dropL a0 i) = some (lo, dropL a0 j)) :
    ∃ n, (dropL a0 i).length ≤ n ∧ (if dash (dropL a0 j) = true then (match mem1 (dropL a0 (j + 1)) with | .none => .none | some hr => if hr.1 < lo then .none else clsL n hr.2 (rngS s lo hr.1)) else clsL n (dropL a0 j) (rngS s lo lo)) = clsL ((dropL a0 i0).length + 1) (dropL a0 i0) noS := by
  obtain ⟨h1, h2, h3, _, n, hn, he⟩ := h
  cases n with
  | zero => omega
  | succ n =>
    refine ⟨n, by omega, ?_⟩
    rw [← he]
    rw [gl_drop a0 i hk] at hm ⊢
    rw [clsL_eq, if_neg h93, hm]
    dsimp only
    rw [drop_one]
    rfl
theorem CInv.cut (h : CInv a0 i0 i s) (hk : i < a0.size) (h93 : bt a0 (i : Int) ≠ 93) {lo : Int} {j : Nat} (hm : mem1 (dropL a0 i) = some (lo, dropL a0 j)) (q1 : j + 1 < a0.size) (q2 : bt a0 (j : Int) = 45) (q3 : bt a0 ((j + 1 : Nat) : Int) ≠ 93) (hm' : mem1 (dropL a0 (j + 1)) = .none) : cls1 nt (dropL a0 i0) = .none := by
  obtain ⟨g0, g1⟩ := h.head hk h93
  obtain ⟨n, hn, he⟩ := h.step hk h93 hm
  rw [if_pos (dash_at j ⟨q1, q2, q3⟩), hm'] at he
  rw [cls1_of g0 g1, ← he]
  rfl
theorem CInv.low (h : CInv a0 i0 i s) (hk : i < a0.size) (h93 : bt a0 (i : Int) ≠ 93) {lo hi : Int} {j : Nat} {r : List Int} (hm : mem1 (dropL a0 i) = some (lo, dropL a0 j)) (q1 : j + 1 < a0.size) (q2 : bt a0 (j : Int) = 45) (q3 : bt a0 ((j + 1 : Nat) : Int) ≠ 93) (hm' : mem1 (dropL a0 (j + 1)) = some (hi, r)) (hlt : hi < lo) : cls1 nt (dropL a0 i0) = .none := by
  obtain ⟨g0, g1⟩ := h.head hk h93
  obtain ⟨n, hn, he⟩ := h.step hk h93 hm
  rw [if_pos (dash_at j ⟨q1, q2, q3⟩), hm'] at he
  dsimp only at he
  rw [if_pos hlt] at he
  rw [cls1_of g0 g1, ← he]
  rfl
theorem CInv.next (h : CInv a0 i0 i s) {lo hi j j2 : Nat} (hm : mem1 (dropL a0 i) = some ((lo : Int), dropL a0 j)) (hk : i < a0.size) (h93 : bt a0 (i : Int) ≠ 93)
    (hor : (j + 1 < a0.size ∧ bt a0 (j : Int) = 45 ∧ bt a0 ((j + 1 : Nat) : Int) ≠ 93 ∧ mem1 (dropL a0 (j + 1)) = some ((hi : Int), dropL a0 j2) ∧ ¬ hi < lo) ∨ (¬ (j + 1 < a0.size ∧ bt a0 (j : Int) = 45 ∧ bt a0 ((j + 1 : Nat) : Int) ≠ 93) ∧ hi = lo ∧ j2 = j)) (hl : i < j2) (hle : j2 ≤ a0.size) : CInv a0 i0 j2 (rngS s lo hi) := by
  have hh := h.head hk h93
  obtain ⟨n, hn, he⟩ := h.step hk h93 hm
  refine ⟨by have := h.1; omega, hle, fun _ => hh, fun h0 => absurd h0 (by have := h.1; omega), n, by rw [dropL_len] at hn ⊢; omega, ?_⟩
  rcases hor with ⟨q1, q2, q3, hm', hlt⟩ | ⟨hd, rfl, rfl⟩
  · rw [if_pos (dash_at j ⟨q1, q2, q3⟩), hm'] at he
    dsimp only at he
    rw [if_neg (by omega)] at he
    exact he
  · rw [if_neg (by rw [dash_no _ hd]; decide)] at he
    exact he
end
theorem clsR_start (a0 : ByteArray) (i1 : Nat) (h : i1 < a0.size ∧ bt a0 (i1 : Int) = 33) : cls0 (dropL a0 i1) = cls1 true (dropL a0 (i1 + 1)) := by
  rw [gl_drop a0 i1 h.1]
  unfold cls0
  dsimp only
  rw [if_pos h.2]
theorem clsR_start2 (a0 : ByteArray) (i1 : Nat) (h : ¬ (i1 < a0.size ∧ bt a0 (i1 : Int) = 33)) : cls0 (dropL a0 i1) = cls1 false (dropL a0 i1) := by
  by_cases h0 : i1 < a0.size
  · rw [gl_drop a0 i1 h0]
    unfold cls0
    dsimp only
    rw [if_neg (fun h1 => h ⟨h0, h1⟩)]
  · rw [gl_end a0 i1 (by omega)]
    rfl
theorem ClsPost.bad {a0 : ByteArray} {o : Option (Tok × List Int)} {w w' : World} (hb : Below w.heap.size w w') (ho : o = none) (x : Sg) (j : Int) : ClsPost a0 o w (.returned (.tuple #[.agg (sgA x), .int .i64 j, .bool false])) w' := by
  subst ho
  exact ⟨hb, x, j, rfl⟩
theorem ClsPost.good {a0 : ByteArray} {o : Option (Tok × List Int)} {w w' : World} {nt : Bool} {s : Nat → Bool} {i : Nat} {v : Value} (hb : Below w.heap.size w w') (ho : o = some (.cls nt s, dropL a0 i)) (hi : i ≤ a0.size) (hv : v = .int .i64 i) : ClsPost a0 o w (.returned (.tuple #[.agg (sgA ⟨4, 0, nt, s⟩), v, .bool true])) w' := by
  subst ho hv
  exact ⟨hb, i, rfl, hi, rfl⟩

theorem sg4_classAt_call : Try.prog.built 45 [(0, .int .i64 4)] = some (sgA ⟨4, 0, false, noS⟩) := by kernel_rfl
set_option maxHeartbeats 8000000 in
set_option maxRecDepth 100000 in
theorem classAt_call (a0 : ByteArray) (i1 : Nat) (hs : a0.size < 1000000) (hi1 : i1 ≤ a0.size) (w : World) :
    Calls Try.prog 30 #[.string a0, .int .i64 i1] w (ClsPost a0 (cls0 (dropL a0 i1)) w) := by
  have hu1 := Try.underlying45
  have sgS := sgSize1
  have ha := sgAlloc
  have HD := Aside0.mk (B2.start 45 45 w (sgA sgz) (sgA sgz))
  by_cases h33 : i1 < a0.size ∧ bt a0 (i1 : Int) = 33
  · have e0 : ((i1 : Int) < (a0.size : Int)) = True := eq_true (by omega)
    have e1 : i1 < a0.size := h33.1
    have e2 : ∀ h : i1 < a0.size, ((a0[i1]'h).toNat : Int) = 33 := fun h => by rw [← h33.2]; exact bt_at a0 i1 h
    obtain ⟨i0, hi0⟩ : ∃ x, x = i1 + 1 := ⟨_, rfl⟩
    have hR := clsR_start a0 i1 h33
    have hi0s : i0 ≤ a0.size := by omega
    clear h33 
    go_enter Try.func30, Try.ntmps30
    go_wp2_with (first | ((with_reducible refine gate_dst (N := 14) rfl ?_); refine wpList_buildTo rfl 45 #[(0, .const (.int .i64 4))] rfl (some 14) rfl (sgA ⟨4, 0, false, noS⟩) ?hf ?_; (case hf => (simp only [List.map_toArray, List.map_cons, List.map_nil]; exact sg4_classAt_call))) | ((with_reducible refine gate_store (t := 45) (p := 7) rfl ?_); refine wpList_store_rowTo rfl 45 (.tmp 7) (.tmp 14) rfl rfl (w.heap.size + 1) (sgA ⟨4, 0, false, noS⟩) rfl rfl 45 (sgA sgz) HD.out.2.2 (sgS _) (sgA_same _ _) (sgA_one _) ?_; have n0_ := Aside0.mk (B2.row HD.out (sgA ⟨4, 0, false, noS⟩)); clear HD; have HD := n0_; clear n0_; have hc2 := b2_cell HD.out 2; have hf2 := blk_frozen HD.out.2.2 2; change _ = some (Value.bool false) at hc2))
    clear e2
    have n0_ := Aside0.mk (B2.put HD.out 2 (.bool true))
    rw [sg_not] at n0_
    clear HD hc2 hf2
    have HD := n0_
    clear n0_ e0 e1
    go_loopw [1] (fun v1 wr => ∃ (i : Nat) (s : Nat → Bool), v1 = .int .i64 i ∧ Aside0 (CInv a0 i0 i s) ∧ Aside0 (B2 45 45 w wr (sgA sgz) (sgA ⟨4, 0, true, s⟩))) (fun v1 _ => a0.size - (intOf v1).toNat)
    case atStart => exact ⟨i0, noS, by rw [hi0]; go_num, ⟨CInv.start a0 i0 hi0s⟩, ⟨HD.out⟩⟩
    case round =>
      clear HD
      obtain ⟨i, s, rfl, HC, HD⟩ := hrel
      by_cases hk : i < a0.size
      · have d0 : ((i : Int) < (a0.size : Int)) = True := eq_true (by omega)
        have d1 : ∀ h : i < a0.size, ((a0[i]'h).toNat : Int) = bt a0 (i : Int) := fun h => bt_at a0 i h
        have b1 := bt_range a0 (i : Int)
        by_cases h93 : bt a0 (i : Int) = 93
        · rw [h93] at d1
          by_cases hfi : i0 < i
          · have f1 : ((i1 : Int) + 1 < (i : Int)) = True := eq_true (by omega)
            have f2 : (i1 + 1 < i) = True := eq_true (by omega)
            skip
            go_wp2_with (first | (go_at_call 33; (with_reducible first | refine (glob_member.calls 5 _ _ _ _ _ _ hm1).mono ?_ | refine (glob_member.calls 5 _ _ _ _ _ _ hm2).mono ?_); rintro e w2 ⟨rfl, hb⟩; have n0_ := Aside0.mk (B2.step HD.out (dr_below hb)); clear HD; have HD := n0_; clear n0_; clear hb) | ((with_reducible refine gate_dst (N := 96) rfl ?_); refine wpList_load_row rfl 45 (.tmp 7) rfl (w.heap.size + 1) rfl 45 (sgA ⟨4, 0, true, s⟩) (0, 0) _ HD.out.2.2 hu1 rfl (sgS _) ?_) | ((with_reducible refine gate_store (t := 45) (p := 4) rfl ?_); refine wpList_store_rowTo rfl 45 (.tmp 4) (.tmp 96) rfl rfl w.heap.size (sgA ⟨4, 0, true, s⟩) rfl rfl 45 (sgA sgz) HD.out.2.1 (sgS _) (sgA_same _ _) (sgA_one _) ?_))
            refine bodyPost_ret (results_ctt rfl _ _ w.heap.size 45 (sgA ⟨4, 0, true, s⟩) (0, 0) _ rfl (setRow_heap _ _ (sgA sgz) _ 45 (0, 0) HD.out.2.1) hu1 rfl (sgS _)) rfl ?_
            exact ClsPost.good (below_setRow HD.out.1 (Nat.le_refl _) _) (hR.trans (by rw [← hi0]; exact HC.out.close hk h93 hfi)) (by omega) (by go_num)
          · have f1 : ((i1 : Int) + 1 < (i : Int)) = False := eq_false (by omega)
            have f2 : (i1 + 1 < i) = False := eq_false (by omega)
            skip
            go_wp2_with (first | (go_at_call 33; (with_reducible first | refine (glob_member.calls 5 _ _ _ _ _ _ hm1).mono ?_ | refine (glob_member.calls 5 _ _ _ _ _ _ hm2).mono ?_); rintro e w2 ⟨rfl, hb⟩; have n0_ := Aside0.mk (B2.step HD.out (dr_below hb)); clear HD; have HD := n0_; clear n0_; clear hb) | ((with_reducible refine gate_dst (N := 96) rfl ?_); refine wpList_load_row rfl 45 (.tmp 7) rfl (w.heap.size + 1) rfl 45 (sgA ⟨4, 0, true, s⟩) (0, 0) _ HD.out.2.2 hu1 rfl (sgS _) ?_) | ((with_reducible refine gate_store (t := 45) (p := 4) rfl ?_); refine wpList_store_rowTo rfl 45 (.tmp 4) (.tmp 96) rfl rfl w.heap.size (sgA ⟨4, 0, true, s⟩) rfl rfl 45 (sgA sgz) HD.out.2.1 (sgS _) (sgA_same _ _) (sgA_one _) ?_))
            refine bodyPost_ret (results_ctt rfl _ _ w.heap.size 45 (sgA ⟨4, 0, true, s⟩) (0, 0) _ rfl (setRow_heap _ _ (sgA sgz) _ 45 (0, 0) HD.out.2.1) hu1 rfl (sgS _)) rfl ?_
            exact ClsPost.bad (below_setRow HD.out.1 (Nat.le_refl _) _) (hR.trans (by rw [← hi0]; exact HC.out.empty hk h93 hfi)) _ _
        · have d2 : (bt a0 (i : Int) != 93) = true := bne_iff_ne.2 h93
          rcases member_at a0 i hs (by omega) with ⟨lo', j, hm, hij, hj, hb', hm1⟩ | ⟨hm, hm1⟩
          · obtain ⟨lo, rfl⟩ : ∃ x : Nat, lo' = x := ⟨lo'.toNat, by rw [hb']; have := bt_range a0 ((j - 1 : Nat) : Int); omega⟩
            have hlo : lo < 256 := by have := bt_range a0 ((j - 1 : Nat) : Int); omega
            clear hb'
            have g1 : ∀ h : j < a0.size, ((a0[j]'h).toNat : Int) = bt a0 (j : Int) := fun h => bt_at a0 j h
            have g2 : ∀ h : j + 1 < a0.size, ((a0[j + 1]'h).toNat : Int) = bt a0 ((j : Int) + 1) := fun h => bt_at a0 ((j + 1 : Nat) : Int) h
            have b2 := bt_range a0 (j : Int)
            have b3 := bt_range a0 ((j + 1 : Nat) : Int)
            by_cases hd : j + 1 < a0.size ∧ bt a0 (j : Int) = 45 ∧ bt a0 ((j + 1 : Nat) : Int) ≠ 93
            · obtain ⟨q1, q2, q3⟩ := hd
              have q4 : (((j : Int) + 1) < (a0.size : Int)) = True := eq_true (by omega)
              have q5 : j < a0.size := by omega
              have q6 : (bt a0 ((j : Int) + 1) != 93) = true := bne_iff_ne.2 q3
              rw [q2] at g1
              rcases member_at a0 (j + 1) hs (by omega) with ⟨hi', j2, hm', hij2, hj2, hb2, hm2⟩ | ⟨hm', hm2⟩
              · obtain ⟨hi, rfl⟩ : ∃ x : Nat, hi' = x := ⟨hi'.toNat, by rw [hb2]; have := bt_range a0 ((j2 - 1 : Nat) : Int); omega⟩
                have hhi : hi < 256 := by have := bt_range a0 ((j2 - 1 : Nat) : Int); omega
                clear hb2
                change glob_member.f 5 a0 ((j : Int) + 1) = _ at hm2
                by_cases hlt : hi < lo
                · have r1 : ((hi : Int) < (lo : Int)) = True := eq_true (by omega)
                  go_wp2_with (first | (go_at_call 33; (with_reducible first | refine (glob_member.calls 5 _ _ _ _ _ _ hm1).mono ?_ | refine (glob_member.calls 5 _ _ _ _ _ _ hm2).mono ?_); rintro e w2 ⟨rfl, hb⟩; have n0_ := Aside0.mk (B2.step HD.out (dr_below hb)); clear HD; have HD := n0_; clear n0_; clear hb) | ((with_reducible refine gate_dst (N := 83) rfl ?_); refine wpList_load_row rfl 45 (.tmp 7) rfl (w.heap.size + 1) rfl 45 (sgA ⟨4, 0, true, s⟩) (0, 0) _ HD.out.2.2 hu1 rfl (sgS _) ?_) | ((with_reducible refine gate_store (t := 45) (p := 4) rfl ?_); refine wpList_store_rowTo rfl 45 (.tmp 4) (.tmp 83) rfl rfl w.heap.size (sgA ⟨4, 0, true, s⟩) rfl rfl 45 (sgA sgz) HD.out.2.1 (sgS _) (sgA_same _ _) (sgA_one _) ?_))
                  refine bodyPost_ret (results_ctt rfl _ _ w.heap.size 45 (sgA ⟨4, 0, true, s⟩) (0, 0) _ rfl (setRow_heap _ _ (sgA sgz) _ 45 (0, 0) HD.out.2.1) hu1 rfl (sgS _)) rfl ?_
                  exact ClsPost.bad (below_setRow HD.out.1 (Nat.le_refl _) _) (hR.trans (by rw [← hi0]; exact HC.out.low hk h93 hm q1 q2 q3 hm' (by omega))) _ _
                · have r1 : ((hi : Int) < (lo : Int)) = False := eq_false (by omega)
                  go_wp2_with (first | (go_at_call 33; (with_reducible first | refine (glob_member.calls 5 _ _ _ _ _ _ hm1).mono ?_ | refine (glob_member.calls 5 _ _ _ _ _ _ hm2).mono ?_); rintro e w2 ⟨rfl, hb⟩; have n0_ := Aside0.mk (B2.step HD.out (dr_below hb)); clear HD; have HD := n0_; clear n0_; clear hb))
                  go_loopw [13] (fun v13 wi => ∃ q : Nat, v13 = .int .i64 q ∧ lo ≤ q ∧ q ≤ hi + 1 ∧ Aside0 (B2 45 45 w wi (sgA sgz) (sgA ⟨4, 0, true, rngS s lo ((q : Int) - 1)⟩))) (fun v13 _ => hi + 1 - (intOf v13).toNat)
                  case atStart => exact ⟨lo, rfl, Nat.le_refl _, by omega, ⟨by rw [rng_none]; exact HD.out⟩⟩
                  case round =>
                    clear HD
                    obtain ⟨q, rfl, hq1, hq2, HD⟩ := hrel
                    by_cases hq : q ≤ hi
                    · have hc3 := b2_at HD.out q (by omega)
                      have hf3 := blk_frozen HD.out.2.2 (3 + q)
                      have e1 : ((q : Int) ≤ (hi : Int)) = True := eq_true (by omega)
                      have e2 : q < 256 := by omega
                      have e3 : ((q : Int) < 256) = True := eq_true (by omega)
                      go_wp2
                      have n0_ := Aside0.mk (b2_put HD.out q (by omega))
                      clear HD
                      go_roundw
                      case rel => exact ⟨q + 1, by go_num, by omega, by omega, ⟨by rw [rng_next s lo q (by omega)] at n0_; exact n0_.out⟩⟩
                      case measure => simp [intOf]; omega
                    · have e1 : ((q : Int) ≤ (hi : Int)) = False := eq_false (by omega)
                      obtain rfl : q = hi + 1 := by omega
                      go_wp2
                      go_roundw
                      case rel => exact ⟨j2, rngS s lo hi, rfl, ⟨HC.out.next hm hk h93 (.inl ⟨q1, q2, q3, hm', by omega⟩) (by omega) (by omega)⟩, ⟨by rw [show ((hi + 1 : Nat) : Int) - 1 = (hi : Int) by omega] at HD; exact HD.out⟩⟩
                      case measure => simp [intOf]; omega
              · change glob_member.f 5 a0 ((j : Int) + 1) = _ at hm2
                go_wp2_with (first | (go_at_call 33; (with_reducible first | refine (glob_member.calls 5 _ _ _ _ _ _ hm1).mono ?_ | refine (glob_member.calls 5 _ _ _ _ _ _ hm2).mono ?_); rintro e w2 ⟨rfl, hb⟩; have n0_ := Aside0.mk (B2.step HD.out (dr_below hb)); clear HD; have HD := n0_; clear n0_; clear hb) | ((with_reducible refine gate_dst (N := 83) rfl ?_); refine wpList_load_row rfl 45 (.tmp 7) rfl (w.heap.size + 1) rfl 45 (sgA ⟨4, 0, true, s⟩) (0, 0) _ HD.out.2.2 hu1 rfl (sgS _) ?_) | ((with_reducible refine gate_store (t := 45) (p := 4) rfl ?_); refine wpList_store_rowTo rfl 45 (.tmp 4) (.tmp 83) rfl rfl w.heap.size (sgA ⟨4, 0, true, s⟩) rfl rfl 45 (sgA sgz) HD.out.2.1 (sgS _) (sgA_same _ _) (sgA_one _) ?_))
                refine bodyPost_ret (results_ctt rfl _ _ w.heap.size 45 (sgA ⟨4, 0, true, s⟩) (0, 0) _ rfl (setRow_heap _ _ (sgA sgz) _ 45 (0, 0) HD.out.2.1) hu1 rfl (sgS _)) rfl ?_
                exact ClsPost.bad (below_setRow HD.out.1 (Nat.le_refl _) _) (hR.trans (by rw [← hi0]; exact HC.out.cut hk h93 hm q1 q2 q3 hm')) _ _
            · have hm2 := hm1
              by_cases q1 : j + 1 < a0.size
              · have q4 : (((j : Int) + 1) < (a0.size : Int)) = True := eq_true (by omega)
                have q5 : j < a0.size := by omega
                by_cases q2 : bt a0 (j : Int) = 45
                · rw [q2] at g1
                  have q3 : bt a0 ((j + 1 : Nat) : Int) = 93 := Classical.not_not.1 (fun h => hd ⟨q1, q2, h⟩)
                  have q3_ : bt a0 ((j : Int) + 1) = 93 := q3
                  rw [q3_] at g2
                  go_wp2_with (first | (go_at_call 33; (with_reducible first | refine (glob_member.calls 5 _ _ _ _ _ _ hm1).mono ?_ | refine (glob_member.calls 5 _ _ _ _ _ _ hm2).mono ?_); rintro e w2 ⟨rfl, hb⟩; have n0_ := Aside0.mk (B2.step HD.out (dr_below hb)); clear HD; have HD := n0_; clear n0_; clear hb))
                  go_loopw [13] (fun v13 wi => ∃ q : Nat, v13 = .int .i64 q ∧ lo ≤ q ∧ q ≤ lo + 1 ∧ Aside0 (B2 45 45 w wi (sgA sgz) (sgA ⟨4, 0, true, rngS s lo ((q : Int) - 1)⟩))) (fun v13 _ => lo + 1 - (intOf v13).toNat)
                  case atStart => exact ⟨lo, rfl, Nat.le_refl _, by omega, ⟨by rw [rng_none]; exact HD.out⟩⟩
                  case round =>
                    clear HD
                    obtain ⟨q, rfl, hq1, hq2, HD⟩ := hrel
                    by_cases hq : q ≤ lo
                    · have hc3 := b2_at HD.out q (by omega)
                      have hf3 := blk_frozen HD.out.2.2 (3 + q)
                      have e1 : ((q : Int) ≤ (lo : Int)) = True := eq_true (by omega)
                      have e2 : q < 256 := by omega
                      have e3 : ((q : Int) < 256) = True := eq_true (by omega)
                      go_wp2
                      have n0_ := Aside0.mk (b2_put HD.out q (by omega))
                      clear HD
                      go_roundw
                      case rel => exact ⟨q + 1, by go_num, by omega, by omega, ⟨by rw [rng_next s lo q (by omega)] at n0_; exact n0_.out⟩⟩
                      case measure => simp [intOf]; omega
                    · have e1 : ((q : Int) ≤ (lo : Int)) = False := eq_false (by omega)
                      obtain rfl : q = lo + 1 := by omega
                      go_wp2
                      go_roundw
                      case rel => exact ⟨j, rngS s lo lo, rfl, ⟨HC.out.next hm hk h93 (.inr ⟨hd, rfl, rfl⟩) (by omega) (by omega)⟩, ⟨by rw [show ((lo + 1 : Nat) : Int) - 1 = (lo : Int) by omega] at HD; exact HD.out⟩⟩
                      case measure => simp [intOf]; omega
                · have q3 : (bt a0 (j : Int) == 45) = false := beq_eq_false_iff_ne.2 q2
                  go_wp2_with (first | (go_at_call 33; (with_reducible first | refine (glob_member.calls 5 _ _ _ _ _ _ hm1).mono ?_ | refine (glob_member.calls 5 _ _ _ _ _ _ hm2).mono ?_); rintro e w2 ⟨rfl, hb⟩; have n0_ := Aside0.mk (B2.step HD.out (dr_below hb)); clear HD; have HD := n0_; clear n0_; clear hb))
                  go_loopw [13] (fun v13 wi => ∃ q : Nat, v13 = .int .i64 q ∧ lo ≤ q ∧ q ≤ lo + 1 ∧ Aside0 (B2 45 45 w wi (sgA sgz) (sgA ⟨4, 0, true, rngS s lo ((q : Int) - 1)⟩))) (fun v13 _ => lo + 1 - (intOf v13).toNat)
                  case atStart => exact ⟨lo, rfl, Nat.le_refl _, by omega, ⟨by rw [rng_none]; exact HD.out⟩⟩
                  case round =>
                    clear HD
                    obtain ⟨q, rfl, hq1, hq2, HD⟩ := hrel
                    by_cases hq : q ≤ lo
                    · have hc3 := b2_at HD.out q (by omega)
                      have hf3 := blk_frozen HD.out.2.2 (3 + q)
                      have e1 : ((q : Int) ≤ (lo : Int)) = True := eq_true (by omega)
                      have e2 : q < 256 := by omega
                      have e3 : ((q : Int) < 256) = True := eq_true (by omega)
                      go_wp2
                      have n0_ := Aside0.mk (b2_put HD.out q (by omega))
                      clear HD
                      go_roundw
                      case rel => exact ⟨q + 1, by go_num, by omega, by omega, ⟨by rw [rng_next s lo q (by omega)] at n0_; exact n0_.out⟩⟩
                      case measure => simp [intOf]; omega
                    · have e1 : ((q : Int) ≤ (lo : Int)) = False := eq_false (by omega)
                      obtain rfl : q = lo + 1 := by omega
                      go_wp2
                      go_roundw
                      case rel => exact ⟨j, rngS s lo lo, rfl, ⟨HC.out.next hm hk h93 (.inr ⟨hd, rfl, rfl⟩) (by omega) (by omega)⟩, ⟨by rw [show ((lo + 1 : Nat) : Int) - 1 = (lo : Int) by omega] at HD; exact HD.out⟩⟩
                      case measure => simp [intOf]; omega
              · have q4 : (((j : Int) + 1) < (a0.size : Int)) = False := eq_false (by omega)
                go_wp2_with (first | (go_at_call 33; (with_reducible first | refine (glob_member.calls 5 _ _ _ _ _ _ hm1).mono ?_ | refine (glob_member.calls 5 _ _ _ _ _ _ hm2).mono ?_); rintro e w2 ⟨rfl, hb⟩; have n0_ := Aside0.mk (B2.step HD.out (dr_below hb)); clear HD; have HD := n0_; clear n0_; clear hb))
                go_loopw [13] (fun v13 wi => ∃ q : Nat, v13 = .int .i64 q ∧ lo ≤ q ∧ q ≤ lo + 1 ∧ Aside0 (B2 45 45 w wi (sgA sgz) (sgA ⟨4, 0, true, rngS s lo ((q : Int) - 1)⟩))) (fun v13 _ => lo + 1 - (intOf v13).toNat)
                case atStart => exact ⟨lo, rfl, Nat.le_refl _, by omega, ⟨by rw [rng_none]; exact HD.out⟩⟩
                case round =>
                  clear HD
                  obtain ⟨q, rfl, hq1, hq2, HD⟩ := hrel
                  by_cases hq : q ≤ lo
                  · have hc3 := b2_at HD.out q (by omega)
                    have hf3 := blk_frozen HD.out.2.2 (3 + q)
                    have e1 : ((q : Int) ≤ (lo : Int)) = True := eq_true (by omega)
                    have e2 : q < 256 := by omega
                    have e3 : ((q : Int) < 256) = True := eq_true (by omega)
                    go_wp2
                    have n0_ := Aside0.mk (b2_put HD.out q (by omega))
                    clear HD
                    go_roundw
                    case rel => exact ⟨q + 1, by go_num, by omega, by omega, ⟨by rw [rng_next s lo q (by omega)] at n0_; exact n0_.out⟩⟩
                    case measure => simp [intOf]; omega
                  · have e1 : ((q : Int) ≤ (lo : Int)) = False := eq_false (by omega)
                    obtain rfl : q = lo + 1 := by omega
                    go_wp2
                    go_roundw
                    case rel => exact ⟨j, rngS s lo lo, rfl, ⟨HC.out.next hm hk h93 (.inr ⟨hd, rfl, rfl⟩) (by omega) (by omega)⟩, ⟨by rw [show ((lo + 1 : Nat) : Int) - 1 = (lo : Int) by omega] at HD; exact HD.out⟩⟩
                    case measure => simp [intOf]; omega
          · have hm2 := hm1
            go_wp2_with (first | (go_at_call 33; (with_reducible first | refine (glob_member.calls 5 _ _ _ _ _ _ hm1).mono ?_ | refine (glob_member.calls 5 _ _ _ _ _ _ hm2).mono ?_); rintro e w2 ⟨rfl, hb⟩; have n0_ := Aside0.mk (B2.step HD.out (dr_below hb)); clear HD; have HD := n0_; clear n0_; clear hb) | ((with_reducible refine gate_dst (N := 48) rfl ?_); refine wpList_load_row rfl 45 (.tmp 7) rfl (w.heap.size + 1) rfl 45 (sgA ⟨4, 0, true, s⟩) (0, 0) _ HD.out.2.2 hu1 rfl (sgS _) ?_) | ((with_reducible refine gate_store (t := 45) (p := 4) rfl ?_); refine wpList_store_rowTo rfl 45 (.tmp 4) (.tmp 48) rfl rfl w.heap.size (sgA ⟨4, 0, true, s⟩) rfl rfl 45 (sgA sgz) HD.out.2.1 (sgS _) (sgA_same _ _) (sgA_one _) ?_))
            refine bodyPost_ret (results_ctt rfl _ _ w.heap.size 45 (sgA ⟨4, 0, true, s⟩) (0, 0) _ rfl (setRow_heap _ _ (sgA sgz) _ 45 (0, 0) HD.out.2.1) hu1 rfl (sgS _)) rfl ?_
            exact ClsPost.bad (below_setRow HD.out.1 (Nat.le_refl _) _) (hR.trans (by rw [← hi0]; exact HC.out.stop hk h93 hm)) _ _
      · have d0 : ((i : Int) < (a0.size : Int)) = False := eq_false (by omega)
        go_wp2_with (first | (go_at_call 33; (with_reducible first | refine (glob_member.calls 5 _ _ _ _ _ _ hm1).mono ?_ | refine (glob_member.calls 5 _ _ _ _ _ _ hm2).mono ?_); rintro e w2 ⟨rfl, hb⟩; have n0_ := Aside0.mk (B2.step HD.out (dr_below hb)); clear HD; have HD := n0_; clear n0_; clear hb) | ((with_reducible refine gate_dst (N := 96) rfl ?_); refine wpList_load_row rfl 45 (.tmp 7) rfl (w.heap.size + 1) rfl 45 (sgA ⟨4, 0, true, s⟩) (0, 0) _ HD.out.2.2 hu1 rfl (sgS _) ?_) | ((with_reducible refine gate_store (t := 45) (p := 4) rfl ?_); refine wpList_store_rowTo rfl 45 (.tmp 4) (.tmp 96) rfl rfl w.heap.size (sgA ⟨4, 0, true, s⟩) rfl rfl 45 (sgA sgz) HD.out.2.1 (sgS _) (sgA_same _ _) (sgA_one _) ?_))
        refine bodyPost_ret (results_ctt rfl _ _ w.heap.size 45 (sgA ⟨4, 0, true, s⟩) (0, 0) _ rfl (setRow_heap _ _ (sgA sgz) _ 45 (0, 0) HD.out.2.1) hu1 rfl (sgS _)) rfl ?_
        exact ClsPost.bad (below_setRow HD.out.1 (Nat.le_refl _) _) (hR.trans (by rw [← hi0]; exact HC.out.over hk)) _ _
  · have e2 : ∀ h : i1 < a0.size, (((a0[i1]'h).toNat : Int) == 33) = false := fun h => beq_eq_false_iff_ne.2 (fun he => h33 ⟨h, by rw [← he]; exact (bt_at a0 i1 h).symm⟩)
    have e3 : (i1 < a0.size ∧ ((i1 : Int) < (a0.size : Int)) = True) ∨ (((i1 : Int) < (a0.size : Int)) = False) := by
      by_cases hl : i1 < a0.size
      · exact .inl ⟨hl, eq_true (by omega)⟩
      · exact .inr (eq_false (by omega))
    rcases e3 with ⟨e4, e3⟩ | e3
    all_goals
      obtain ⟨i0, hi0⟩ : ∃ x, x = i1 := ⟨_, rfl⟩
      have hR := clsR_start2 a0 i1 h33
      have hi0s : i0 ≤ a0.size := by omega
      clear h33 
      go_enter Try.func30, Try.ntmps30
      go_wp2_with (first | ((with_reducible refine gate_dst (N := 14) rfl ?_); refine wpList_buildTo rfl 45 #[(0, .const (.int .i64 4))] rfl (some 14) rfl (sgA ⟨4, 0, false, noS⟩) ?hf ?_; (case hf => (simp only [List.map_toArray, List.map_cons, List.map_nil]; exact sg4_classAt_call))) | ((with_reducible refine gate_store (t := 45) (p := 7) rfl ?_); refine wpList_store_rowTo rfl 45 (.tmp 7) (.tmp 14) rfl rfl (w.heap.size + 1) (sgA ⟨4, 0, false, noS⟩) rfl rfl 45 (sgA sgz) HD.out.2.2 (sgS _) (sgA_same _ _) (sgA_one _) ?_; have n0_ := Aside0.mk (B2.row HD.out (sgA ⟨4, 0, false, noS⟩)); clear HD; have HD := n0_; clear n0_; have hc2 := b2_cell HD.out 2; have hf2 := blk_frozen HD.out.2.2 2; change _ = some (Value.bool false) at hc2))
      clear e2
      clear hc2 hf2
      go_loopw [1] (fun v1 wr => ∃ (i : Nat) (s : Nat → Bool), v1 = .int .i64 i ∧ Aside0 (CInv a0 i0 i s) ∧ Aside0 (B2 45 45 w wr (sgA sgz) (sgA ⟨4, 0, false, s⟩))) (fun v1 _ => a0.size - (intOf v1).toNat)
      case atStart => exact ⟨i0, noS, by rw [hi0], ⟨CInv.start a0 i0 hi0s⟩, ⟨HD.out⟩⟩
      case round =>
        clear HD
        obtain ⟨i, s, rfl, HC, HD⟩ := hrel
        by_cases hk : i < a0.size
        · have d0 : ((i : Int) < (a0.size : Int)) = True := eq_true (by omega)
          have d1 : ∀ h : i < a0.size, ((a0[i]'h).toNat : Int) = bt a0 (i : Int) := fun h => bt_at a0 i h
          have b1 := bt_range a0 (i : Int)
          by_cases h93 : bt a0 (i : Int) = 93
          · rw [h93] at d1
            by_cases hfi : i0 < i
            · have f1 : ((i1 : Int) < (i : Int)) = True := eq_true (by omega)
              have f2 : (i1 < i) = True := eq_true (by omega)
              skip
              go_wp2_with (first | (go_at_call 33; (with_reducible first | refine (glob_member.calls 5 _ _ _ _ _ _ hm1).mono ?_ | refine (glob_member.calls 5 _ _ _ _ _ _ hm2).mono ?_); rintro e w2 ⟨rfl, hb⟩; have n0_ := Aside0.mk (B2.step HD.out (dr_below hb)); clear HD; have HD := n0_; clear n0_; clear hb) | ((with_reducible refine gate_dst (N := 96) rfl ?_); refine wpList_load_row rfl 45 (.tmp 7) rfl (w.heap.size + 1) rfl 45 (sgA ⟨4, 0, false, s⟩) (0, 0) _ HD.out.2.2 hu1 rfl (sgS _) ?_) | ((with_reducible refine gate_store (t := 45) (p := 4) rfl ?_); refine wpList_store_rowTo rfl 45 (.tmp 4) (.tmp 96) rfl rfl w.heap.size (sgA ⟨4, 0, false, s⟩) rfl rfl 45 (sgA sgz) HD.out.2.1 (sgS _) (sgA_same _ _) (sgA_one _) ?_))
              refine bodyPost_ret (results_ctt rfl _ _ w.heap.size 45 (sgA ⟨4, 0, false, s⟩) (0, 0) _ rfl (setRow_heap _ _ (sgA sgz) _ 45 (0, 0) HD.out.2.1) hu1 rfl (sgS _)) rfl ?_
              exact ClsPost.good (below_setRow HD.out.1 (Nat.le_refl _) _) (hR.trans (by rw [← hi0]; exact HC.out.close hk h93 hfi)) (by omega) (by go_num)
            · have f1 : ((i1 : Int) < (i : Int)) = False := eq_false (by omega)
              have f2 : (i1 < i) = False := eq_false (by omega)
              skip
              go_wp2_with (first | (go_at_call 33; (with_reducible first | refine (glob_member.calls 5 _ _ _ _ _ _ hm1).mono ?_ | refine (glob_member.calls 5 _ _ _ _ _ _ hm2).mono ?_); rintro e w2 ⟨rfl, hb⟩; have n0_ := Aside0.mk (B2.step HD.out (dr_below hb)); clear HD; have HD := n0_; clear n0_; clear hb) | ((with_reducible refine gate_dst (N := 96) rfl ?_); refine wpList_load_row rfl 45 (.tmp 7) rfl (w.heap.size + 1) rfl 45 (sgA ⟨4, 0, false, s⟩) (0, 0) _ HD.out.2.2 hu1 rfl (sgS _) ?_) | ((with_reducible refine gate_store (t := 45) (p := 4) rfl ?_); refine wpList_store_rowTo rfl 45 (.tmp 4) (.tmp 96) rfl rfl w.heap.size (sgA ⟨4, 0, false, s⟩) rfl rfl 45 (sgA sgz) HD.out.2.1 (sgS _) (sgA_same _ _) (sgA_one _) ?_))
              refine bodyPost_ret (results_ctt rfl _ _ w.heap.size 45 (sgA ⟨4, 0, false, s⟩) (0, 0) _ rfl (setRow_heap _ _ (sgA sgz) _ 45 (0, 0) HD.out.2.1) hu1 rfl (sgS _)) rfl ?_
              exact ClsPost.bad (below_setRow HD.out.1 (Nat.le_refl _) _) (hR.trans (by rw [← hi0]; exact HC.out.empty hk h93 hfi)) _ _
          · have d2 : (bt a0 (i : Int) != 93) = true := bne_iff_ne.2 h93
            rcases member_at a0 i hs (by omega) with ⟨lo', j, hm, hij, hj, hb', hm1⟩ | ⟨hm, hm1⟩
            · obtain ⟨lo, rfl⟩ : ∃ x : Nat, lo' = x := ⟨lo'.toNat, by rw [hb']; have := bt_range a0 ((j - 1 : Nat) : Int); omega⟩
              have hlo : lo < 256 := by have := bt_range a0 ((j - 1 : Nat) : Int); omega
              clear hb'
              have g1 : ∀ h : j < a0.size, ((a0[j]'h).toNat : Int) = bt a0 (j : Int) := fun h => bt_at a0 j h
              have g2 : ∀ h : j + 1 < a0.size, ((a0[j + 1]'h).toNat : Int) = bt a0 ((j : Int) + 1) := fun h => bt_at a0 ((j + 1 : Nat) : Int) h
              have b2 := bt_range a0 (j : Int)
              have b3 := bt_range a0 ((j + 1 : Nat) : Int)
              by_cases hd : j + 1 < a0.size ∧ bt a0 (j : Int) = 45 ∧ bt a0 ((j + 1 : Nat) : Int) ≠ 93
              · obtain ⟨q1, q2, q3⟩ := hd
                have q4 : (((j : Int) + 1) < (a0.size : Int)) = True := eq_true (by omega)
                have q5 : j < a0.size := by omega
                have q6 : (bt a0 ((j : Int) + 1) != 93) = true := bne_iff_ne.2 q3
                rw [q2] at g1
                rcases member_at a0 (j + 1) hs (by omega) with ⟨hi', j2, hm', hij2, hj2, hb2, hm2⟩ | ⟨hm', hm2⟩
                · obtain ⟨hi, rfl⟩ : ∃ x : Nat, hi' = x := ⟨hi'.toNat, by rw [hb2]; have := bt_range a0 ((j2 - 1 : Nat) : Int); omega⟩
                  have hhi : hi < 256 := by have := bt_range a0 ((j2 - 1 : Nat) : Int); omega
                  clear hb2
                  change glob_member.f 5 a0 ((j : Int) + 1) = _ at hm2
                  by_cases hlt : hi < lo
                  · have r1 : ((hi : Int) < (lo : Int)) = True := eq_true (by omega)
                    go_wp2_with (first | (go_at_call 33; (with_reducible first | refine (glob_member.calls 5 _ _ _ _ _ _ hm1).mono ?_ | refine (glob_member.calls 5 _ _ _ _ _ _ hm2).mono ?_); rintro e w2 ⟨rfl, hb⟩; have n0_ := Aside0.mk (B2.step HD.out (dr_below hb)); clear HD; have HD := n0_; clear n0_; clear hb) | ((with_reducible refine gate_dst (N := 83) rfl ?_); refine wpList_load_row rfl 45 (.tmp 7) rfl (w.heap.size + 1) rfl 45 (sgA ⟨4, 0, false, s⟩) (0, 0) _ HD.out.2.2 hu1 rfl (sgS _) ?_) | ((with_reducible refine gate_store (t := 45) (p := 4) rfl ?_); refine wpList_store_rowTo rfl 45 (.tmp 4) (.tmp 83) rfl rfl w.heap.size (sgA ⟨4, 0, false, s⟩) rfl rfl 45 (sgA sgz) HD.out.2.1 (sgS _) (sgA_same _ _) (sgA_one _) ?_))
                    refine bodyPost_ret (results_ctt rfl _ _ w.heap.size 45 (sgA ⟨4, 0, false, s⟩) (0, 0) _ rfl (setRow_heap _ _ (sgA sgz) _ 45 (0, 0) HD.out.2.1) hu1 rfl (sgS _)) rfl ?_
                    exact ClsPost.bad (below_setRow HD.out.1 (Nat.le_refl _) _) (hR.trans (by rw [← hi0]; exact HC.out.low hk h93 hm q1 q2 q3 hm' (by omega))) _ _
                  · have r1 : ((hi : Int) < (lo : Int)) = False := eq_false (by omega)
                    go_wp2_with (first | (go_at_call 33; (with_reducible first | refine (glob_member.calls 5 _ _ _ _ _ _ hm1).mono ?_ | refine (glob_member.calls 5 _ _ _ _ _ _ hm2).mono ?_); rintro e w2 ⟨rfl, hb⟩; have n0_ := Aside0.mk (B2.step HD.out (dr_below hb)); clear HD; have HD := n0_; clear n0_; clear hb))
                    go_loopw [13] (fun v13 wi => ∃ q : Nat, v13 = .int .i64 q ∧ lo ≤ q ∧ q ≤ hi + 1 ∧ Aside0 (B2 45 45 w wi (sgA sgz) (sgA ⟨4, 0, false, rngS s lo ((q : Int) - 1)⟩))) (fun v13 _ => hi + 1 - (intOf v13).toNat)
                    case atStart => exact ⟨lo, rfl, Nat.le_refl _, by omega, ⟨by rw [rng_none]; exact HD.out⟩⟩
                    case round =>
                      clear HD
                      obtain ⟨q, rfl, hq1, hq2, HD⟩ := hrel
                      by_cases hq : q ≤ hi
                      · have hc3 := b2_at HD.out q (by omega)
                        have hf3 := blk_frozen HD.out.2.2 (3 + q)
                        have e1 : ((q : Int) ≤ (hi : Int)) = True := eq_true (by omega)
                        have e2 : q < 256 := by omega
                        have e3 : ((q : Int) < 256) = True := eq_true (by omega)
                        go_wp2
                        have n0_ := Aside0.mk (b2_put HD.out q (by omega))
                        clear HD
                        go_roundw
                        case rel => exact ⟨q + 1, by go_num, by omega, by omega, ⟨by rw [rng_next s lo q (by omega)] at n0_; exact n0_.out⟩⟩
                        case measure => simp [intOf]; omega
                      · have e1 : ((q : Int) ≤ (hi : Int)) = False := eq_false (by omega)
                        obtain rfl : q = hi + 1 := by omega
                        go_wp2
                        go_roundw
                        case rel => exact ⟨j2, rngS s lo hi, rfl, ⟨HC.out.next hm hk h93 (.inl ⟨q1, q2, q3, hm', by omega⟩) (by omega) (by omega)⟩, ⟨by rw [show ((hi + 1 : Nat) : Int) - 1 = (hi : Int) by omega] at HD; exact HD.out⟩⟩
                        case measure => simp [intOf]; omega
                · change glob_member.f 5 a0 ((j : Int) + 1) = _ at hm2
                  go_wp2_with (first | (go_at_call 33; (with_reducible first | refine (glob_member.calls 5 _ _ _ _ _ _ hm1).mono ?_ | refine (glob_member.calls 5 _ _ _ _ _ _ hm2).mono ?_); rintro e w2 ⟨rfl, hb⟩; have n0_ := Aside0.mk (B2.step HD.out (dr_below hb)); clear HD; have HD := n0_; clear n0_; clear hb) | ((with_reducible refine gate_dst (N := 83) rfl ?_); refine wpList_load_row rfl 45 (.tmp 7) rfl (w.heap.size + 1) rfl 45 (sgA ⟨4, 0, false, s⟩) (0, 0) _ HD.out.2.2 hu1 rfl (sgS _) ?_) | ((with_reducible refine gate_store (t := 45) (p := 4) rfl ?_); refine wpList_store_rowTo rfl 45 (.tmp 4) (.tmp 83) rfl rfl w.heap.size (sgA ⟨4, 0, false, s⟩) rfl rfl 45 (sgA sgz) HD.out.2.1 (sgS _) (sgA_same _ _) (sgA_one _) ?_))
                  refine bodyPost_ret (results_ctt rfl _ _ w.heap.size 45 (sgA ⟨4, 0, false, s⟩) (0, 0) _ rfl (setRow_heap _ _ (sgA sgz) _ 45 (0, 0) HD.out.2.1) hu1 rfl (sgS _)) rfl ?_
                  exact ClsPost.bad (below_setRow HD.out.1 (Nat.le_refl _) _) (hR.trans (by rw [← hi0]; exact HC.out.cut hk h93 hm q1 q2 q3 hm')) _ _
              · have hm2 := hm1
                by_cases q1 : j + 1 < a0.size
                · have q4 : (((j : Int) + 1) < (a0.size : Int)) = True := eq_true (by omega)
                  have q5 : j < a0.size := by omega
                  by_cases q2 : bt a0 (j : Int) = 45
                  · rw [q2] at g1
                    have q3 : bt a0 ((j + 1 : Nat) : Int) = 93 := Classical.not_not.1 (fun h => hd ⟨q1, q2, h⟩)
                    have q3_ : bt a0 ((j : Int) + 1) = 93 := q3
                    rw [q3_] at g2
                    go_wp2_with (first | (go_at_call 33; (with_reducible first | refine (glob_member.calls 5 _ _ _ _ _ _ hm1).mono ?_ | refine (glob_member.calls 5 _ _ _ _ _ _ hm2).mono ?_); rintro e w2 ⟨rfl, hb⟩; have n0_ := Aside0.mk (B2.step HD.out (dr_below hb)); clear HD; have HD := n0_; clear n0_; clear hb))
                    go_loopw [13] (fun v13 wi => ∃ q : Nat, v13 = .int .i64 q ∧ lo ≤ q ∧ q ≤ lo + 1 ∧ Aside0 (B2 45 45 w wi (sgA sgz) (sgA ⟨4, 0, false, rngS s lo ((q : Int) - 1)⟩))) (fun v13 _ => lo + 1 - (intOf v13).toNat)
                    case atStart => exact ⟨lo, rfl, Nat.le_refl _, by omega, ⟨by rw [rng_none]; exact HD.out⟩⟩
                    case round =>
                      clear HD
                      obtain ⟨q, rfl, hq1, hq2, HD⟩ := hrel
                      by_cases hq : q ≤ lo
                      · have hc3 := b2_at HD.out q (by omega)
                        have hf3 := blk_frozen HD.out.2.2 (3 + q)
                        have e1 : ((q : Int) ≤ (lo : Int)) = True := eq_true (by omega)
                        have e2 : q < 256 := by omega
                        have e3 : ((q : Int) < 256) = True := eq_true (by omega)
                        go_wp2
                        have n0_ := Aside0.mk (b2_put HD.out q (by omega))
                        clear HD
                        go_roundw
                        case rel => exact ⟨q + 1, by go_num, by omega, by omega, ⟨by rw [rng_next s lo q (by omega)] at n0_; exact n0_.out⟩⟩
                        case measure => simp [intOf]; omega
                      · have e1 : ((q : Int) ≤ (lo : Int)) = False := eq_false (by omega)
                        obtain rfl : q = lo + 1 := by omega
                        go_wp2
                        go_roundw
                        case rel => exact ⟨j, rngS s lo lo, rfl, ⟨HC.out.next hm hk h93 (.inr ⟨hd, rfl, rfl⟩) (by omega) (by omega)⟩, ⟨by rw [show ((lo + 1 : Nat) : Int) - 1 = (lo : Int) by omega] at HD; exact HD.out⟩⟩
                        case measure => simp [intOf]; omega
                  · have q3 : (bt a0 (j : Int) == 45) = false := beq_eq_false_iff_ne.2 q2
                    go_wp2_with (first | (go_at_call 33; (with_reducible first | refine (glob_member.calls 5 _ _ _ _ _ _ hm1).mono ?_ | refine (glob_member.calls 5 _ _ _ _ _ _ hm2).mono ?_); rintro e w2 ⟨rfl, hb⟩; have n0_ := Aside0.mk (B2.step HD.out (dr_below hb)); clear HD; have HD := n0_; clear n0_; clear hb))
                    go_loopw [13] (fun v13 wi => ∃ q : Nat, v13 = .int .i64 q ∧ lo ≤ q ∧ q ≤ lo + 1 ∧ Aside0 (B2 45 45 w wi (sgA sgz) (sgA ⟨4, 0, false, rngS s lo ((q : Int) - 1)⟩))) (fun v13 _ => lo + 1 - (intOf v13).toNat)
                    case atStart => exact ⟨lo, rfl, Nat.le_refl _, by omega, ⟨by rw [rng_none]; exact HD.out⟩⟩
                    case round =>
                      clear HD
                      obtain ⟨q, rfl, hq1, hq2, HD⟩ := hrel
                      by_cases hq : q ≤ lo
                      · have hc3 := b2_at HD.out q (by omega)
                        have hf3 := blk_frozen HD.out.2.2 (3 + q)
                        have e1 : ((q : Int) ≤ (lo : Int)) = True := eq_true (by omega)
                        have e2 : q < 256 := by omega
                        have e3 : ((q : Int) < 256) = True := eq_true (by omega)
                        go_wp2
                        have n0_ := Aside0.mk (b2_put HD.out q (by omega))
                        clear HD
                        go_roundw
                        case rel => exact ⟨q + 1, by go_num, by omega, by omega, ⟨by rw [rng_next s lo q (by omega)] at n0_; exact n0_.out⟩⟩
                        case measure => simp [intOf]; omega
                      · have e1 : ((q : Int) ≤ (lo : Int)) = False := eq_false (by omega)
                        obtain rfl : q = lo + 1 := by omega
                        go_wp2
                        go_roundw
                        case rel => exact ⟨j, rngS s lo lo, rfl, ⟨HC.out.next hm hk h93 (.inr ⟨hd, rfl, rfl⟩) (by omega) (by omega)⟩, ⟨by rw [show ((lo + 1 : Nat) : Int) - 1 = (lo : Int) by omega] at HD; exact HD.out⟩⟩
                        case measure => simp [intOf]; omega
                · have q4 : (((j : Int) + 1) < (a0.size : Int)) = False := eq_false (by omega)
                  go_wp2_with (first | (go_at_call 33; (with_reducible first | refine (glob_member.calls 5 _ _ _ _ _ _ hm1).mono ?_ | refine (glob_member.calls 5 _ _ _ _ _ _ hm2).mono ?_); rintro e w2 ⟨rfl, hb⟩; have n0_ := Aside0.mk (B2.step HD.out (dr_below hb)); clear HD; have HD := n0_; clear n0_; clear hb))
                  go_loopw [13] (fun v13 wi => ∃ q : Nat, v13 = .int .i64 q ∧ lo ≤ q ∧ q ≤ lo + 1 ∧ Aside0 (B2 45 45 w wi (sgA sgz) (sgA ⟨4, 0, false, rngS s lo ((q : Int) - 1)⟩))) (fun v13 _ => lo + 1 - (intOf v13).toNat)
                  case atStart => exact ⟨lo, rfl, Nat.le_refl _, by omega, ⟨by rw [rng_none]; exact HD.out⟩⟩
                  case round =>
                    clear HD
                    obtain ⟨q, rfl, hq1, hq2, HD⟩ := hrel
                    by_cases hq : q ≤ lo
                    · have hc3 := b2_at HD.out q (by omega)
                      have hf3 := blk_frozen HD.out.2.2 (3 + q)
                      have e1 : ((q : Int) ≤ (lo : Int)) = True := eq_true (by omega)
                      have e2 : q < 256 := by omega
                      have e3 : ((q : Int) < 256) = True := eq_true (by omega)
                      go_wp2
                      have n0_ := Aside0.mk (b2_put HD.out q (by omega))
                      clear HD
                      go_roundw
                      case rel => exact ⟨q + 1, by go_num, by omega, by omega, ⟨by rw [rng_next s lo q (by omega)] at n0_; exact n0_.out⟩⟩
                      case measure => simp [intOf]; omega
                    · have e1 : ((q : Int) ≤ (lo : Int)) = False := eq_false (by omega)
                      obtain rfl : q = lo + 1 := by omega
                      go_wp2
                      go_roundw
                      case rel => exact ⟨j, rngS s lo lo, rfl, ⟨HC.out.next hm hk h93 (.inr ⟨hd, rfl, rfl⟩) (by omega) (by omega)⟩, ⟨by rw [show ((lo + 1 : Nat) : Int) - 1 = (lo : Int) by omega] at HD; exact HD.out⟩⟩
                      case measure => simp [intOf]; omega
            · have hm2 := hm1
              go_wp2_with (first | (go_at_call 33; (with_reducible first | refine (glob_member.calls 5 _ _ _ _ _ _ hm1).mono ?_ | refine (glob_member.calls 5 _ _ _ _ _ _ hm2).mono ?_); rintro e w2 ⟨rfl, hb⟩; have n0_ := Aside0.mk (B2.step HD.out (dr_below hb)); clear HD; have HD := n0_; clear n0_; clear hb) | ((with_reducible refine gate_dst (N := 48) rfl ?_); refine wpList_load_row rfl 45 (.tmp 7) rfl (w.heap.size + 1) rfl 45 (sgA ⟨4, 0, false, s⟩) (0, 0) _ HD.out.2.2 hu1 rfl (sgS _) ?_) | ((with_reducible refine gate_store (t := 45) (p := 4) rfl ?_); refine wpList_store_rowTo rfl 45 (.tmp 4) (.tmp 48) rfl rfl w.heap.size (sgA ⟨4, 0, false, s⟩) rfl rfl 45 (sgA sgz) HD.out.2.1 (sgS _) (sgA_same _ _) (sgA_one _) ?_))
              refine bodyPost_ret (results_ctt rfl _ _ w.heap.size 45 (sgA ⟨4, 0, false, s⟩) (0, 0) _ rfl (setRow_heap _ _ (sgA sgz) _ 45 (0, 0) HD.out.2.1) hu1 rfl (sgS _)) rfl ?_
              exact ClsPost.bad (below_setRow HD.out.1 (Nat.le_refl _) _) (hR.trans (by rw [← hi0]; exact HC.out.stop hk h93 hm)) _ _
        · have d0 : ((i : Int) < (a0.size : Int)) = False := eq_false (by omega)
          go_wp2_with (first | (go_at_call 33; (with_reducible first | refine (glob_member.calls 5 _ _ _ _ _ _ hm1).mono ?_ | refine (glob_member.calls 5 _ _ _ _ _ _ hm2).mono ?_); rintro e w2 ⟨rfl, hb⟩; have n0_ := Aside0.mk (B2.step HD.out (dr_below hb)); clear HD; have HD := n0_; clear n0_; clear hb) | ((with_reducible refine gate_dst (N := 96) rfl ?_); refine wpList_load_row rfl 45 (.tmp 7) rfl (w.heap.size + 1) rfl 45 (sgA ⟨4, 0, false, s⟩) (0, 0) _ HD.out.2.2 hu1 rfl (sgS _) ?_) | ((with_reducible refine gate_store (t := 45) (p := 4) rfl ?_); refine wpList_store_rowTo rfl 45 (.tmp 4) (.tmp 96) rfl rfl w.heap.size (sgA ⟨4, 0, false, s⟩) rfl rfl 45 (sgA sgz) HD.out.2.1 (sgS _) (sgA_same _ _) (sgA_one _) ?_))
          refine bodyPost_ret (results_ctt rfl _ _ w.heap.size 45 (sgA ⟨4, 0, false, s⟩) (0, 0) _ rfl (setRow_heap _ _ (sgA sgz) _ 45 (0, 0) HD.out.2.1) hu1 rfl (sgS _)) rfl ?_
          exact ClsPost.bad (below_setRow HD.out.1 (Nat.le_refl _) _) (hR.trans (by rw [← hi0]; exact HC.out.over hk)) _ _
end Go.Proofs.Ytiigjnccoeadlaa.PA
