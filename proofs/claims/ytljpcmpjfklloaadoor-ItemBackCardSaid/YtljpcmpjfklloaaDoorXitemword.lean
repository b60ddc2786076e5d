/- item.word by its contract: each byte itself, or its three signs. -/
import Derived.Test.YtljpcmpjfklloaaDoorPAfitemplain
import Derived.Test.YtljpcmpjfklloaaDoorPAx0
import Derived.Test.YtljpcmpjfklloaaDoorXWordSpec
namespace Go.Proofs.YtljpcmpjfklloaaDoor.PA
open Go.RowKit Go.Proofs.YtljpcmpjfklloaaDoorW.PrintWords Go.Proofs.YtljpcmpjfklloaaDoorW.PrintLast Go.Proofs.YtljpcmpjfklloaaDoorW.PrintMore
attribute [local go_sem] max2_int min2_int max_two min_two max_three min_three max_four min_four
set_option linter.unusedVariables false
set_option linter.unusedSimpArgs false
def item_word_h.T7 : Bool × List (List Nat × List Nat) := (true, [([], []), ([], []), ([1], [1]), ([2], [2]), ([], []), ([4], [4]), ([5], [5]), ([3, 6], [3, 6]), ([0, 7], [0, 7]), ([8, 8, 0, 1, 2, 3, 4, 5, 6, 7, 8], [0, 8])])
def item_word_h.B7 : List Nat := [0, 0, 2, 6, 0, 16, 48, 126, 255, 511]
theorem item_word_h.tab7 : rtab .any (opsOf Tryd.f24 7) = item_word_h.T7 := by kernel_rfl
theorem item_word_h.bits7 : waitsOk item_word_h.T7.2 item_word_h.B7 = true := by kernel_rfl
def item_word.f (a0 : ByteArray) : Option ByteArray := if a0.size < 4398046511104 then some (strOfNums (wordTo a0 a0.size)) else none
def WRun (s : ByteArray) (w0 wr : World) (v : Value) (l : List Int) : Prop :=
  Below w0.heap.size w0 wr ∧ wr.heap[w0.heap.size]? = some (.cells (Lib.bytesCells w0 5 s) 5 ((Lib.bytesCells w0 5 s).size, (Lib.bytesCells w0 5 s).size + 1)) ∧ Kd.R (Kd.int .u8) 5 wr w0.heap.size (fun k => w0.heap.size < k) v l
theorem WRun.start (s : ByteArray) (w : World) : WRun s w (Lib.bytesWorld w 5 s) (.slice none 0 0) [] :=
  ⟨bytes_below (Below.refl _ _) (Nat.le_refl _) _ _, Lib.bytesWorld_at_new w 5 s, Kd.R_nil _ _ _ _ _⟩
theorem WRun.cell {s : ByteArray} {w0 wr : World} {v : Value} {l : List Int} (h : WRun s w0 wr v l) (k : Nat) (hk : k < s.size) : wr.cell? ⟨w0.heap.size, k, none⟩ = some (.int .u8 (bt s (k : Int))) := by
  have h1 := Lib.bytesWorld_cell w0 5 s k hk
  have h2 : wr.cell? ⟨w0.heap.size, k, none⟩ = (Lib.bytesWorld w0 5 s).cell? ⟨w0.heap.size, k, none⟩ := by
    unfold World.cell?
    rw [h.2.1, Lib.bytesWorld_at_new]
  rw [h2, h1]
  have e : bt s (k : Int) = ((s.data.toList.getD k 0).toNat : Int) := by
    rw [bt, dif_pos (by simpa using hk)]
    simp [List.getD, hk]
    rfl
  rw [e]
theorem WRun.drewN {s : ByteArray} {w0 wr : World} {v : Value} {l : List Int} (h : WRun s w0 wr v l) (m : Nat) : WRun s w0 (wr.drewN m) v l := ⟨pw_below_drewN h.1 m, h.2.1, Kd.R_drewN h.2.2 m⟩
theorem WRun.drew {s : ByteArray} {w0 wr : World} {v : Value} {l : List Int} (h : WRun s w0 wr v l) : WRun s w0 wr.drew v l := ⟨below_drew h.1, h.2.1, Kd.R_drew h.2.2⟩
theorem WRun.more {s : ByteArray} {w0 wr w1 : World} {v v1 : Value} {l l1 : List Int} (h : WRun s w0 wr v l) (ho : Kd.R (Kd.int .u8) 5 w1 w0.heap.size (fun k => w0.heap.size < k) v1 l1) (hb : Below w0.heap.size w0 w1) {row : Option Nat} (hrow : ∀ k, row = some k → w0.heap.size < k) (hg : wr.grownBy w1 row) : WRun s w0 w1 v1 l1 := by
  refine ⟨hb, ?_, ho⟩
  have hlt := blk_lt h.2.1
  have hne : some w0.heap.size ≠ row := by
    intro he
    exact Nat.lt_irrefl _ (hrow _ he.symm)
  rw [← h.2.1]
  exact hg.block _ hlt hne
set_option maxHeartbeats 2000000 in
set_option maxRecDepth 100000 in
theorem item_word.calls (a0 : ByteArray) (r : ByteArray) (w : World) (h : item_word.f a0 = some r) :
    Calls Tryd.prog 24 #[.string a0] w fun e w' => e = .returned (.string r) ∧ Below w.heap.size w w' := by
  unfold item_word.f at h
  by_cases hs : a0.size < 4398046511104
  · rw [if_pos hs] at h
    obtain rfl := Option.some.inj h
    clear h
    have hcv := Lib.run_convert_string_bytes (P := Tryd.prog) w 9 45 5 a0 Tryd.underlying9 Tryd.underlying45 Tryd.underlying5
    have i5 : (Tryd.prog.info? 5).map (fun i => (i.zero, i.size, i.bytes)) = some (some (.int .u8 0), 1, 1) := by kernel_rfl
    go_enter Tryd.func24, Tryd.ntmps24
    go_wp2
    clear hcv
    go_loopw [3, 9] (fun v3 v9 wr => ∃ k : Nat, k ≤ a0.size ∧ v9 = .int .i64 k ∧ Aside0 (WRun a0 w wr v3 (wordTo a0 k))) (fun _ v9 _ => a0.size - (intOf v9).toNat)
    case atStart => exact ⟨0, by omega, rfl, ⟨WRun.start a0 w⟩⟩
    case round =>
      obtain ⟨k, hk, rfl, HW⟩ := hrel
      by_cases hk2 : k < a0.size
      · have hc := HW.out.cell k hk2
        have hkk : ((k : Int) < (a0.size : Int)) = True := eq_true (by omega)
        have hr := bt_range a0 (k : Int)
        have hlen := wordTo_len a0 k
        have hn : wordTo a0 (k + 1) = wordTo a0 k ++ encB (bt a0 (k : Int)) := rfl
        unfold encB at hn
        generalize bt a0 (k : Int) = b at *
        cases hb : plainB b with
        | true =>
          rw [hb, if_pos rfl] at hn
          have hpl := fun w => item_plain.calls b true w ((plain_f b).trans (congrArg some hb))
          go_wp2_with (first | (go_at_call 32; (with_reducible refine (hpl _).mono ?_); rintro e w' ⟨rfl, ⟨nd, rfl⟩⟩; have HD := Aside0.mk (HW.out.drewN nd); clear HW) | ((with_reducible refine gate_builtin (b := .append) (xs := #[.tmp 15, .tmp 17]) rfl ?_); at_builtin; refine Kd.R_append (Kd.int .u8) (w0 := w) w.heap.size rfl (.tmp 15) (.tmp 17) 45 5 (.int .u8 0) 1 rfl Tryd.underlying45 i5 rfl (by decide) (by omega) u3 (wordTo a0 k) b [.int .u8 b] (fun k => w.heap.size < k) (fun _ => False) rfl rfl rfl (fun _ hk => hk.elim) (fun k hk => Nat.lt_of_lt_of_le (blk_lt HD.out.2.1) hk) HD.out.2.2 HD.out.1 (below_size HD.out.1) (by omega) ?_; intro v1 w1 ho hb1 hg hat; have HE := Aside0.mk (HD.out.more ho hb1 (fun _ h => HD.out.2.2.1 _ h) hg); clear ho hb1 hg hat))
          go_roundw
          case rel => exact ⟨k + 1, by omega, by go_num, ⟨by rw [hn]; exact HE.out⟩⟩
          case measure => simp [intOf]; omega
        | false =>
          rw [hb, if_neg (by decide)] at hn
          have hpl := fun w => item_plain.calls b false w ((plain_f b).trans (congrArg some hb))
          go_wp2_with (first | (go_at_call 32; (with_reducible refine (hpl _).mono ?_); rintro e w' ⟨rfl, ⟨nd, rfl⟩⟩))
          have e1 : b.tdiv 16 = b / 16 := Int.tdiv_eq_ediv_of_nonneg hr.1
          have e2 : b.tmod 16 = b % 16 := Int.tmod_eq_emod_of_nonneg hr.1
          have e3 : IntKind.u8.wrap (b / 16) = b / 16 := by
            simp [IntKind.wrap, IntKind.signed, IntKind.bits]
            omega
          have q1 : (0 ≤ b / 16) = True := eq_true (by omega)
          have q2 : (b / 16 < 16) = True := eq_true (by omega)
          have q3 : (0 ≤ b % 16) = True := eq_true (by omega)
          have q4 : (b % 16 < 16) = True := eq_true (by omega)
          have x1 := hex_at (b / 16) (by omega) (by omega)
          have x2 := hex_at (b % 16) (by omega) (by omega)
          refine start_ (n := 10) (S := fun _ => True) (ds := []) #[false, false, false, false, false, false, false, false, false, false] (by kernel_rfl) rfl rfl trivial (fun hHeld => ?_)
          refine with_tabW item_word_h.tab7 item_word_h.bits7 (fun HT_ HW_ => ?_)
          have HD := Aside0.mk (HW.out.drewN nd).drew
          clear HW
          refine pure_ (i := 0) (N := some 19) (v := ?_) (a' := ?_) #[true, false, false, false, false, false, false, false, false, false] rfl rfl (any_of HT_.out (by kernel_rfl)) (fun _ _ _ h => h) (Or.inl ⟨by rfl, ?_⟩) ?_ ?_
          rotate_left
          · intro w'
            go_simp
            with_reducible rfl
          rotate_left
          · simp only [Act.put, List.setIfInBounds_toArray, List.set_cons_zero, List.set_cons_succ, i64_w, i32_w]
            rfl
          refine pure_ (i := 1) (N := some 20) (v := ?_) (a' := ?_) #[true, true, false, false, false, false, false, false, false, false] rfl rfl (any_of HT_.out (by kernel_rfl)) (fun _ _ _ h => h) (Or.inl ⟨by rfl, ?_⟩) ?_ ?_
          rotate_left
          · intro w'
            go_simp
            with_reducible rfl
          rotate_left
          · simp only [Act.put, List.setIfInBounds_toArray, List.set_cons_zero, List.set_cons_succ, i64_w, i32_w]
            rfl
          refine pure_ (i := 2) (N := some 21) (v := ?_) (a' := ?_) #[true, true, true, false, false, false, false, false, false, false] rfl rfl (any_of HT_.out (by kernel_rfl)) (fun _ _ _ h => h) (Or.inl ⟨by rfl, ?_⟩) ?_ ?_
          rotate_left
          · intro w'
            go_simp
            with_reducible rfl
          rotate_left
          · simp only [Act.put, List.setIfInBounds_toArray, List.set_cons_zero, List.set_cons_succ, i64_w, i32_w]
            rfl
          refine pure_ (i := 3) (N := some 22) (v := ?_) (a' := ?_) #[true, true, true, true, false, false, false, false, false, false] rfl rfl (any_of HT_.out (by kernel_rfl)) (fun _ _ _ h => h) (Or.inl ⟨by rfl, ?_⟩) ?_ ?_
          rotate_left
          · intro w'
            go_simp
            with_reducible rfl
          rotate_left
          · simp only [Act.put, List.setIfInBounds_toArray, List.set_cons_zero, List.set_cons_succ, i64_w, i32_w]
            rfl
          refine pure_ (i := 4) (N := some 23) (v := ?_) (a' := ?_) #[true, true, true, true, true, false, false, false, false, false] rfl rfl (any_of HT_.out (by kernel_rfl)) (fun _ _ _ h => h) (Or.inl ⟨by rfl, ?_⟩) ?_ ?_
          rotate_left
          · intro w'
            go_simp
            with_reducible rfl
          rotate_left
          · simp only [Act.put, List.setIfInBounds_toArray, List.set_cons_zero, List.set_cons_succ, i64_w, i32_w]
            rfl
          refine pure_ (i := 5) (N := some 24) (v := ?_) (a' := ?_) #[true, true, true, true, true, true, false, false, false, false] rfl rfl (any_of HT_.out (by kernel_rfl)) (fun _ _ _ h => h) (Or.inl ⟨by rfl, ?_⟩) ?_ ?_
          rotate_left
          · intro w'
            go_simp
            with_reducible rfl
          rotate_left
          · simp only [Act.put, List.setIfInBounds_toArray, List.set_cons_zero, List.set_cons_succ, i64_w, i32_w]
            rfl
          refine pure_ (i := 6) (N := some 25) (v := ?_) (a' := ?_) #[true, true, true, true, true, true, true, false, false, false] rfl rfl (any_of HT_.out (by kernel_rfl)) (fun _ _ _ h => h) (Or.inl ⟨by rfl, ?_⟩) ?_ ?_
          rotate_left
          · intro w'
            go_simp
            with_reducible rfl
          rotate_left
          · simp only [Act.put, List.setIfInBounds_toArray, List.set_cons_zero, List.set_cons_succ, i64_w, i32_w]
            rfl
          refine one_ (i := 7) (N := some 26) #[true, true, true, true, true, true, true, true, false, false] rfl rfl (one_of HT_.out (by kernel_rfl)) (by decide) (fun K hK => ?_)
          refine Kd.R_lit_step (Kd.int .u8) (w0 := w) w.heap.size 5 (by rfl) (N := 26) rfl (xs := [37, hexd (b / 16), hexd (b % 16)]) (inner := [.int .u8 37, .int .u8 (hexd (b / 16)), .int .u8 (hexd (b % 16))]) (ok := fun k => w.heap.size < k) (okp := fun _ => False) ?hr (Reps.one (show Kd.M (Kd.int .u8) _ _ _ 37 [.int .u8 37] from rfl) (Reps.one (show Kd.M (Kd.int .u8) _ _ _ _ [.int .u8 _] from rfl) (Reps.one (show Kd.M (Kd.int .u8) _ _ _ _ [.int .u8 _] from rfl) (Reps.none _ _)))) (fun _ h => h.elim) (blk_lt HD.out.2.1) HD.out.1 (below_size HD.out.1) (by simp) ?_
          case hr => first | (go_simp; done) | (go_simp; rfl)
          intro v1 w1 ho hb1 hg hnew
          have HN := Aside0.mk (HD.out.more (Kd.R_grown HD.out.2.2 hg (fun _ _ => by simp)) hb1 (row := none) (fun _ h => by simp at h) hg)
          obtain ⟨A1, c1, hv1⟩ := Kd.R_slice ho
          subst hv1
          have HR := Aside0.mk (Kd.R_reads' ho).2.2
          clear ho hb1 hg hnew HD
          refine hK.out _ _ trivial (fun hHeld => ?_)
          clear hK K
          refine norm_ (a' := ?_) ?_ ?_
          rotate_left
          · show Act.put _ (some 26) _ = _
            simp only [Act.put, List.setIfInBounds_toArray, List.set_cons_zero, List.set_cons_succ, i64_w, i32_w]
            rfl
          refine one_ (i := 8) (N := some 27) #[true, true, true, true, true, true, true, true, true, false] rfl rfl (one_of HT_.out (by kernel_rfl)) (by decide) (fun K hK => ?_)
          refine Kd.R_append_rows_step (Kd.int .u8) (w0 := w) w.heap.size (by rfl) (.tmp 19) (.tmp 26) 45 5 (.int .u8 0) 1 rfl Tryd.underlying45 i5 rfl (by decide) (by omega) u3 (wordTo a0 k) [37, hexd (b / 16), hexd (b % 16)] A1 3 c1 (fun k => w.heap.size < k) (fun _ => False) rfl rfl HN.out.2.2 HR.out (fun _ _ h => h) (fun _ h => h.elim) (fun k hk => Nat.lt_of_lt_of_le (blk_lt HN.out.2.1) hk) HN.out.1 (below_size HN.out.1) (by omega) ?_
          intro v2 w2 ho hb1 hg hat
          have HE := Aside0.mk (HN.out.more ho hb1 (fun _ h => HN.out.2.2.1 _ h) hg)
          clear ho hb1 hg hat HN HR
          refine hK.out _ _ trivial (fun hHeld => ?_)
          clear hK K
          refine norm_ (a' := ?_) ?_ ?_
          rotate_left
          · show Act.put _ (some 27) _ = _
            simp only [Act.put, List.setIfInBounds_toArray, List.set_cons_zero, List.set_cons_succ, i64_w, i32_w]
            rfl
          refine pure_ (i := 9) (N := some 3) (v := ?_) (a' := ?_) #[true, true, true, true, true, true, true, true, true, true] rfl rfl (any_of HT_.out (by kernel_rfl)) (fun _ _ _ h => h) (Or.inl ⟨by rfl, ?_⟩) ?_ ?_
          rotate_left
          · intro w'
            go_simp
            with_reducible rfl
          rotate_left
          · simp only [Act.put, List.setIfInBounds_toArray, List.set_cons_zero, List.set_cons_succ, i64_w, i32_w]
            rfl
          refine done_ (done_of HT_.out (by kernel_rfl)) ?_
          go_wp2
          go_roundw
          case rel => exact ⟨k + 1, by omega, by go_num, ⟨by rw [hn]; exact HE.out⟩⟩
          case measure => simp [intOf]; omega
      · obtain rfl : k = a0.size := by omega
        obtain ⟨A, cc, hv⟩ := Kd.R_slice HW.out.2.2
        subst hv
        have hcv := Kd.C_string (P := Tryd.prog) (w := wr) (src := 45) (dst := 9) (e := 5) (c := cc) Tryd.underlying45 Tryd.underlying5 Tryd.underlying9 (Kd.R_reads' HW.out.2.2).2.2
        go_wp2
        go_ret
        exact ⟨rfl, HW.out.1⟩
  · rw [if_neg hs] at h
    exact absurd h (by simp)
end Go.Proofs.YtljpcmpjfklloaaDoor.PA
