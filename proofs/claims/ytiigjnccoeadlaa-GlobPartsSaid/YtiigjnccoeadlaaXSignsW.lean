/- The walk of glob.signs: its signs are the plain parse, for a pattern of at most 100 bytes. -/
import Derived.Great.BuildSlice
import Derived.Laws.CopyOwn
import Derived.Test.YtiigjnccoeadlaaPAx0
import Derived.Test.YtiigjnccoeadlaaXClassW
import Derived.Test.YtiigjnccoeadlaaXGlobApp
import Derived.Test.YtiigjnccoeadlaaXGlobBase
import Derived.Test.YtiigjnccoeadlaaXGlobSpec
namespace Go.Proofs.Ytiigjnccoeadlaa.PA
open Go.RowKit Go.Proofs.YtiigjnccoeadlaaW.PrintWords Go.Proofs.YtiigjnccoeadlaaW.PrintLast Go.Proofs.YtiigjnccoeadlaaW.PrintMore
attribute [local go_sem] max2_int min2_int max_two min_two max_three min_three max_four min_four
set_option linter.unusedVariables false
set_option linter.unusedSimpArgs false
/-- The row of signs, and a block of the call's own beside it. -/
structure SgBox (T : Nat) (w0 wr : World) (v : Value) (l : List Sg) (g : Nat) (S : Array Value) : Prop where
  below : Below w0.heap.size w0 wr
  row_ : kSg.R T wr w0.heap.size (fun k => w0.heap.size ≤ k ∧ k ≠ g) v l
  blk : wr.heap[g]? = some (.cells S T (0, 0))
  lo : w0.heap.size ≤ g
theorem SgBox.make {T : Nat} {w0 wr : World} {v : Value} {l : List Sg} (h : SgRow T w0 wr v l) : SgBox T w0 (wr.alloc (.cells (sgA sgz) T)) v l wr.heap.size (sgA sgz) := by
  refine ⟨below_step h.1 (below_alloc (Below.refl _ _) _), ?_, blk_new _ _, below_size h.1⟩
  exact Kd.R_below (Kd.R_mono (Kd.R_bound h.2) (fun k hk => ⟨hk.1, Nat.ne_of_lt hk.2.2.1⟩)) (below_alloc (Below.refl _ _) _)
theorem SgBox.row {T : Nat} {w0 wr : World} {v : Value} {l : List Sg} {g : Nat} {S : Array Value} (h : SgBox T w0 wr v l g S) (S2 : Array Value) : SgBox T w0 (wr.setRow g S2) v l g S2 :=
  ⟨below_setRow h.below h.lo _, Kd.R_step h.row_ (fun k hk _ => setRow_other _ _ _ _ hk.2), setRow_heap _ _ _ _ _ _ h.blk, h.lo⟩
theorem SgBox.put {T : Nat} {w0 wr : World} {v : Value} {l : List Sg} {g : Nat} {S : Array Value} (h : SgBox T w0 wr v l g S) (i : Nat) (u : Value) (S2 : Array Value) (e : S.setIfInBounds i u = S2) : SgBox T w0 (wr.setCell ⟨g, i, none⟩ u) v l g S2 :=
  ⟨below_set h.below h.lo, Kd.R_far (p := ⟨g, i, none⟩) h.row_ (fun k hk => hk.2) u, blk_put h.blk i u e, h.lo⟩
theorem SgBox.step {T : Nat} {w0 wr w2 : World} {v : Value} {l : List Sg} {g : Nat} {S : Array Value} (h : SgBox T w0 wr v l g S) (hb : Below wr.heap.size wr w2) : SgBox T w0 w2 v l g S :=
  ⟨below_step h.below hb, Kd.R_below h.row_ hb, blk_below h.blk hb, h.lo⟩
theorem SgBox.forget {T : Nat} {w0 wr : World} {v : Value} {l : List Sg} {g : Nat} {S : Array Value} (h : SgBox T w0 wr v l g S) : SgRow T w0 wr v l := ⟨h.below, Kd.R_mono h.row_ (fun _ hk => hk.1)⟩
theorem sgB1 : Try.prog.built 45 [(0, .int .i64 1)] = some (sgA ⟨1, 0, false, noS⟩) := by kernel_rfl
theorem sgB2 : Try.prog.built 45 [(0, .int .i64 2)] = some (sgA ⟨2, 0, false, noS⟩) := by kernel_rfl
theorem sgB3 : Try.prog.built 45 [(0, .int .i64 3)] = some (sgA ⟨3, 0, false, noS⟩) := by kernel_rfl
theorem sgBc (c : Int) : Try.prog.built 45 [(1, .int .u8 c)] = some (sgA ⟨0, c, false, noS⟩) := by kernel_rfl
set_option maxHeartbeats 8000000 in
set_option maxRecDepth 100000 in
theorem signs_call (a0 : ByteArray) (hs : a0.size < 1000000) (w : World) :
    Calls Try.prog 22 #[.string a0] w (SgsPost 45 codeSg (if a0.size ≤ 100 then parse (a0.size + 1) (gL a0) else none) w) := by
  have hu1 := Try.underlying45
  have und := Try.underlying39
  have sgS := sgSize1
  have ha := sgAlloc
  by_cases h100 : a0.size ≤ 100
  · rw [if_pos h100]
    have c1 : ((100 : Int) < (a0.size : Int)) = False := eq_false (by omega)
    have c2 : (100 < a0.size) = False := eq_false (by omega)
    clear h100
    go_enter Try.func22, Try.ntmps22
    go_wp2
    clear c1 c2
    go_loopw [4, 5] (fun v4 v5 wr => ∃ (i : Nat) (l : List Tok), v5 = .int .i64 i ∧ Aside0 (PInv a0 i l) ∧ Aside0 (SgRow 45 w wr v4 (l.map codeSg))) (fun _ v5 _ => a0.size - (intOf v5).toNat)
    case atStart => exact ⟨0, [], rfl, ⟨PInv.start a0⟩, ⟨SgRow.start _ w⟩⟩
    case round =>
      obtain ⟨i, l, rfl, HC, HD⟩ := hrel
      by_cases hk : i < a0.size
      · have d0 : ((i : Int) < (a0.size : Int)) = True := eq_true (by omega)
        have d1 : ∀ h : i < a0.size, ((a0[i]'h).toNat : Int) = bt a0 (i : Int) := fun h => bt_at a0 i h
        have d9 : ∀ h : i + 1 < a0.size, ((a0[i + 1]'h).toNat : Int) = bt a0 ((i : Int) + 1) := fun h => bt_at a0 ((i + 1 : Nat) : Int) h
        have hln := Aside0.mk (HC.out.short hs codeSg)
        by_cases hc : (bt a0 (i : Int)) = 42
        · have e0 : (bt a0 (i : Int)) = 42 := hc
          rw [e0] at d1
          clear d9
          go_wp2_with (first | fail)
          go_loop [5] (fun v5 => ∃ m : Nat, v5 = .int .i64 m ∧ i ≤ m ∧ m < a0.size ∧ Aside0 (sk (dropL a0 (i + 1)) = sk (dropL a0 (m + 1)))) (fun v5 => a0.size - (intOf v5).toNat)
          case atStart => exact ⟨i, rfl, Nat.le_refl _, hk, ⟨rfl⟩⟩
          case round =>
            obtain ⟨m, rfl, hm1, hm2, HS⟩ := hrel
            have g1 : ∀ h : m + 1 < a0.size, ((a0[m + 1]'h).toNat : Int) = bt a0 ((m : Int) + 1) := fun h => bt_at a0 ((m + 1 : Nat) : Int) h
            by_cases hm3 : m + 1 < a0.size ∧ bt a0 ((m : Int) + 1) = 42
            · obtain ⟨q1, q2⟩ := hm3
              have q3 : (((m : Int) + 1) < (a0.size : Int)) = True := eq_true (by omega)
              have HS2 := Aside0.mk (HS.out.trans (sk_hit a0 (m + 1) q1 q2))
              rw [q2] at g1
              go_wp2
              go_round
              case rel => exact ⟨m + 1, by go_num, by omega, by omega, HS2⟩
              case measure => simp [intOf]; omega
            · have HS2 := Aside0.mk (HS.out.trans (sk_stop a0 (m + 1) hm3))
              have q0 : (m + 1 < a0.size ∧ (((m : Int) + 1) < (a0.size : Int)) = True ∧ (bt a0 ((m : Int) + 1) == 42) = false) ∨ (((m : Int) + 1) < (a0.size : Int)) = False := by
                by_cases h : m + 1 < a0.size
                · exact .inl ⟨h, eq_true (by omega), beq_eq_false_iff_ne.2 (fun h2 => hm3 ⟨h, h2⟩)⟩
                · exact .inr (eq_false (by omega))
              have HP := Aside0.mk (HC.out.star hk hc HS2.out (by omega) hm2)
              clear hm3 HS HS2
              by_cases him : i < m
              · have p1 : ((i : Int) < (m : Int)) = True := eq_true (by omega)
                have p2 : (i < m) = True := eq_true him
                have HP2 := HP.out
                rw [if_pos (by omega)] at HP2
                have HP3 := Aside0.mk HP2
                clear HP HP2
                rcases q0 with ⟨q1, q2, q3⟩ | q2
                all_goals
                  go_wp2_with (first | ((with_reducible refine gate_dst (N := 50) rfl ?_); refine wpList_buildTo rfl 45 #[(0, .const (.int .i64 1))] rfl (some 50) rfl (sgA ⟨1, 0, false, noS⟩) ?hf ?_; (case hf => (simp only [List.map_toArray, List.map_cons, List.map_nil]; exact sgB1))) | ((with_reducible refine gate_dst (N := 51) rfl ?_); refine wpList_oneSg rfl 39 45 (.tmp 50) rfl (some 51) rfl und sgInfo1 ⟨1, 0, false, noS⟩ rfl ?_) | ((with_reducible refine gate_builtin (b := .append) (xs := #[.tmp 49, .tmp 51]) rfl ?_); at_builtin; refine sgApp (w0 := w) rfl (.tmp 49) (.tmp 51) 39 45 rfl (some 52) rfl und sgInfo1 u4 (l.map codeSg) ⟨1, 0, false, noS⟩ rfl rfl HD.out hln.out ?_; intro v1 w1 he_; have HE := Aside0.mk he_; clear he_ HD))
                  go_roundw
                  case rel => exact ⟨m + 1, l ++ [Tok.star2], by first | rfl | go_num, ⟨HP3.out⟩, ⟨by rw [List.map_append]; exact HE.out⟩⟩
                  case measure => simp [intOf]; omega
              · have p1 : ((i : Int) < (m : Int)) = False := eq_false (by omega)
                have p2 : (i < m) = False := eq_false him
                have HP2 := HP.out
                rw [if_neg (by omega)] at HP2
                have HP3 := Aside0.mk HP2
                clear HP HP2
                rcases q0 with ⟨q1, q2, q3⟩ | q2
                all_goals
                  go_wp2_with (first | ((with_reducible refine gate_dst (N := 54) rfl ?_); refine wpList_buildTo rfl 45 #[(0, .const (.int .i64 2))] rfl (some 54) rfl (sgA ⟨2, 0, false, noS⟩) ?hf ?_; (case hf => (simp only [List.map_toArray, List.map_cons, List.map_nil]; exact sgB2))) | ((with_reducible refine gate_dst (N := 55) rfl ?_); refine wpList_oneSg rfl 39 45 (.tmp 54) rfl (some 55) rfl und sgInfo1 ⟨2, 0, false, noS⟩ rfl ?_) | ((with_reducible refine gate_builtin (b := .append) (xs := #[.tmp 53, .tmp 55]) rfl ?_); at_builtin; refine sgApp (w0 := w) rfl (.tmp 53) (.tmp 55) 39 45 rfl (some 56) rfl und sgInfo1 u4 (l.map codeSg) ⟨2, 0, false, noS⟩ rfl rfl HD.out hln.out ?_; intro v1 w1 he_; have HE := Aside0.mk he_; clear he_ HD))
                  go_roundw
                  case rel => exact ⟨m + 1, l ++ [Tok.star], by first | rfl | go_num, ⟨HP3.out⟩, ⟨by rw [List.map_append]; exact HE.out⟩⟩
                  case measure => simp [intOf]; omega
        · have n1 : ((bt a0 (i : Int)) == 42) = false := beq_eq_false_iff_ne.2 hc
          have hc1 := hc
          clear hc
          by_cases hc : (bt a0 (i : Int)) = 63
          · have e0 : (bt a0 (i : Int)) = 63 := hc
            rw [e0] at d1
            clear d9 n1
            go_wp2_with (first | ((with_reducible refine gate_dst (N := 60) rfl ?_); refine wpList_buildTo rfl 45 #[(0, .const (.int .i64 3))] rfl (some 60) rfl (sgA ⟨3, 0, false, noS⟩) ?hf ?_; (case hf => (simp only [List.map_toArray, List.map_cons, List.map_nil]; exact sgB3))) | ((with_reducible refine gate_dst (N := 61) rfl ?_); refine wpList_oneSg rfl 39 45 (.tmp 60) rfl (some 61) rfl und sgInfo1 ⟨3, 0, false, noS⟩ rfl ?_) | ((with_reducible refine gate_builtin (b := .append) (xs := #[.tmp 59, .tmp 61]) rfl ?_); at_builtin; refine sgApp (w0 := w) rfl (.tmp 59) (.tmp 61) 39 45 rfl (some 62) rfl und sgInfo1 u4 (l.map codeSg) ⟨3, 0, false, noS⟩ rfl rfl HD.out hln.out ?_; intro v1 w1 he_; have HE := Aside0.mk he_; clear he_ HD))
            go_roundw
            case rel => exact ⟨i + 1, l ++ [Tok.one], by first | rfl | go_num, ⟨HC.out.one hk hc⟩, ⟨by rw [List.map_append]; exact HE.out⟩⟩
            case measure => simp [intOf]; omega
          · have n2 : ((bt a0 (i : Int)) == 63) = false := beq_eq_false_iff_ne.2 hc
            have hc2 := hc
            clear hc
            by_cases hc : (bt a0 (i : Int)) = 91
            · have e0 : (bt a0 (i : Int)) = 91 := hc
              rw [e0] at d1
              clear d9 n1 n2
              have hcl : ∀ w, Calls Try.prog 30 #[.string a0, .int .i64 ((i : Int) + 1)] w (ClsPost a0 (cls0 (dropL a0 (i + 1))) w) := fun w => classAt_call a0 (i + 1) hs hk w
              cases h0 : cls0 (dropL a0 (i + 1)) with
              | none =>
                have hcl2 : ∀ w, Calls Try.prog 30 #[.string a0, .int .i64 ((i : Int) + 1)] w (ClsPost a0 none w) := fun w => by rw [← h0]; exact hcl w
                clear hcl
                go_wp2_with (first | (go_at_call 30; (with_reducible refine (hcl2 _).mono ?_); rintro e w2 ⟨hb, x, j, rfl⟩; have n0_ := Aside0.mk (SgRow.step HD.out hb); clear HD hb; have HD := n0_; clear n0_) | ((with_reducible refine gate_store (t := 45) (p := 7) rfl ?_); refine wpList_store_rowTo rfl 45 (.tmp 7) (.tmp 70) rfl rfl w2.heap.size (sgA x) rfl rfl 45 (sgA sgz) (blk_new w2 _) (sgS _) (sgA_same _ _) (sgA_one _) ?_))
                go_ret2
                exact SgsPost.none (below_step HD.out.1 (below_setRow (below_alloc (Below.refl _ _) _) (Nat.le_refl _) _)) (HC.out.nocls hk hc h0)
              | some tr =>
                obtain ⟨t, r⟩ := tr
                have hcl2 : ∀ w, Calls Try.prog 30 #[.string a0, .int .i64 ((i : Int) + 1)] w (ClsPost a0 (some (t, r)) w) := fun w => by rw [← h0]; exact hcl w
                clear hcl
                go_wp2_with (first | (go_at_call 30; (with_reducible refine (hcl2 _).mono ?_); rintro e w2 ⟨hb, j, hj, hle, rfl⟩; subst hj; have hjj := (HC.out.cls hk hc h0 hle).1; have HP := Aside0.mk (HC.out.cls hk hc h0 hle).2; have n0_ := Aside0.mk (SgBox.make (SgRow.step HD.out hb)); clear HD hb; have HX := n0_; clear n0_) | ((with_reducible refine gate_store (t := 45) (p := 7) rfl ?_); refine wpList_store_rowTo rfl 45 (.tmp 7) (.tmp 70) rfl rfl w2.heap.size (sgA (codeSg t)) rfl rfl 45 (sgA sgz) HX.out.blk (sgS _) (sgA_same _ _) (sgA_one _) ?_; have n0_ := Aside0.mk (SgBox.row HX.out (sgA (codeSg t))); clear HX; have HX := n0_; clear n0_; have HD := Aside0.mk HX.out.forget) | ((with_reducible refine gate_dst (N := 76) rfl ?_); refine wpList_load_row rfl 45 (.tmp 7) rfl w2.heap.size rfl 45 (sgA (codeSg t)) (0, 0) _ HX.out.blk hu1 rfl (sgS _) ?_) | ((with_reducible refine gate_dst (N := 77) rfl ?_); refine wpList_oneSg rfl 39 45 (.tmp 76) rfl (some 77) rfl und sgInfo1 (codeSg t) rfl ?_) | ((with_reducible refine gate_builtin (b := .append) (xs := #[.tmp 75, .tmp 77]) rfl ?_); at_builtin; refine sgApp (w0 := w) rfl (.tmp 75) (.tmp 77) 39 45 rfl (some 78) rfl und sgInfo1 u4 (l.map codeSg) (codeSg t) rfl rfl HD.out hln.out ?_; intro v1 w1 he_; have HE := Aside0.mk he_; clear he_ HD))
                go_roundw
                case rel => exact ⟨j, l ++ [t], by first | rfl | go_num, ⟨HP.out⟩, ⟨by rw [List.map_append]; exact HE.out⟩⟩
                case measure => simp [intOf]; omega
            · have n3 : ((bt a0 (i : Int)) == 91) = false := beq_eq_false_iff_ne.2 hc
              have hc3 := hc
              clear hc
              by_cases hc : (bt a0 (i : Int)) = 92
              · have e0 : (bt a0 (i : Int)) = 92 := hc
                rw [e0] at d1
                clear n1 n2 n3
                by_cases hk2 : i + 1 < a0.size
                · have q1 : (((i : Int) + 1) == (a0.size : Int)) = false := beq_eq_false_iff_ne.2 (by omega)
                  go_wp2_with (first | ((with_reducible refine gate_dst (N := 93) rfl ?_); refine wpList_buildTo rfl 45 #[(1, .tmp 92)] rfl (some 93) rfl (sgA ⟨0, bt a0 ((i : Int) + 1), false, noS⟩) ?hf ?_; (case hf => (simp only [List.map_toArray, List.map_cons, List.map_nil]; exact sgBc _))) | ((with_reducible refine gate_dst (N := 94) rfl ?_); refine wpList_oneSg rfl 39 45 (.tmp 93) rfl (some 94) rfl und sgInfo1 ⟨0, bt a0 ((i : Int) + 1), false, noS⟩ rfl ?_) | ((with_reducible refine gate_builtin (b := .append) (xs := #[.tmp 89, .tmp 94]) rfl ?_); at_builtin; refine sgApp (w0 := w) rfl (.tmp 89) (.tmp 94) 39 45 rfl (some 95) rfl und sgInfo1 u4 (l.map codeSg) ⟨0, bt a0 ((i : Int) + 1), false, noS⟩ rfl rfl HD.out hln.out ?_; intro v1 w1 he_; have HE := Aside0.mk he_; clear he_ HD))
                  go_roundw
                  case rel => exact ⟨i + 2, l ++ [Tok.lit (bt a0 ((i : Int) + 1))], by first | rfl | go_num, ⟨HC.out.esc hk hc hk2⟩, ⟨by rw [List.map_append]; exact HE.out⟩⟩
                  case measure => simp [intOf]; omega
                · have q1 : (((i : Int) + 1) == (a0.size : Int)) = true := beq_iff_eq.2 (by omega)
                  go_wp2
                  go_ret2
                  exact SgsPost.none HD.out.1 (HC.out.noesc hk hc hk2)
              · have n4 : ((bt a0 (i : Int)) == 92) = false := beq_eq_false_iff_ne.2 hc
                clear d9
                go_wp2_with (first | ((with_reducible refine gate_dst (N := 26) rfl ?_); refine wpList_buildTo rfl 45 #[(1, .tmp 25)] rfl (some 26) rfl (sgA ⟨0, bt a0 (i : Int), false, noS⟩) ?hf ?_; (case hf => (simp only [List.map_toArray, List.map_cons, List.map_nil]; exact sgBc _))) | ((with_reducible refine gate_dst (N := 27) rfl ?_); refine wpList_oneSg rfl 39 45 (.tmp 26) rfl (some 27) rfl und sgInfo1 ⟨0, bt a0 (i : Int), false, noS⟩ rfl ?_) | ((with_reducible refine gate_builtin (b := .append) (xs := #[.tmp 22, .tmp 27]) rfl ?_); at_builtin; refine sgApp (w0 := w) rfl (.tmp 22) (.tmp 27) 39 45 rfl (some 28) rfl und sgInfo1 u4 (l.map codeSg) ⟨0, bt a0 (i : Int), false, noS⟩ rfl rfl HD.out hln.out ?_; intro v1 w1 he_; have HE := Aside0.mk he_; clear he_ HD))
                go_roundw
                case rel => exact ⟨i + 1, l ++ [Tok.lit (bt a0 (i : Int))], by first | rfl | go_num, ⟨HC.out.lit hk hc1 hc2 hc3 hc⟩, ⟨by rw [List.map_append]; exact HE.out⟩⟩
                case measure => simp [intOf]; omega
      · have d0 : ((i : Int) < (a0.size : Int)) = False := eq_false (by omega)
        go_wp2
        go_ret2
        exact SgsPost.some HD.out (HC.out.done hk)
  · rw [if_neg h100]
    have c1 : ((100 : Int) < (a0.size : Int)) = True := eq_true (by omega)
    have c2 : (100 < a0.size) = True := eq_true (by omega)
    go_enter Try.func22, Try.ntmps22
    go_wp2
    go_ret2
    exact SgsPost.none (Below.refl _ _) rfl
end Go.Proofs.Ytiigjnccoeadlaa.PA
