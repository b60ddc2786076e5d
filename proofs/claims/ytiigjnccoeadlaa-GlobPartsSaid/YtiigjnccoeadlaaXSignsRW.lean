/- The walk of the reference's Signs: the plain parse. -/
import Derived.Great.BuildSlice
import Derived.Laws.CopyOwn
import Derived.Test.YtiigjnccoeadlaaPAx0
import Derived.Test.YtiigjnccoeadlaaXClassW
import Derived.Test.YtiigjnccoeadlaaXClassW2
import Derived.Test.YtiigjnccoeadlaaXGlobApp
import Derived.Test.YtiigjnccoeadlaaXGlobBase
import Derived.Test.YtiigjnccoeadlaaXGlobSpec
import Derived.Test.YtiigjnccoeadlaaXSignsW
namespace Go.Proofs.Ytiigjnccoeadlaa.PA
open Go.RowKit Go.Proofs.YtiigjnccoeadlaaW.PrintWords Go.Proofs.YtiigjnccoeadlaaW.PrintLast Go.Proofs.YtiigjnccoeadlaaW.PrintMore
attribute [local go_sem] max2_int min2_int max_two min_two max_three min_three max_four min_four
set_option linter.unusedVariables false
set_option linter.unusedSimpArgs false
theorem sgRc (c : Int) : Try.prog.built 34 [(1, .int .u8 c)] = some (sgA ⟨0, c, false, noS⟩) := by kernel_rfl
theorem cls1_code {b : Bool} {l : List Int} {t : Tok} {r : List Int} (h : cls1 b l = some (t, r)) : Aside0 (codeSg t = refSg t) := by
  unfold cls1 at h
  cases l with
  | nil => simp at h
  | cons c l' =>
    dsimp only at h
    split at h
    · simp at h
    · cases hc : clsL ((c :: l').length + 1) (c :: l') noS with
      | none => rw [hc] at h; simp [clsEnd] at h
      | some p =>
        obtain ⟨q, s⟩ := p
        rw [hc] at h
        cases q with
        | nil => simp [clsEnd] at h
        | cons a q =>
          simp [clsEnd] at h
          rw [← h.1]
          exact ⟨rfl⟩
theorem cls0_code {l : List Int} {t : Tok} {r : List Int} (h : cls0 l = some (t, r)) : Aside0 (refSg t = codeSg t) := by
  have key : Aside0 (codeSg t = refSg t) := by
    unfold cls0 at h
    cases l with
    | nil => simp at h
    | cons c l' =>
      dsimp only at h
      split at h
      · exact cls1_code h
      · exact cls1_code h
  exact ⟨key.out.symm⟩
theorem star_kind {w : World} {g T : Nat} {p : Prop} [Decidable p] (h : w.heap[g]? = some (.cells (sgA (refSg (if p then Tok.star2 else Tok.star))) T (0, 0))) : w.cell? ⟨g, 0, none⟩ = some (.int .i64 (if p then 3 else 2)) := by
  rw [blk_cell h 0]
  by_cases hp : p
  · rw [if_pos hp, if_pos hp]
    simp only [refSg, sgA, sgL, List.getElem?_toArray, List.getElem?_cons_zero]
  · rw [if_neg hp, if_neg hp]
    simp only [refSg, sgA, sgL, List.getElem?_toArray, List.getElem?_cons_zero]
theorem star_eq (i m : Nat) : (if i + 1 < m + 1 then Tok.star2 else Tok.star) = (if i < m then Tok.star2 else Tok.star) := by
  by_cases h : i < m
  · rw [if_pos h, if_pos (by omega)]
  · rw [if_neg h, if_neg (by omega)]
theorem star_put (i m : Nat) (h : i ≤ m) : (sgA (refSg (if i < m then Tok.star2 else Tok.star))).setIfInBounds 0 (.int .i64 3) = sgA (refSg (if i < m + 1 then Tok.star2 else Tok.star)) := by
  rw [if_pos (show i < m + 1 by omega)]
  split <;> exact sg_kind _ _ _ _ _
set_option maxHeartbeats 8000000 in
set_option maxRecDepth 100000 in
theorem rsigns_call (a0 : ByteArray) (hs : a0.size < 1000000) (w : World) :
    Calls Try.prog 15 #[.string a0] w (SgsPost 34 refSg (parse (a0.size + 1) (gL a0)) w) := by
  have hu1 := Try.underlying34
  have und := Try.underlying29
  have sgS := sgSize2
  have ha := sgAlloc2
  go_enter Try.func15, Try.ntmps15
  go_wp2
  go_loopw [4, 5] (fun v4 v5 wr => ∃ (i : Nat) (l : List Tok), v5 = .int .i64 i ∧ Aside0 (PInv a0 i l) ∧ Aside0 (SgRow 34 w wr v4 (l.map refSg))) (fun _ v5 _ => a0.size - (intOf v5).toNat)
  case atStart => exact ⟨0, [], rfl, ⟨PInv.start a0⟩, ⟨SgRow.start _ w⟩⟩
  case round =>
    obtain ⟨i, l, rfl, HC, HD⟩ := hrel
    by_cases hk : i < a0.size
    · have d0 : ((i : Int) < (a0.size : Int)) = True := eq_true (by omega)
      have d1 : ∀ h : i < a0.size, ((a0[i]'h).toNat : Int) = bt a0 (i : Int) := fun h => bt_at a0 i h
      have d9 : ∀ h : i + 1 < a0.size, ((a0[i + 1]'h).toNat : Int) = bt a0 ((i : Int) + 1) := fun h => bt_at a0 ((i + 1 : Nat) : Int) h
      have hln := Aside0.mk (HC.out.short hs refSg)
      have HX := Aside0.mk (SgBox.make HD.out)
      clear HD
      by_cases hc : (bt a0 (i : Int)) = 92
      · have e0 : (bt a0 (i : Int)) = 92 := hc
        rw [e0] at d1
        by_cases hk2 : i + 1 < a0.size
        · have q1 : ((a0.size : Int) ≤ (i : Int) + 1) = False := eq_false (by omega)
          go_wp2_with (first | ((with_reducible refine gate_dst (N := 19) rfl ?_); refine wpList_buildTo rfl 34 #[(1, .tmp 18)] rfl (some 19) rfl (sgA ⟨0, 92, false, noS⟩) ?hf ?_; (case hf => (simp only [List.map_toArray, List.map_cons, List.map_nil]; exact sgRc _))) | ((with_reducible refine gate_store (t := 34) (p := 7) rfl ?_); refine wpList_store_rowTo rfl 34 (.tmp 7) (.tmp 19) rfl rfl wr.heap.size (sgA ⟨0, 92, false, noS⟩) rfl rfl 34 (sgA sgz) HX.out.blk (sgS _) (sgA_same _ _) (sgA_one _) ?_; have n0_ := Aside0.mk (SgBox.row HX.out (sgA ⟨0, 92, false, noS⟩)); clear HX; have HX := n0_; clear n0_; have hk0 := blk_cell HX.out.blk 0; have hf0 := blk_frozen HX.out.blk 0; have hk1 := blk_cell HX.out.blk 1; have hf1 := blk_frozen HX.out.blk 1; change _ = some (Value.int .i64 0) at hk0; change _ = some (Value.int .u8 (92)) at hk1) | ((with_reducible refine gate_dst (N := 67) rfl ?_); have n0_ := Aside0.mk (SgBox.put HX.out 1 (.int .u8 (bt a0 ((i : Int) + 1))) (sgA ⟨0, bt a0 ((i : Int) + 1), false, noS⟩) (sg_c _ _ _ _ _)); clear HX; have HX := n0_; clear n0_; have HD := Aside0.mk HX.out.forget; refine wpList_load_row rfl 34 (.tmp 7) rfl wr.heap.size rfl 34 (sgA ⟨0, bt a0 ((i : Int) + 1), false, noS⟩) (0, 0) _ HX.out.blk hu1 rfl (sgS _) ?_) | ((with_reducible refine gate_dst (N := 68) rfl ?_); refine wpList_oneSg rfl 29 34 (.tmp 67) rfl (some 68) rfl und sgInfo2 ⟨0, bt a0 ((i : Int) + 1), false, noS⟩ rfl ?_) | ((with_reducible refine gate_builtin (b := .append) (xs := #[.tmp 66, .tmp 68]) rfl ?_); at_builtin; refine sgApp (w0 := w) rfl (.tmp 66) (.tmp 68) 29 34 rfl (some 69) rfl und sgInfo2 u4 (l.map refSg) ⟨0, bt a0 ((i : Int) + 1), false, noS⟩ rfl rfl HD.out hln.out ?_; intro v1 w1 he_; have HE := Aside0.mk he_; clear he_ HD))
          go_roundw
          case rel => exact ⟨i + 2, l ++ [Tok.lit (bt a0 ((i : Int) + 1))], by first | rfl | go_num, ⟨HC.out.esc hk hc hk2⟩, ⟨by rw [List.map_append]; exact HE.out⟩⟩
          case measure => simp [intOf]; omega
        · have q1 : ((a0.size : Int) ≤ (i : Int) + 1) = True := eq_true (by omega)
          go_wp2_with (first | ((with_reducible refine gate_dst (N := 19) rfl ?_); refine wpList_buildTo rfl 34 #[(1, .tmp 18)] rfl (some 19) rfl (sgA ⟨0, 92, false, noS⟩) ?hf ?_; (case hf => (simp only [List.map_toArray, List.map_cons, List.map_nil]; exact sgRc _))) | ((with_reducible refine gate_store (t := 34) (p := 7) rfl ?_); refine wpList_store_rowTo rfl 34 (.tmp 7) (.tmp 19) rfl rfl wr.heap.size (sgA ⟨0, 92, false, noS⟩) rfl rfl 34 (sgA sgz) HX.out.blk (sgS _) (sgA_same _ _) (sgA_one _) ?_; have n0_ := Aside0.mk (SgBox.row HX.out (sgA ⟨0, 92, false, noS⟩)); clear HX; have HX := n0_; clear n0_; have hk0 := blk_cell HX.out.blk 0; have hf0 := blk_frozen HX.out.blk 0; have hk1 := blk_cell HX.out.blk 1; have hf1 := blk_frozen HX.out.blk 1; change _ = some (Value.int .i64 0) at hk0; change _ = some (Value.int .u8 (92)) at hk1))
          go_ret2
          exact SgsPost.none HX.out.below (HC.out.noesc hk hc hk2)
      · have n4 : ((bt a0 (i : Int)) == 92) = false := beq_eq_false_iff_ne.2 hc
        have hc4 := hc
        clear hc
        by_cases hc : (bt a0 (i : Int)) = 63
        · have e0 : (bt a0 (i : Int)) = 63 := hc
          rw [e0] at d1
          clear d9 n4
          go_wp2_with (first | ((with_reducible refine gate_dst (N := 19) rfl ?_); refine wpList_buildTo rfl 34 #[(1, .tmp 18)] rfl (some 19) rfl (sgA ⟨0, 63, false, noS⟩) ?hf ?_; (case hf => (simp only [List.map_toArray, List.map_cons, List.map_nil]; exact sgRc _))) | ((with_reducible refine gate_store (t := 34) (p := 7) rfl ?_); refine wpList_store_rowTo rfl 34 (.tmp 7) (.tmp 19) rfl rfl wr.heap.size (sgA ⟨0, 63, false, noS⟩) rfl rfl 34 (sgA sgz) HX.out.blk (sgS _) (sgA_same _ _) (sgA_one _) ?_; have n0_ := Aside0.mk (SgBox.row HX.out (sgA ⟨0, 63, false, noS⟩)); clear HX; have HX := n0_; clear n0_; have hk0 := blk_cell HX.out.blk 0; have hf0 := blk_frozen HX.out.blk 0; have hk1 := blk_cell HX.out.blk 1; have hf1 := blk_frozen HX.out.blk 1; change _ = some (Value.int .i64 0) at hk0; change _ = some (Value.int .u8 (63)) at hk1) | ((with_reducible refine gate_dst (N := 67) rfl ?_); have n0_ := Aside0.mk (SgBox.put HX.out 0 (.int .i64 1) (sgA ⟨1, 63, false, noS⟩) (sg_kind _ _ _ _ _)); clear HX; have HX := n0_; clear n0_; have HD := Aside0.mk HX.out.forget; refine wpList_load_row rfl 34 (.tmp 7) rfl wr.heap.size rfl 34 (sgA ⟨1, 63, false, noS⟩) (0, 0) _ HX.out.blk hu1 rfl (sgS _) ?_) | ((with_reducible refine gate_dst (N := 68) rfl ?_); refine wpList_oneSg rfl 29 34 (.tmp 67) rfl (some 68) rfl und sgInfo2 ⟨1, 63, false, noS⟩ rfl ?_) | ((with_reducible refine gate_builtin (b := .append) (xs := #[.tmp 66, .tmp 68]) rfl ?_); at_builtin; refine sgApp (w0 := w) rfl (.tmp 66) (.tmp 68) 29 34 rfl (some 69) rfl und sgInfo2 u4 (l.map refSg) ⟨1, 63, false, noS⟩ rfl rfl HD.out hln.out ?_; intro v1 w1 he_; have HE := Aside0.mk he_; clear he_ HD))
          go_roundw
          case rel => exact ⟨i + 1, l ++ [Tok.one], by first | rfl | go_num, ⟨HC.out.one hk hc⟩, ⟨by rw [List.map_append]; exact HE.out⟩⟩
          case measure => simp [intOf]; omega
        · have n2 : ((bt a0 (i : Int)) == 63) = false := beq_eq_false_iff_ne.2 hc
          have hc2 := hc
          clear hc
          by_cases hc : (bt a0 (i : Int)) = 42
          · have e0 : (bt a0 (i : Int)) = 42 := hc
            rw [e0] at d1
            clear d9 n2 n4
            go_wp2_with (first | ((with_reducible refine gate_dst (N := 19) rfl ?_); refine wpList_buildTo rfl 34 #[(1, .tmp 18)] rfl (some 19) rfl (sgA ⟨0, 42, false, noS⟩) ?hf ?_; (case hf => (simp only [List.map_toArray, List.map_cons, List.map_nil]; exact sgRc _))) | ((with_reducible refine gate_store (t := 34) (p := 7) rfl ?_); refine wpList_store_rowTo rfl 34 (.tmp 7) (.tmp 19) rfl rfl wr.heap.size (sgA ⟨0, 42, false, noS⟩) rfl rfl 34 (sgA sgz) HX.out.blk (sgS _) (sgA_same _ _) (sgA_one _) ?_; have n0_ := Aside0.mk (SgBox.row HX.out (sgA ⟨0, 42, false, noS⟩)); clear HX; have HX := n0_; clear n0_; have hk0 := blk_cell HX.out.blk 0; have hf0 := blk_frozen HX.out.blk 0; have hk1 := blk_cell HX.out.blk 1; have hf1 := blk_frozen HX.out.blk 1; change _ = some (Value.int .i64 0) at hk0; change _ = some (Value.int .u8 (42)) at hk1))
            have n0_ := Aside0.mk (SgBox.put HX.out 0 (.int .i64 2) (sgA ⟨2, 42, false, noS⟩) (sg_kind _ _ _ _ _))
            clear HX hk0 hk1 hf0 hf1
            have HX := n0_
            clear n0_
            obtain ⟨wo, rfl⟩ : ∃ wo : World, wo = wr := ⟨_, rfl⟩
            go_loopw [5] (fun v5 wi => ∃ m : Nat, v5 = .int .i64 ((m : Int) + 1) ∧ i ≤ m ∧ m < a0.size ∧ Aside0 (sk (dropL a0 (i + 1)) = sk (dropL a0 (m + 1))) ∧ Aside0 (SgBox 34 w wi u4 (l.map refSg) wo.heap.size (sgA (refSg (if i < m then Tok.star2 else Tok.star))))) (fun v5 _ => a0.size + 1 - (intOf v5).toNat)
            case atStart => exact ⟨i, rfl, Nat.le_refl _, hk, ⟨rfl⟩, ⟨by rw [if_neg (Nat.lt_irrefl _)]; exact HX.out⟩⟩
            case round =>
              clear HX
              obtain ⟨m, rfl, hm1, hm2, HS, HX⟩ := hrel
              have g1 : ∀ h : m + 1 < a0.size, ((a0[m + 1]'h).toNat : Int) = bt a0 ((m : Int) + 1) := fun h => bt_at a0 ((m + 1 : Nat) : Int) h
              by_cases hm3 : m + 1 < a0.size ∧ bt a0 ((m : Int) + 1) = 42
              · obtain ⟨q1, q2⟩ := hm3
                have q3 : (((m : Int) + 1) < (a0.size : Int)) = True := eq_true (by omega)
                have HS2 := Aside0.mk (HS.out.trans (sk_hit a0 (m + 1) q1 q2))
                rw [q2] at g1
                obtain ⟨kv, hk0⟩ : ∃ kv, wr.cell? ⟨wo.heap.size, 0, none⟩ = some kv := ⟨_, star_kind HX.out.blk⟩
                have hf0 := blk_frozen HX.out.blk 0
                go_wp2
                have n0_ := Aside0.mk (SgBox.put HX.out 0 (.int .i64 3) (sgA (refSg (if i < m + 1 then Tok.star2 else Tok.star))) (star_put i m hm1))
                go_roundw
                case rel => exact ⟨m + 1, by go_num, by omega, by omega, HS2, ⟨n0_.out⟩⟩
                case measure => simp [intOf]; omega
              · have HS2 := Aside0.mk (HS.out.trans (sk_stop a0 (m + 1) hm3))
                have q0 : (m + 1 < a0.size ∧ (((m : Int) + 1) < (a0.size : Int)) = True ∧ (bt a0 ((m : Int) + 1) == 42) = false) ∨ (((m : Int) + 1) < (a0.size : Int)) = False := by
                  by_cases h : m + 1 < a0.size
                  · exact .inl ⟨h, eq_true (by omega), beq_eq_false_iff_ne.2 (fun h2 => hm3 ⟨h, h2⟩)⟩
                  · exact .inr (eq_false (by omega))
                have HP := Aside0.mk (HC.out.star hk hc HS2.out (by omega) hm2)
                rw [star_eq] at HP
                clear hm3 HS HS2
                obtain ⟨X, hX⟩ : ∃ X, X = (if i < m then Tok.star2 else Tok.star) := ⟨_, rfl⟩
                rw [← hX] at HX HP
                clear hX
                rcases q0 with ⟨q1, q2, q3⟩ | q2
                all_goals
                  go_wp2_with (first | ((with_reducible refine gate_dst (N := 67) rfl ?_); have HD := Aside0.mk HX.out.forget; refine wpList_load_row rfl 34 (.tmp 7) rfl wo.heap.size rfl 34 (sgA (refSg X)) (0, 0) _ HX.out.blk hu1 rfl (sgS _) ?_) | ((with_reducible refine gate_dst (N := 68) rfl ?_); refine wpList_oneSg rfl 29 34 (.tmp 67) rfl (some 68) rfl und sgInfo2 (refSg X) rfl ?_) | ((with_reducible refine gate_builtin (b := .append) (xs := #[.tmp 66, .tmp 68]) rfl ?_); at_builtin; refine sgApp (w0 := w) rfl (.tmp 66) (.tmp 68) 29 34 rfl (some 69) rfl und sgInfo2 u4 (l.map refSg) (refSg X) rfl rfl HD.out hln.out ?_; intro v1 w1 he_; have HE := Aside0.mk he_; clear he_ HD))
                  go_roundw
                  case rel => exact ⟨m + 1, l ++ [X], by first | rfl | go_num, ⟨HP.out⟩, ⟨by rw [List.map_append]; exact HE.out⟩⟩
                  case measure => simp [intOf]; omega
          · have n1 : ((bt a0 (i : Int)) == 42) = false := beq_eq_false_iff_ne.2 hc
            have hc1 := hc
            clear hc
            by_cases hc : (bt a0 (i : Int)) = 91
            · have e0 : (bt a0 (i : Int)) = 91 := hc
              rw [e0] at d1
              clear d9 n1 n2 n4
              have hcl : ∀ w, Calls Try.prog 26 #[.string a0, .int .i64 ((i : Int) + 1)] w (ClsPost a0 (cls0 (dropL a0 (i + 1))) w) := fun w => class_call a0 (i + 1) hs hk w
              cases h0 : cls0 (dropL a0 (i + 1)) with
              | none =>
                have hcl2 : ∀ w, Calls Try.prog 26 #[.string a0, .int .i64 ((i : Int) + 1)] w (ClsPost a0 none w) := fun w => by rw [← h0]; exact hcl w
                clear hcl
                go_wp2_with (first | ((with_reducible refine gate_dst (N := 19) rfl ?_); refine wpList_buildTo rfl 34 #[(1, .tmp 18)] rfl (some 19) rfl (sgA ⟨0, 91, false, noS⟩) ?hf ?_; (case hf => (simp only [List.map_toArray, List.map_cons, List.map_nil]; exact sgRc _))) | ((with_reducible refine gate_store (t := 34) (p := 7) rfl ?_); refine wpList_store_rowTo rfl 34 (.tmp 7) (.tmp 19) rfl rfl wr.heap.size (sgA ⟨0, 91, false, noS⟩) rfl rfl 34 (sgA sgz) HX.out.blk (sgS _) (sgA_same _ _) (sgA_one _) ?_; have n0_ := Aside0.mk (SgBox.row HX.out (sgA ⟨0, 91, false, noS⟩)); clear HX; have HX := n0_; clear n0_; have hk0 := blk_cell HX.out.blk 0; have hf0 := blk_frozen HX.out.blk 0; have hk1 := blk_cell HX.out.blk 1; have hf1 := blk_frozen HX.out.blk 1; change _ = some (Value.int .i64 0) at hk0; change _ = some (Value.int .u8 (91)) at hk1) | (go_at_call 26; (with_reducible refine (hcl2 _).mono ?_); rintro e w2 ⟨hb, x, j, rfl⟩; have n0_ := Aside0.mk (SgBox.step HX.out hb); clear HX hb; have HX := n0_; clear n0_) | ((with_reducible refine gate_store (t := 34) (p := 8) rfl ?_); refine wpList_store_rowTo rfl 34 (.tmp 8) (.tmp 59) rfl rfl w2.heap.size (sgA x) rfl rfl 34 (sgA sgz) (blk_new w2 _) (sgS _) (sgA_same _ _) (sgA_one _) ?_))
                go_ret2
                exact SgsPost.none (below_step HX.out.below (below_setRow (below_alloc (Below.refl _ _) _) (Nat.le_refl _) _)) (HC.out.nocls hk hc h0)
              | some tr =>
                obtain ⟨t, r⟩ := tr
                have hcl2 : ∀ w, Calls Try.prog 26 #[.string a0, .int .i64 ((i : Int) + 1)] w (ClsPost a0 (some (t, r)) w) := fun w => by rw [← h0]; exact hcl w
                clear hcl
                go_wp2_with (first | ((with_reducible refine gate_dst (N := 19) rfl ?_); refine wpList_buildTo rfl 34 #[(1, .tmp 18)] rfl (some 19) rfl (sgA ⟨0, 91, false, noS⟩) ?hf ?_; (case hf => (simp only [List.map_toArray, List.map_cons, List.map_nil]; exact sgRc _))) | ((with_reducible refine gate_store (t := 34) (p := 7) rfl ?_); refine wpList_store_rowTo rfl 34 (.tmp 7) (.tmp 19) rfl rfl wr.heap.size (sgA ⟨0, 91, false, noS⟩) rfl rfl 34 (sgA sgz) HX.out.blk (sgS _) (sgA_same _ _) (sgA_one _) ?_; have n0_ := Aside0.mk (SgBox.row HX.out (sgA ⟨0, 91, false, noS⟩)); clear HX; have HX := n0_; clear n0_; have hk0 := blk_cell HX.out.blk 0; have hf0 := blk_frozen HX.out.blk 0; have hk1 := blk_cell HX.out.blk 1; have hf1 := blk_frozen HX.out.blk 1; change _ = some (Value.int .i64 0) at hk0; change _ = some (Value.int .u8 (91)) at hk1) | (go_at_call 26; (with_reducible refine (hcl2 _).mono ?_); rintro e w2 ⟨hb, j, hj, hle, rfl⟩; subst hj; have hjj := (HC.out.cls hk hc h0 hle).1; have HP := Aside0.mk (HC.out.cls hk hc h0 hle).2; have htt := cls0_code h0; rw [← htt.out] ; have n0_ := Aside0.mk (SgBox.step HX.out hb); clear HX hb; have HX := n0_; clear n0_) | ((with_reducible refine gate_store (t := 34) (p := 8) rfl ?_); refine wpList_store_rowTo rfl 34 (.tmp 8) (.tmp 59) rfl rfl w2.heap.size (sgA (refSg t)) rfl rfl 34 (sgA sgz) (blk_new w2 _) (sgS _) (sgA_same _ _) (sgA_one _) ?_; have KB := Aside0.mk (setRow_heap _ _ _ (sgA (refSg t)) _ _ (blk_new w2 (.cells (sgA sgz) 34))); have NB := Aside0.mk (show wr.heap.size ≠ w2.heap.size from Nat.ne_of_lt (blk_lt HX.out.blk)); have n0_ := Aside0.mk (SgBox.step HX.out (below_setRow (below_alloc (Below.refl _ _) (.cells (sgA sgz) 34)) (Nat.le_refl _) (sgA (refSg t)))); clear HX; have HX := n0_; clear n0_) | ((with_reducible refine gate_dst (N := 64) rfl ?_); refine wpList_load_row rfl 34 (.tmp 8) rfl w2.heap.size rfl 34 (sgA (refSg t)) (0, 0) _ KB.out hu1 rfl (sgS _) ?_) | ((with_reducible refine gate_store (t := 34) (p := 7) rfl ?_); refine wpList_store_rowTo rfl 34 (.tmp 7) (.tmp 64) rfl rfl wr.heap.size (sgA (refSg t)) rfl rfl 34 (sgA ⟨0, 91, false, noS⟩) HX.out.blk (sgS _) (sgA_same _ _) (sgA_one _) ?_; have n0_ := Aside0.mk (SgBox.row HX.out (sgA (refSg t))); clear HX; have HX := n0_; clear n0_) | ((with_reducible refine gate_dst (N := 67) rfl ?_); have HD := Aside0.mk HX.out.forget; refine wpList_load_row rfl 34 (.tmp 7) rfl wr.heap.size rfl 34 (sgA (refSg t)) (0, 0) _ HX.out.blk hu1 rfl (sgS _) ?_) | ((with_reducible refine gate_dst (N := 68) rfl ?_); refine wpList_oneSg rfl 29 34 (.tmp 67) rfl (some 68) rfl und sgInfo2 (refSg t) rfl ?_) | ((with_reducible refine gate_builtin (b := .append) (xs := #[.tmp 66, .tmp 68]) rfl ?_); at_builtin; refine sgApp (w0 := w) rfl (.tmp 66) (.tmp 68) 29 34 rfl (some 69) rfl und sgInfo2 u4 (l.map refSg) (refSg t) rfl rfl HD.out hln.out ?_; intro v1 w1 he_; have HE := Aside0.mk he_; clear he_ HD))
                go_roundw
                case rel => exact ⟨j, l ++ [t], by first | rfl | go_num, ⟨HP.out⟩, ⟨by rw [List.map_append]; exact HE.out⟩⟩
                case measure => simp [intOf]; omega
            · have n3 : ((bt a0 (i : Int)) == 91) = false := beq_eq_false_iff_ne.2 hc
              clear d9
              go_wp2_with (first | ((with_reducible refine gate_dst (N := 19) rfl ?_); refine wpList_buildTo rfl 34 #[(1, .tmp 18)] rfl (some 19) rfl (sgA ⟨0, bt a0 (i : Int), false, noS⟩) ?hf ?_; (case hf => (simp only [List.map_toArray, List.map_cons, List.map_nil]; exact sgRc _))) | ((with_reducible refine gate_store (t := 34) (p := 7) rfl ?_); refine wpList_store_rowTo rfl 34 (.tmp 7) (.tmp 19) rfl rfl wr.heap.size (sgA ⟨0, bt a0 (i : Int), false, noS⟩) rfl rfl 34 (sgA sgz) HX.out.blk (sgS _) (sgA_same _ _) (sgA_one _) ?_; have n0_ := Aside0.mk (SgBox.row HX.out (sgA ⟨0, bt a0 (i : Int), false, noS⟩)); clear HX; have HX := n0_; clear n0_; have hk0 := blk_cell HX.out.blk 0; have hf0 := blk_frozen HX.out.blk 0; have hk1 := blk_cell HX.out.blk 1; have hf1 := blk_frozen HX.out.blk 1; change _ = some (Value.int .i64 0) at hk0; change _ = some (Value.int .u8 (bt a0 (i : Int))) at hk1) | ((with_reducible refine gate_dst (N := 67) rfl ?_); have HD := Aside0.mk HX.out.forget; refine wpList_load_row rfl 34 (.tmp 7) rfl wr.heap.size rfl 34 (sgA ⟨0, bt a0 (i : Int), false, noS⟩) (0, 0) _ HX.out.blk hu1 rfl (sgS _) ?_) | ((with_reducible refine gate_dst (N := 68) rfl ?_); refine wpList_oneSg rfl 29 34 (.tmp 67) rfl (some 68) rfl und sgInfo2 ⟨0, bt a0 (i : Int), false, noS⟩ rfl ?_) | ((with_reducible refine gate_builtin (b := .append) (xs := #[.tmp 66, .tmp 68]) rfl ?_); at_builtin; refine sgApp (w0 := w) rfl (.tmp 66) (.tmp 68) 29 34 rfl (some 69) rfl und sgInfo2 u4 (l.map refSg) ⟨0, bt a0 (i : Int), false, noS⟩ rfl rfl HD.out hln.out ?_; intro v1 w1 he_; have HE := Aside0.mk he_; clear he_ HD))
              go_roundw
              case rel => exact ⟨i + 1, l ++ [Tok.lit (bt a0 (i : Int))], by first | rfl | go_num, ⟨HC.out.lit hk hc1 hc2 hc hc4⟩, ⟨by rw [List.map_append]; exact HE.out⟩⟩
              case measure => simp [intOf]; omega
    · have d0 : ((i : Int) < (a0.size : Int)) = False := eq_false (by omega)
      go_wp2
      go_ret2
      exact SgsPost.some HD.out (HC.out.done hk)
end Go.Proofs.Ytiigjnccoeadlaa.PA
