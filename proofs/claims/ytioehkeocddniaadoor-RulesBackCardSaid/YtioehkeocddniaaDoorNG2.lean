/- strings.Split at a separator of one byte, by its contract (the shelf's, laid in plain words at this program). -/
import Derived.Great.BuildSlice
import Derived.Laws.CopyOwn
import Derived.Test.YtioehkeocddniaaDoorNG1
import Derived.Laws.CopyRow
import Derived.Lib.SplitLaws
import Derived.Shelf.Strings.Search3
import Derived.Shelf.Small.Wraps
import Derived.Shelf.Strings.Split
namespace Go.Proofs.YtioehkeocddniaaDoor.PA
open Go.RowKit Go.Proofs.YtioehkeocddniaaDoorW.PrintWords Go.Proofs.YtioehkeocddniaaDoorW.PrintLast Go.Proofs.YtioehkeocddniaaDoorW.PrintMore
attribute [local go_sem] max2_int min2_int max_two min_two max_three min_three max_four min_four
set_option linter.unusedVariables false
set_option linter.unusedSimpArgs false
theorem sgRc (c : Int) : Tryd.prog.built 76 [(1, .int .u8 c)] = some (sgA ⟨0, c, false, noS⟩) := by kernel_rfl
theorem cls1_code {b : Bool} {l : List Int} {t : Tok} {r : List Int} (h : cls1 b l = some (t, r)) : Aside0 (codeSg t = refSg t) := by
 unfold cls1 at h
 cases l with
 | nil => simp at h
 | cons c l' =>
  dsimp only at h
  split at h
  ·simp at h
  ·cases hc : clsL ((c :: l').length + 1) (c :: l') noS with
   | none => rw [hc] at h; simp [clsEnd] at h
   | some p =>
    obtain ⟨q, s⟩ := p
    rw [hc] at h
    cases q with
    | nil => simp [clsEnd] at h
    | cons a q =>
     simp [clsEnd] at h
     rw [← h.1]
     exact ⟨rfl⟩
theorem cls0_code {l : List Int} {t : Tok} {r : List Int} (h : cls0 l = some (t, r)) : Aside0 (refSg t = codeSg t) := by
 have key : Aside0 (codeSg t = refSg t) := by
  unfold cls0 at h
  cases l with
  | nil => simp at h
  | cons c l' =>
   dsimp only at h
   split at h
   ·exact cls1_code h
   ·exact cls1_code h
 exact ⟨key.out.symm⟩
theorem star_kind {w : World} {g T : Nat} {p : Prop} [Decidable p] (h : w.heap[g]? = some (.cells (sgA (refSg (if p then Tok.star2 else Tok.star))) T (0, 0))) : w.cell? ⟨g, 0, none⟩ = some (.int .i64 (if p then 3 else 2)) := by
 rw [blk_cell h 0]
 by_cases hp : p
 ·rw [if_pos hp, if_pos hp]
  simp only [refSg, sgA, sgL, List.getElem?_toArray, List.getElem?_cons_zero]
 ·rw [if_neg hp, if_neg hp]
  simp only [refSg, sgA, sgL, List.getElem?_toArray, List.getElem?_cons_zero]
theorem star_eq (i m : Nat) : (if i + 1 < m + 1 then Tok.star2 else Tok.star) = (if i < m then Tok.star2 else Tok.star) := by
 by_cases h : i < m
 ·rw [if_pos h, if_pos (by omega)]
 ·rw [if_neg h, if_neg (by omega)]
theorem star_put (i m : Nat) (h : i ≤ m) : (sgA (refSg (if i < m then Tok.star2 else Tok.star))).setIfInBounds 0 (.int .i64 3) = sgA (refSg (if i < m + 1 then Tok.star2 else Tok.star)) := by
 rw [if_pos (show i < m + 1 by omega)]
 split <;> exact sg_kind _ _ _ _ _
set_option maxHeartbeats 8000000 in
set_option maxRecDepth 100000 in
theorem rsigns_call (a0 : ByteArray) (hs : a0.size < 1000000) (w : World) :
  Calls Tryd.prog 65 #[.string a0] w (SgsPost 76 refSg (parse (a0.size + 1) (gL a0)) w) := by
 have hu1 := Tryd.underlying76
 have und := Tryd.underlying72
 have sgS := sgSize2
 have ha := sgAlloc2
 go_enter Tryd.func65, Tryd.ntmps65
 go_wp2
 go_loopw [4, 5] (fun v4 v5 wr => ∃ (i : Nat) (l : List Tok), v5 = .int .i64 i ∧ Aside0 (PInv a0 i l) ∧ Aside0 (SgRow 76 w wr v4 (l.map refSg))) (fun _ v5 _ => a0.size - (intOf v5).toNat)
 case atStart => exact ⟨0, [], rfl, ⟨PInv.start a0⟩, ⟨SgRow.start _ w⟩⟩
 case round =>
  obtain ⟨i, l, rfl, HC, HD⟩ := hrel
  by_cases hk : i < a0.size
  ·have d0 : ((i : Int) < (a0.size : Int)) = True := eq_true (by omega)
   have d1 : ∀ h : i < a0.size, ((a0[i]'h).toNat : Int) = bt a0 (i : Int) := fun h => bt_at a0 i h
   have d9 : ∀ h : i + 1 < a0.size, ((a0[i + 1]'h).toNat : Int) = bt a0 ((i : Int) + 1) := fun h => bt_at a0 ((i + 1 : Nat) : Int) h
   have hln := Aside0.mk (HC.out.short hs refSg)
   have HX := Aside0.mk (SgBox.make HD.out)
   clear HD
   by_cases hc : (bt a0 (i : Int)) = 92
   ·have e0 : (bt a0 (i : Int)) = 92 := hc
    rw [e0] at d1
    by_cases hk2 : i + 1 < a0.size
    ·have q1 : ((a0.size : Int) ≤ (i : Int) + 1) = False := eq_false (by omega)
     go_wp2_with (first | ((with_reducible refine gate_dst (N := 19) rfl ?_); refine wpList_buildTo rfl 76 #[(1, .tmp 18)] rfl (some 19) rfl (sgA ⟨0, 92, false, noS⟩) ?hf ?_; (case hf => (simp only [List.map_toArray, List.map_cons, List.map_nil]; exact sgRc _))) | ((with_reducible refine gate_store (t := 76) (p := 7) rfl ?_); refine wpList_store_rowTo rfl 76 (.tmp 7) (.tmp 19) rfl rfl wr.heap.size (sgA ⟨0, 92, false, noS⟩) rfl rfl 76 (sgA sgz) HX.out.blk (sgS _) (sgA_same _ _) (sgA_one _) ?_; have n0_ := Aside0.mk (SgBox.row HX.out (sgA ⟨0, 92, false, noS⟩)); clear HX; have HX := n0_; clear n0_; have hk0 := blk_cell HX.out.blk 0; have hf0 := blk_frozen HX.out.blk 0; have hk1 := blk_cell HX.out.blk 1; have hf1 := blk_frozen HX.out.blk 1; change _ = some (Value.int .i64 0) at hk0; change _ = some (Value.int .u8 (92)) at hk1) | ((with_reducible refine gate_dst (N := 67) rfl ?_); have n0_ := Aside0.mk (SgBox.put HX.out 1 (.int .u8 (bt a0 ((i : Int) + 1))) (sgA ⟨0, bt a0 ((i : Int) + 1), false, noS⟩) (sg_c _ _ _ _ _)); clear HX; have HX := n0_; clear n0_; have HD := Aside0.mk HX.out.forget; refine wpList_load_row rfl 76 (.tmp 7) rfl wr.heap.size rfl 76 (sgA ⟨0, bt a0 ((i : Int) + 1), false, noS⟩) (0, 0) _ HX.out.blk hu1 rfl (sgS _) ?_) | ((with_reducible refine gate_dst (N := 68) rfl ?_); refine wpList_oneSg rfl 72 76 (.tmp 67) rfl (some 68) rfl und sgInfo2 ⟨0, bt a0 ((i : Int) + 1), false, noS⟩ rfl ?_) | ((with_reducible refine gate_builtin (b := .append) (xs := #[.tmp 66, .tmp 68]) rfl ?_); at_builtin; refine sgApp (w0 := w) rfl (.tmp 66) (.tmp 68) 72 76 rfl (some 69) rfl und sgInfo2 u4 (l.map refSg) ⟨0, bt a0 ((i : Int) + 1), false, noS⟩ rfl rfl HD.out hln.out ?_; intro v1 w1 he_; have HE := Aside0.mk he_; clear he_ HD))
     go_roundw
     case rel => exact ⟨i + 2, l ++ [Tok.lit (bt a0 ((i : Int) + 1))], by first | rfl | go_num, ⟨HC.out.esc hk hc hk2⟩, ⟨by rw [List.map_append]; exact HE.out⟩⟩
     case measure => simp [intOf]; omega
    ·have q1 : ((a0.size : Int) ≤ (i : Int) + 1) = True := eq_true (by omega)
     go_wp2_with (first | ((with_reducible refine gate_dst (N := 19) rfl ?_); refine wpList_buildTo rfl 76 #[(1, .tmp 18)] rfl (some 19) rfl (sgA ⟨0, 92, false, noS⟩) ?hf ?_; (case hf => (simp only [List.map_toArray, List.map_cons, List.map_nil]; exact sgRc _))) | ((with_reducible refine gate_store (t := 76) (p := 7) rfl ?_); refine wpList_store_rowTo rfl 76 (.tmp 7) (.tmp 19) rfl rfl wr.heap.size (sgA ⟨0, 92, false, noS⟩) rfl rfl 76 (sgA sgz) HX.out.blk (sgS _) (sgA_same _ _) (sgA_one _) ?_; have n0_ := Aside0.mk (SgBox.row HX.out (sgA ⟨0, 92, false, noS⟩)); clear HX; have HX := n0_; clear n0_; have hk0 := blk_cell HX.out.blk 0; have hf0 := blk_frozen HX.out.blk 0; have hk1 := blk_cell HX.out.blk 1; have hf1 := blk_frozen HX.out.blk 1; change _ = some (Value.int .i64 0) at hk0; change _ = some (Value.int .u8 (92)) at hk1))
     go_ret2
     exact SgsPost.none HX.out.below (HC.out.noesc hk hc hk2)
   ·have n4 : ((bt a0 (i : Int)) == 92) = false := beq_eq_false_iff_ne.2 hc
    have hc4 := hc
    clear hc
    by_cases hc : (bt a0 (i : Int)) = 63
    ·have e0 : (bt a0 (i : Int)) = 63 := hc
     rw [e0] at d1
     clear d9 n4
     go_wp2_with (first | ((with_reducible refine gate_dst (N := 19) rfl ?_); refine wpList_buildTo rfl 76 #[(1, .tmp 18)] rfl (some 19) rfl (sgA ⟨0, 63, false, noS⟩) ?hf ?_; (case hf => (simp only [List.map_toArray, List.map_cons, List.map_nil]; exact sgRc _))) | ((with_reducible refine gate_store (t := 76) (p := 7) rfl ?_); refine wpList_store_rowTo rfl 76 (.tmp 7) (.tmp 19) rfl rfl wr.heap.size (sgA ⟨0, 63, false, noS⟩) rfl rfl 76 (sgA sgz) HX.out.blk (sgS _) (sgA_same _ _) (sgA_one _) ?_; have n0_ := Aside0.mk (SgBox.row HX.out (sgA ⟨0, 63, false, noS⟩)); clear HX; have HX := n0_; clear n0_; have hk0 := blk_cell HX.out.blk 0; have hf0 := blk_frozen HX.out.blk 0; have hk1 := blk_cell HX.out.blk 1; have hf1 := blk_frozen HX.out.blk 1; change _ = some (Value.int .i64 0) at hk0; change _ = some (Value.int .u8 (63)) at hk1) | ((with_reducible refine gate_dst (N := 67) rfl ?_); have n0_ := Aside0.mk (SgBox.put HX.out 0 (.int .i64 1) (sgA ⟨1, 63, false, noS⟩) (sg_kind _ _ _ _ _)); clear HX; have HX := n0_; clear n0_; have HD := Aside0.mk HX.out.forget; refine wpList_load_row rfl 76 (.tmp 7) rfl wr.heap.size rfl 76 (sgA ⟨1, 63, false, noS⟩) (0, 0) _ HX.out.blk hu1 rfl (sgS _) ?_) | ((with_reducible refine gate_dst (N := 68) rfl ?_); refine wpList_oneSg rfl 72 76 (.tmp 67) rfl (some 68) rfl und sgInfo2 ⟨1, 63, false, noS⟩ rfl ?_) | ((with_reducible refine gate_builtin (b := .append) (xs := #[.tmp 66, .tmp 68]) rfl ?_); at_builtin; refine sgApp (w0 := w) rfl (.tmp 66) (.tmp 68) 72 76 rfl (some 69) rfl und sgInfo2 u4 (l.map refSg) ⟨1, 63, false, noS⟩ rfl rfl HD.out hln.out ?_; intro v1 w1 he_; have HE := Aside0.mk he_; clear he_ HD))
     go_roundw
     case rel => exact ⟨i + 1, l ++ [Tok.one], by first | rfl | go_num, ⟨HC.out.one hk hc⟩, ⟨by rw [List.map_append]; exact HE.out⟩⟩
     case measure => simp [intOf]; omega
    ·have n2 : ((bt a0 (i : Int)) == 63) = false := beq_eq_false_iff_ne.2 hc
     have hc2 := hc
     clear hc
     by_cases hc : (bt a0 (i : Int)) = 42
     ·have e0 : (bt a0 (i : Int)) = 42 := hc
      rw [e0] at d1
      clear d9 n2 n4
      go_wp2_with (first | ((with_reducible refine gate_dst (N := 19) rfl ?_); refine wpList_buildTo rfl 76 #[(1, .tmp 18)] rfl (some 19) rfl (sgA ⟨0, 42, false, noS⟩) ?hf ?_; (case hf => (simp only [List.map_toArray, List.map_cons, List.map_nil]; exact sgRc _))) | ((with_reducible refine gate_store (t := 76) (p := 7) rfl ?_); refine wpList_store_rowTo rfl 76 (.tmp 7) (.tmp 19) rfl rfl wr.heap.size (sgA ⟨0, 42, false, noS⟩) rfl rfl 76 (sgA sgz) HX.out.blk (sgS _) (sgA_same _ _) (sgA_one _) ?_; have n0_ := Aside0.mk (SgBox.row HX.out (sgA ⟨0, 42, false, noS⟩)); clear HX; have HX := n0_; clear n0_; have hk0 := blk_cell HX.out.blk 0; have hf0 := blk_frozen HX.out.blk 0; have hk1 := blk_cell HX.out.blk 1; have hf1 := blk_frozen HX.out.blk 1; change _ = some (Value.int .i64 0) at hk0; change _ = some (Value.int .u8 (42)) at hk1))
      have n0_ := Aside0.mk (SgBox.put HX.out 0 (.int .i64 2) (sgA ⟨2, 42, false, noS⟩) (sg_kind _ _ _ _ _))
      clear HX hk0 hk1 hf0 hf1
      have HX := n0_
      clear n0_
      obtain ⟨wo, rfl⟩ : ∃ wo : World, wo = wr := ⟨_, rfl⟩
      go_loopw [5] (fun v5 wi => ∃ m : Nat, v5 = .int .i64 ((m : Int) + 1) ∧ i ≤ m ∧ m < a0.size ∧ Aside0 (sk (dropL a0 (i + 1)) = sk (dropL a0 (m + 1))) ∧ Aside0 (SgBox 76 w wi u4 (l.map refSg) wo.heap.size (sgA (refSg (if i < m then Tok.star2 else Tok.star))))) (fun v5 _ => a0.size + 1 - (intOf v5).toNat)
      case atStart => exact ⟨i, rfl, Nat.le_refl _, hk, ⟨rfl⟩, ⟨by rw [if_neg (Nat.lt_irrefl _)]; exact HX.out⟩⟩
      case round =>
       clear HX
       obtain ⟨m, rfl, hm1, hm2, HS, HX⟩ := hrel
       have g1 : ∀ h : m + 1 < a0.size, ((a0[m + 1]'h).toNat : Int) = bt a0 ((m : Int) + 1) := fun h => bt_at a0 ((m + 1 : Nat) : Int) h
       by_cases hm3 : m + 1 < a0.size ∧ bt a0 ((m : Int) + 1) = 42
       ·obtain ⟨q1, q2⟩ := hm3
        have q3 : (((m : Int) + 1) < (a0.size : Int)) = True := eq_true (by omega)
        have HS2 := Aside0.mk (HS.out.trans (sk_hit a0 (m + 1) q1 q2))
        rw [q2] at g1
        obtain ⟨kv, hk0⟩ : ∃ kv, wr.cell? ⟨wo.heap.size, 0, none⟩ = some kv := ⟨_, star_kind HX.out.blk⟩
        have hf0 := blk_frozen HX.out.blk 0
        go_wp2
        have n0_ := Aside0.mk (SgBox.put HX.out 0 (.int .i64 3) (sgA (refSg (if i < m + 1 then Tok.star2 else Tok.star))) (star_put i m hm1))
        go_roundw
        case rel => exact ⟨m + 1, by go_num, by omega, by omega, HS2, ⟨n0_.out⟩⟩
        case measure => simp [intOf]; omega
       ·have HS2 := Aside0.mk (HS.out.trans (sk_stop a0 (m + 1) hm3))
        have q0 : (m + 1 < a0.size ∧ (((m : Int) + 1) < (a0.size : Int)) = True ∧ (bt a0 ((m : Int) + 1) == 42) = false) ∨ (((m : Int) + 1) < (a0.size : Int)) = False := by
         by_cases h : m + 1 < a0.size
         ·exact .inl ⟨h, eq_true (by omega), beq_eq_false_iff_ne.2 (fun h2 => hm3 ⟨h, h2⟩)⟩
         ·exact .inr (eq_false (by omega))
        have HP := Aside0.mk (HC.out.star hk hc HS2.out (by omega) hm2)
        rw [star_eq] at HP
        clear hm3 HS HS2
        obtain ⟨X, hX⟩ : ∃ X, X = (if i < m then Tok.star2 else Tok.star) := ⟨_, rfl⟩
        rw [← hX] at HX HP
        clear hX
        rcases q0 with ⟨q1, q2, q3⟩ | q2
        all_goals
         go_wp2_with (first | ((with_reducible refine gate_dst (N := 67) rfl ?_); have HD := Aside0.mk HX.out.forget; refine wpList_load_row rfl 76 (.tmp 7) rfl wo.heap.size rfl 76 (sgA (refSg X)) (0, 0) _ HX.out.blk hu1 rfl (sgS _) ?_) | ((with_reducible refine gate_dst (N := 68) rfl ?_); refine wpList_oneSg rfl 72 76 (.tmp 67) rfl (some 68) rfl und sgInfo2 (refSg X) rfl ?_) | ((with_reducible refine gate_builtin (b := .append) (xs := #[.tmp 66, .tmp 68]) rfl ?_); at_builtin; refine sgApp (w0 := w) rfl (.tmp 66) (.tmp 68) 72 76 rfl (some 69) rfl und sgInfo2 u4 (l.map refSg) (refSg X) rfl rfl HD.out hln.out ?_; intro v1 w1 he_; have HE := Aside0.mk he_; clear he_ HD))
         go_roundw
         case rel => exact ⟨m + 1, l ++ [X], by first | rfl | go_num, ⟨HP.out⟩, ⟨by rw [List.map_append]; exact HE.out⟩⟩
         case measure => simp [intOf]; omega
     ·have n1 : ((bt a0 (i : Int)) == 42) = false := beq_eq_false_iff_ne.2 hc
      have hc1 := hc
      clear hc
      by_cases hc : (bt a0 (i : Int)) = 91
      ·have e0 : (bt a0 (i : Int)) = 91 := hc
       rw [e0] at d1
       clear d9 n1 n2 n4
       have hcl : ∀ w, Calls Tryd.prog 77 #[.string a0, .int .i64 ((i : Int) + 1)] w (ClsPost a0 (cls0 (dropL a0 (i + 1))) w) := fun w => class_call a0 (i + 1) hs hk w
       cases h0 : cls0 (dropL a0 (i + 1)) with
       | none =>
        have hcl2 : ∀ w, Calls Tryd.prog 77 #[.string a0, .int .i64 ((i : Int) + 1)] w (ClsPost a0 none w) := fun w => by rw [← h0]; exact hcl w
        clear hcl
        go_wp2_with (first | ((with_reducible refine gate_dst (N := 19) rfl ?_); refine wpList_buildTo rfl 76 #[(1, .tmp 18)] rfl (some 19) rfl (sgA ⟨0, 91, false, noS⟩) ?hf ?_; (case hf => (simp only [List.map_toArray, List.map_cons, List.map_nil]; exact sgRc _))) | ((with_reducible refine gate_store (t := 76) (p := 7) rfl ?_); refine wpList_store_rowTo rfl 76 (.tmp 7) (.tmp 19) rfl rfl wr.heap.size (sgA ⟨0, 91, false, noS⟩) rfl rfl 76 (sgA sgz) HX.out.blk (sgS _) (sgA_same _ _) (sgA_one _) ?_; have n0_ := Aside0.mk (SgBox.row HX.out (sgA ⟨0, 91, false, noS⟩)); clear HX; have HX := n0_; clear n0_; have hk0 := blk_cell HX.out.blk 0; have hf0 := blk_frozen HX.out.blk 0; have hk1 := blk_cell HX.out.blk 1; have hf1 := blk_frozen HX.out.blk 1; change _ = some (Value.int .i64 0) at hk0; change _ = some (Value.int .u8 (91)) at hk1) | (go_at_call 77; (with_reducible refine (hcl2 _).mono ?_); rintro e w2 ⟨hb, x, j, rfl⟩; have n0_ := Aside0.mk (SgBox.step HX.out hb); clear HX hb; have HX := n0_; clear n0_) | ((with_reducible refine gate_store (t := 76) (p := 8) rfl ?_); refine wpList_store_rowTo rfl 76 (.tmp 8) (.tmp 59) rfl rfl w2.heap.size (sgA x) rfl rfl 76 (sgA sgz) (blk_new w2 _) (sgS _) (sgA_same _ _) (sgA_one _) ?_))
        go_ret2
        exact SgsPost.none (below_step HX.out.below (below_setRow (below_alloc (Below.refl _ _) _) (Nat.le_refl _) _)) (HC.out.nocls hk hc h0)
       | some tr =>
        obtain ⟨t, r⟩ := tr
        have hcl2 : ∀ w, Calls Tryd.prog 77 #[.string a0, .int .i64 ((i : Int) + 1)] w (ClsPost a0 (some (t, r)) w) := fun w => by rw [← h0]; exact hcl w
        clear hcl
        go_wp2_with (first | ((with_reducible refine gate_dst (N := 19) rfl ?_); refine wpList_buildTo rfl 76 #[(1, .tmp 18)] rfl (some 19) rfl (sgA ⟨0, 91, false, noS⟩) ?hf ?_; (case hf => (simp only [List.map_toArray, List.map_cons, List.map_nil]; exact sgRc _))) | ((with_reducible refine gate_store (t := 76) (p := 7) rfl ?_); refine wpList_store_rowTo rfl 76 (.tmp 7) (.tmp 19) rfl rfl wr.heap.size (sgA ⟨0, 91, false, noS⟩) rfl rfl 76 (sgA sgz) HX.out.blk (sgS _) (sgA_same _ _) (sgA_one _) ?_; have n0_ := Aside0.mk (SgBox.row HX.out (sgA ⟨0, 91, false, noS⟩)); clear HX; have HX := n0_; clear n0_; have hk0 := blk_cell HX.out.blk 0; have hf0 := blk_frozen HX.out.blk 0; have hk1 := blk_cell HX.out.blk 1; have hf1 := blk_frozen HX.out.blk 1; change _ = some (Value.int .i64 0) at hk0; change _ = some (Value.int .u8 (91)) at hk1) | (go_at_call 77; (with_reducible refine (hcl2 _).mono ?_); rintro e w2 ⟨hb, j, hj, hle, rfl⟩; subst hj; have hjj := (HC.out.cls hk hc h0 hle).1; have HP := Aside0.mk (HC.out.cls hk hc h0 hle).2; have htt := cls0_code h0; rw [← htt.out] ; have n0_ := Aside0.mk (SgBox.step HX.out hb); clear HX hb; have HX := n0_; clear n0_) | ((with_reducible refine gate_store (t := 76) (p := 8) rfl ?_); refine wpList_store_rowTo rfl 76 (.tmp 8) (.tmp 59) rfl rfl w2.heap.size (sgA (refSg t)) rfl rfl 76 (sgA sgz) (blk_new w2 _) (sgS _) (sgA_same _ _) (sgA_one _) ?_; have KB := Aside0.mk (setRow_heap _ _ _ (sgA (refSg t)) _ _ (blk_new w2 (.cells (sgA sgz) 76))); have NB := Aside0.mk (show wr.heap.size ≠ w2.heap.size from Nat.ne_of_lt (blk_lt HX.out.blk)); have n0_ := Aside0.mk (SgBox.step HX.out (below_setRow (below_alloc (Below.refl _ _) (.cells (sgA sgz) 76)) (Nat.le_refl _) (sgA (refSg t)))); clear HX; have HX := n0_; clear n0_) | ((with_reducible refine gate_dst (N := 64) rfl ?_); refine wpList_load_row rfl 76 (.tmp 8) rfl w2.heap.size rfl 76 (sgA (refSg t)) (0, 0) _ KB.out hu1 rfl (sgS _) ?_) | ((with_reducible refine gate_store (t := 76) (p := 7) rfl ?_); refine wpList_store_rowTo rfl 76 (.tmp 7) (.tmp 64) rfl rfl wr.heap.size (sgA (refSg t)) rfl rfl 76 (sgA ⟨0, 91, false, noS⟩) HX.out.blk (sgS _) (sgA_same _ _) (sgA_one _) ?_; have n0_ := Aside0.mk (SgBox.row HX.out (sgA (refSg t))); clear HX; have HX := n0_; clear n0_) | ((with_reducible refine gate_dst (N := 67) rfl ?_); have HD := Aside0.mk HX.out.forget; refine wpList_load_row rfl 76 (.tmp 7) rfl wr.heap.size rfl 76 (sgA (refSg t)) (0, 0) _ HX.out.blk hu1 rfl (sgS _) ?_) | ((with_reducible refine gate_dst (N := 68) rfl ?_); refine wpList_oneSg rfl 72 76 (.tmp 67) rfl (some 68) rfl und sgInfo2 (refSg t) rfl ?_) | ((with_reducible refine gate_builtin (b := .append) (xs := #[.tmp 66, .tmp 68]) rfl ?_); at_builtin; refine sgApp (w0 := w) rfl (.tmp 66) (.tmp 68) 72 76 rfl (some 69) rfl und sgInfo2 u4 (l.map refSg) (refSg t) rfl rfl HD.out hln.out ?_; intro v1 w1 he_; have HE := Aside0.mk he_; clear he_ HD))
        go_roundw
        case rel => exact ⟨j, l ++ [t], by first | rfl | go_num, ⟨HP.out⟩, ⟨by rw [List.map_append]; exact HE.out⟩⟩
        case measure => simp [intOf]; omega
      ·have n3 : ((bt a0 (i : Int)) == 91) = false := beq_eq_false_iff_ne.2 hc
       clear d9
       go_wp2_with (first | ((with_reducible refine gate_dst (N := 19) rfl ?_); refine wpList_buildTo rfl 76 #[(1, .tmp 18)] rfl (some 19) rfl (sgA ⟨0, bt a0 (i : Int), false, noS⟩) ?hf ?_; (case hf => (simp only [List.map_toArray, List.map_cons, List.map_nil]; exact sgRc _))) | ((with_reducible refine gate_store (t := 76) (p := 7) rfl ?_); refine wpList_store_rowTo rfl 76 (.tmp 7) (.tmp 19) rfl rfl wr.heap.size (sgA ⟨0, bt a0 (i : Int), false, noS⟩) rfl rfl 76 (sgA sgz) HX.out.blk (sgS _) (sgA_same _ _) (sgA_one _) ?_; have n0_ := Aside0.mk (SgBox.row HX.out (sgA ⟨0, bt a0 (i : Int), false, noS⟩)); clear HX; have HX := n0_; clear n0_; have hk0 := blk_cell HX.out.blk 0; have hf0 := blk_frozen HX.out.blk 0; have hk1 := blk_cell HX.out.blk 1; have hf1 := blk_frozen HX.out.blk 1; change _ = some (Value.int .i64 0) at hk0; change _ = some (Value.int .u8 (bt a0 (i : Int))) at hk1) | ((with_reducible refine gate_dst (N := 67) rfl ?_); have HD := Aside0.mk HX.out.forget; refine wpList_load_row rfl 76 (.tmp 7) rfl wr.heap.size rfl 76 (sgA ⟨0, bt a0 (i : Int), false, noS⟩) (0, 0) _ HX.out.blk hu1 rfl (sgS _) ?_) | ((with_reducible refine gate_dst (N := 68) rfl ?_); refine wpList_oneSg rfl 72 76 (.tmp 67) rfl (some 68) rfl und sgInfo2 ⟨0, bt a0 (i : Int), false, noS⟩ rfl ?_) | ((with_reducible refine gate_builtin (b := .append) (xs := #[.tmp 66, .tmp 68]) rfl ?_); at_builtin; refine sgApp (w0 := w) rfl (.tmp 66) (.tmp 68) 72 76 rfl (some 69) rfl und sgInfo2 u4 (l.map refSg) ⟨0, bt a0 (i : Int), false, noS⟩ rfl rfl HD.out hln.out ?_; intro v1 w1 he_; have HE := Aside0.mk he_; clear he_ HD))
       go_roundw
       case rel => exact ⟨i + 1, l ++ [Tok.lit (bt a0 (i : Int))], by first | rfl | go_num, ⟨HC.out.lit hk hc1 hc2 hc hc4⟩, ⟨by rw [List.map_append]; exact HE.out⟩⟩
       case measure => simp [intOf]; omega
  ·have d0 : ((i : Int) < (a0.size : Int)) = False := eq_false (by omega)
   go_wp2
   go_ret2
   exact SgsPost.some HD.out (HC.out.done hk)
end Go.Proofs.YtioehkeocddniaaDoor.PA
namespace Go.Proofs.YtioehkeocddniaaDoor.PA
open Go.RowKit Go.Proofs.YtioehkeocddniaaDoorW.PrintWords Go.Proofs.YtioehkeocddniaaDoorW.PrintLast Go.Proofs.YtioehkeocddniaaDoorW.PrintMore
attribute [local go_sem] max2_int min2_int max_two min_two max_three min_three max_four min_four
set_option linter.unusedVariables false
set_option linter.unusedSimpArgs false
def chkP : Option (List Tok) → Int
 | none => 5
 | some _ => 0
def chkO (s : ByteArray) : Int := if 100 < s.size then 7 else chkP (parse (s.size + 1) (gL s))
def glob_Check.f (a0 : ByteArray) : Option Int := some (chkO a0)
theorem glob_Check.calls (a0 : ByteArray) (r : Int) (w : World) (h : glob_Check.f a0 = some r) : Calls Tryd.prog 59 #[.string a0] w fun e w' => e = .returned (.int .i64 r) ∧ Below w.heap.size w w' := by
 ·obtain rfl := Option.some.inj h
  clear h
  by_cases h100 : a0.size ≤ 100
  ·have hsc := signs_call a0 (by omega)
   rw [if_pos h100] at hsc
   have HE : Aside0 (chkO a0 = chkP (parse (a0.size + 1) (gL a0))) := ⟨by unfold chkO; rw [if_neg (by omega)]⟩
   have c1 : ((100 : Int) < (a0.size : Int)) = False := eq_false (by omega)
   have c2 : (100 < a0.size) = False := eq_false (by omega)
   cases hp : parse (a0.size + 1) (gL a0) with
   | none =>
    rw [hp] at hsc HE
    clear hp
    go_enter Tryd.func59, Tryd.ntmps59
    go_wp2_with (go_at_call 51; (with_reducible refine (hsc _).mono ?_); rintro e w1 ⟨hb, rfl⟩)
    go_ret
    exact ⟨by rw [HE.out]; rfl, hb⟩
   | some l =>
    rw [hp] at hsc HE
    clear hp
    go_enter Tryd.func59, Tryd.ntmps59
    go_wp2_with (go_at_call 51; (with_reducible refine (hsc _).mono ?_); rintro e w1 ⟨hb, v, rfl, hR⟩)
    go_ret
    exact ⟨by rw [HE.out]; rfl, hb⟩
  ·have HE : Aside0 (chkO a0 = 7) := ⟨by unfold chkO; rw [if_pos (by omega)]⟩
   have c1 : ((100 : Int) < (a0.size : Int)) = True := eq_true (by omega)
   have c2 : (100 < a0.size) = True := eq_true (by omega)
   go_enter Tryd.func59, Tryd.ntmps59
   go_wp2
   go_ret
   exact ⟨by rw [HE.out]; rfl, Below.refl _ _⟩
end Go.Proofs.YtioehkeocddniaaDoor.PA
namespace Go.Proofs.YtioehkeocddniaaDoor.PA
open Go.RowKit Go.Proofs.YtioehkeocddniaaDoorW.PrintWords Go.Proofs.YtioehkeocddniaaDoorW.PrintLast Go.Proofs.YtioehkeocddniaaDoorW.PrintMore
attribute [local go_sem] max2_int min2_int max_two min_two max_three min_three max_four min_four
set_option linter.unusedVariables false
set_option linter.unusedSimpArgs false
def remoraref14_Check.f (a0 : ByteArray) : Option Int := if a0.size < 1000000 then some (chkO a0) else none
theorem remoraref14_Check.calls (a0 : ByteArray) (r : Int) (w : World) (h : remoraref14_Check.f a0 = some r) : Calls Tryd.prog 60 #[.string a0] w fun e w' => e = .returned (.int .i64 r) ∧ Below w.heap.size w w' := by
 unfold remoraref14_Check.f at h
 split at h
 ·rename_i hs
  obtain rfl := Option.some.inj h
  clear h
  have hsc := rsigns_call a0 hs
  by_cases h100 : a0.size ≤ 100
  ·have HE : Aside0 (chkO a0 = chkP (parse (a0.size + 1) (gL a0))) := ⟨by unfold chkO; rw [if_neg (by omega)]⟩
   have c1 : ((100 : Int) < (a0.size : Int)) = False := eq_false (by omega)
   have c2 : (100 < a0.size) = False := eq_false (by omega)
   cases hp : parse (a0.size + 1) (gL a0) with
   | none =>
    rw [hp] at hsc HE
    clear hp
    go_enter Tryd.func60, Tryd.ntmps60
    go_wp2_with (go_at_call 65; (with_reducible refine (hsc _).mono ?_); rintro e w1 ⟨hb, rfl⟩)
    go_ret
    exact ⟨by rw [HE.out]; rfl, hb⟩
   | some l =>
    rw [hp] at hsc HE
    clear hp
    go_enter Tryd.func60, Tryd.ntmps60
    go_wp2_with (go_at_call 65; (with_reducible refine (hsc _).mono ?_); rintro e w1 ⟨hb, v, rfl, hR⟩)
    go_ret
    exact ⟨by rw [HE.out]; rfl, hb⟩
  ·have HE : Aside0 (chkO a0 = 7) := ⟨by unfold chkO; rw [if_pos (by omega)]⟩
   have c1 : ((100 : Int) < (a0.size : Int)) = True := eq_true (by omega)
   have c2 : (100 < a0.size) = True := eq_true (by omega)
   clear hsc
   go_enter Tryd.func60, Tryd.ntmps60
   go_wp2
   go_ret
   exact ⟨by rw [HE.out]; rfl, Below.refl _ _⟩
 ·cases h
end Go.Proofs.YtioehkeocddniaaDoor.PA
namespace Go.Proofs.YtioehkeocddniaaDoor.PA
open Go.RowKit Go.Proofs.YtioehkeocddniaaDoorW.PrintWords Go.Proofs.YtioehkeocddniaaDoorW.PrintLast Go.Proofs.YtioehkeocddniaaDoorW.PrintMore
attribute [local go_sem] max2_int min2_int max_two min_two max_three min_three max_four min_four   -- for this text's walks alone
set_option linter.unusedVariables false
set_option linter.unusedSimpArgs false
mutual
def remoraref15_one.j0 : Nat → Bool → Int → ByteArray → Bool → Bool → Option (Int)
 | 0, _, _, _, _, _ => none
 | k + 1, x12, x102000, x102001, x102002, x102003 => if x12 = true then (some 2) else (if (x102001.size : Int) = 0 then (remoraref15_one.j1 k (x102001.size : Int) true x102000 x102001 x102002 x102003) else (if 0 < (x102001.size : Int) then (if (bt x102001 0) = 47 then (remoraref15_one.j1 k (x102001.size : Int) true x102000 x102001 x102002 x102003) else (if 0 ≤ (wrap64 ((x102001.size : Int) - 1)) then (if (wrap64 ((x102001.size : Int) - 1)) < (x102001.size : Int) then (remoraref15_one.j1 k (x102001.size : Int) ((bt x102001 (wrap64 ((x102001.size : Int) - 1))) == 47) x102000 x102001 x102002 x102003) else (none)) else (none))) else (none)))
def remoraref15_one.j1 : Nat → Int → Bool → Int → ByteArray → Bool → Bool → Option (Int)
 | 0, _, _, _, _, _, _ => none
 | k + 1, x3, x31, x102000, x102001, x102002, x102003 => if x31 = true then (some 5) else (remoraref15_one.l0 k x3 0 x102000 x102001 x102002 x102003)
def remoraref15_one.l0 : Nat → Int → Int → Int → ByteArray → Bool → Bool → Option (Int)
 | 0, _, _, _, _, _, _ => none
 | k + 1, x3, x4, x102000, x102001, x102002, x102003 => if x4 < x3 then (if 0 ≤ x4 then (if x4 < (x102001.size : Int) then (if (bt x102001 x4) = 10 then (some 5) else (remoraref15_one.l0 k x3 (wrap64 (x4 + 1)) x102000 x102001 x102002 x102003)) else (none)) else (none)) else ((remoraref14_Check.f x102001).bind fun t102 => (some t102))
end
def remoraref15_one.f (k : Nat) (a0_0 : Int) (a0_1 : ByteArray) (a0_2 : Bool) (a0_3 : Bool) : Option (Int) := if a0_0 < 1 then (remoraref15_one.j0 k true a0_0 a0_1 a0_2 a0_3) else (remoraref15_one.j0 k (decide (a0_0 > 4)) a0_0 a0_1 a0_2 a0_3)
set_option maxHeartbeats 8000000 in
set_option maxRecDepth 100000 in
theorem remoraref15_one.calls (k : Nat) (a0_0 : Int) (a0_1 : ByteArray) (a0_2 : Bool) (a0_3 : Bool) (r : Int) (w : World) (h : remoraref15_one.f k a0_0 a0_1 a0_2 a0_3 = some r) :
  Calls Tryd.prog 40 #[.agg #[.int .i64 a0_0, .string a0_1, .bool a0_2, .bool a0_3]] w fun e w' => e = .returned (.int .i64 r) ∧ Below w.heap.size w w' := by
 have hu24 := Tryd.underlying24
 have HB := Aside0.mk (Below.refl w.heap.size w)
 have H : (if a0_0 < 1 then (remoraref15_one.j0 k true a0_0 a0_1 a0_2 a0_3) else (remoraref15_one.j0 k (decide (a0_0 > 4)) a0_0 a0_1 a0_2 a0_3)) = some r := h
 clear h
 have HC2 := Aside0.mk H
 clear H
 go_enter Tryd.func40, Tryd.ntmps40
 go_upto_region 1 with (first | ((with_reducible refine gate_dst (N := 1) rfl ?_); refine box_event ?hg (N := 1) ?hd (cs := #[.int .i64 a0_0, .string a0_1, .bool a0_2, .bool a0_3]) (t := 24) ?hr ?_; (case hd => rfl); (case hg => rfl); (case hr => first | (go_simp; done) | (go_simp; rfl)); intro gb101 hg w3 hbox hb; have n0_ := Aside0.mk (below_step (by repeat (first | (with_reducible first | exact HB.out | apply below_alloc | apply pw_below_drewN | apply below_drew1) | exact HB.out)) hb); have n1_ := Aside0.mk (hbox); have n2_ := Aside0.mk ((by rw [hg]; exact (below_size (by repeat (first | (with_reducible first | exact HB.out | apply below_alloc | apply pw_below_drewN | apply below_drew1) | exact HB.out))) : w.heap.size ≤ gb101)); have n3_ := Aside0.mk ((by rw [hg]; exact (below_size (by repeat (first | (with_reducible first | exact HB.out | apply below_alloc | apply pw_below_drewN | apply below_drew1) | exact HB.out))) : w.heap.size ≤ gb101)); clear HB; have HB := n0_; have BK101 := n1_; have GW101 := n2_; have GE101 := n3_; clear n0_ n1_ n2_ n3_; clear hb hbox hg))
 (try simp only [Act.put, List.setIfInBounds_toArray, List.set_cons_zero, List.set_cons_succ])
 go_cut [12] (fun v12 wc => ∃ (kq : Nat) (x12_1 : Bool), v12 = .bool x12_1 ∧ Aside0 (remoraref15_one.j0 kq x12_1 a0_0 a0_1 a0_2 a0_3 = some r) ∧ Aside0 (kq ≤ k) ∧ Aside0 (wc.heap[gb101]? = some (.cells #[.int .i64 a0_0, .string a0_1, .bool a0_2, .bool a0_3] 24 (0, 0))) ∧ Aside0 (Below w.heap.size w wc))
 case first =>
  have H := HC2.out
  clear HC2
  by_cases c4 : a0_0 < 1
  ·rw [if_pos c4] at H
   have c4b0 : decide (a0_0 < 1) = true := decide_eq_true c4
   clear c4
   (first | rw [c4b0] | (simp only [i64_w, i32_w]; rw [c4b0]) | skip)
   have H' := Aside0.mk H
   clear H
   have hcz5_0 : w3.cell? ⟨gb101, 0, none⟩ = some (.int .i64 a0_0) := (blk_cell BK101.out 0).trans rfl
   have hcz5_1 : w3.cell? ⟨gb101, 1, none⟩ = some (.string a0_1) := (blk_cell BK101.out 1).trans rfl
   have hcz5_2 : w3.cell? ⟨gb101, 2, none⟩ = some (.bool a0_2) := (blk_cell BK101.out 2).trans rfl
   have hcz5_3 : w3.cell? ⟨gb101, 3, none⟩ = some (.bool a0_3) := (blk_cell BK101.out 3).trans rfl
   have hfz5_0 := blk_frozen BK101.out 0
   have hfz5_1 := blk_frozen BK101.out 1
   have hfz5_2 := blk_frozen BK101.out 2
   have hfz5_3 := blk_frozen BK101.out 3
   go_wp2
   go_meet
   case rel => exact ⟨_, (true), (by first | rfl | (simp; done) | (simp [*]; done)), H', ⟨by first | omega | exact Nat.le_refl _⟩, ⟨by (with_reducible repeat (first | refine blk_drewN ?_ _ | refine blk_drew ?_ | refine blk_alloc ?_ _)); exact BK101.out⟩, ⟨by repeat (first | (with_reducible first | exact HB.out | apply below_alloc | apply pw_below_drewN | apply below_drew1 | refine below_set ?_ GE101.out) | exact HB.out)⟩⟩
  ·rw [if_neg c4] at H
   have c4b0 : decide (a0_0 < 1) = false := decide_eq_false c4
   clear c4
   (first | rw [c4b0] | (simp only [i64_w, i32_w]; rw [c4b0]) | skip)
   have H' := Aside0.mk H
   clear H
   have hcz6_0 : w3.cell? ⟨gb101, 0, none⟩ = some (.int .i64 a0_0) := (blk_cell BK101.out 0).trans rfl
   have hcz6_1 : w3.cell? ⟨gb101, 1, none⟩ = some (.string a0_1) := (blk_cell BK101.out 1).trans rfl
   have hcz6_2 : w3.cell? ⟨gb101, 2, none⟩ = some (.bool a0_2) := (blk_cell BK101.out 2).trans rfl
   have hcz6_3 : w3.cell? ⟨gb101, 3, none⟩ = some (.bool a0_3) := (blk_cell BK101.out 3).trans rfl
   have hfz6_0 := blk_frozen BK101.out 0
   have hfz6_1 := blk_frozen BK101.out 1
   have hfz6_2 := blk_frozen BK101.out 2
   have hfz6_3 := blk_frozen BK101.out 3
   go_wp2
   go_meet
   case rel => exact ⟨_, (decide (a0_0 > 4)), (by first | rfl | (simp; done) | (simp [*]; done)), H', ⟨by first | omega | exact Nat.le_refl _⟩, ⟨by (with_reducible repeat (first | refine blk_drewN ?_ _ | refine blk_drew ?_ | refine blk_alloc ?_ _)); exact BK101.out⟩, ⟨by repeat (first | (with_reducible first | exact HB.out | apply below_alloc | apply pw_below_drewN | apply below_drew1 | refine below_set ?_ GE101.out) | exact HB.out)⟩⟩
 case rest =>
  clear HC2
  try clear p2
  try clear c4
  try clear c4b0
  try clear hcz5_0
  try clear hcz5_1
  try clear hcz5_2
  try clear hcz5_3
  try clear hcz6_0
  try clear hcz6_1
  try clear hcz6_2
  try clear hcz6_3
  try clear hfz5_0
  try clear hfz5_1
  try clear hfz5_2
  try clear hfz5_3
  try clear hfz6_0
  try clear hfz6_1
  try clear hfz6_2
  try clear hfz6_3
  obtain ⟨kq, x12_1, rfl, HA, HJ1, BK101, HB⟩ := hcut
  cases kq with
  | zero => exact absurd HA.out (by simp [remoraref15_one.j0])
  | succ kj1 =>
   have H := HA.out
   clear HA
   simp only [remoraref15_one.j0] at H
   by_cases c7 : x12_1 = true
   ·subst c7
    have H1 : (some 2) = some r := by rw [if_pos rfl] at H; exact H
    clear H
    have H := H1
    clear H1
    obtain rfl := Option.some.inj H
    go_wp2
    go_ret
    exact ⟨by first | rfl | (simp [errW_none, errW_some] <;> rfl) | (simp [*, errW_none, errW_some] <;> rfl), by repeat (first | (with_reducible first | exact HB.out | apply below_alloc | apply pw_below_drewN | apply below_drew1 | refine below_set ?_ GE101.out) | exact HB.out)⟩
   ·replace c7 := Bool.eq_false_iff.mpr c7
    subst c7
    have H1 : (if (a0_1.size : Int) = 0 then (remoraref15_one.j1 kj1 (a0_1.size : Int) true a0_0 a0_1 a0_2 a0_3) else (if 0 < (a0_1.size : Int) then (if (bt a0_1 0) = 47 then (remoraref15_one.j1 kj1 (a0_1.size : Int) true a0_0 a0_1 a0_2 a0_3) else (if 0 ≤ (wrap64 ((a0_1.size : Int) - 1)) then (if (wrap64 ((a0_1.size : Int) - 1)) < (a0_1.size : Int) then (remoraref15_one.j1 kj1 (a0_1.size : Int) ((bt a0_1 (wrap64 ((a0_1.size : Int) - 1))) == 47) a0_0 a0_1 a0_2 a0_3) else (none)) else (none))) else (none))) = some r := by rw [if_neg (show ¬ (false = true) by decide)] at H; exact H
    clear H
    have H := H1
    clear H1
    have HC8 := Aside0.mk H
    clear H
    have hcz9_0 : wc.cell? ⟨gb101, 0, none⟩ = some (.int .i64 a0_0) := (blk_cell BK101.out 0).trans rfl
    have hcz9_1 : wc.cell? ⟨gb101, 1, none⟩ = some (.string a0_1) := (blk_cell BK101.out 1).trans rfl
    have hcz9_2 : wc.cell? ⟨gb101, 2, none⟩ = some (.bool a0_2) := (blk_cell BK101.out 2).trans rfl
    have hcz9_3 : wc.cell? ⟨gb101, 3, none⟩ = some (.bool a0_3) := (blk_cell BK101.out 3).trans rfl
    have hfz9_0 := blk_frozen BK101.out 0
    have hfz9_1 := blk_frozen BK101.out 1
    have hfz9_2 := blk_frozen BK101.out 2
    have hfz9_3 := blk_frozen BK101.out 3
    go_upto_region 4 with (fail)
    go_cut [31] (fun v31 wc => ∃ (kq : Nat) (x31_7 : Bool), v31 = .bool x31_7 ∧ Aside0 (remoraref15_one.j1 kq (a0_1.size : Int) x31_7 a0_0 a0_1 a0_2 a0_3 = some r) ∧ Aside0 (kq ≤ kj1) ∧ Aside0 (wc.heap[gb101]? = some (.cells #[.int .i64 a0_0, .string a0_1, .bool a0_2, .bool a0_3] 24 (0, 0))) ∧ Aside0 (Below w.heap.size w wc))
    case first =>
     have H := HC8.out
     clear HC8
     by_cases c10 : (a0_1.size : Int) = 0
     ·rw [if_pos c10] at H
      have c10b0 : ((a0_1.size : Int) == 0) = true := beq_iff_eq.mpr c10
      have c10b1 : ((a0_1.size : Int) != 0) = false := bne_eq_false_iff_eq.mpr c10
      clear c10
      (first | rw [c10b0] | (simp only [i64_w, i32_w]; rw [c10b0]) | skip)
      have H' := Aside0.mk H
      clear H
      go_wp2
      go_meet
      case rel => exact ⟨_, (true), (by first | rfl | (simp; done) | (simp [*]; done)), H', ⟨by have := HJ1.out; first | omega | exact Nat.le_refl _⟩, ⟨by (with_reducible repeat (first | refine blk_drewN ?_ _ | refine blk_drew ?_ | refine blk_alloc ?_ _)); exact BK101.out⟩, ⟨by repeat (first | (with_reducible first | exact HB.out | apply below_alloc | apply pw_below_drewN | apply below_drew1 | refine below_set ?_ GE101.out) | exact HB.out)⟩⟩
     ·rw [if_neg c10] at H
      have c10b0 : ((a0_1.size : Int) == 0) = false := beq_eq_false_iff_ne.mpr c10
      have c10b1 : ((a0_1.size : Int) != 0) = true := bne_iff_ne.mpr c10
      (first | rw [c10b0] | (simp only [i64_w, i32_w]; rw [c10b0]) | skip)
      by_cases c11 : 0 < (a0_1.size : Int)
      ·rw [if_pos c11] at H
       have c11b0 : decide (0 < (a0_1.size : Int)) = true := decide_eq_true c11
       have c11b1 : decide (0 < a0_1.size) = true := decide_eq_true (by omega)
       clear c11
       by_cases c13 : (bt a0_1 0) = 47
       ·rw [if_pos c13] at H
        have c13b0 : ((bt a0_1 0) == 47) = true := beq_iff_eq.mpr c13
        have c13b1 : ((bt a0_1 0) != 47) = false := bne_eq_false_iff_eq.mpr c13
        clear c13
        have H' := Aside0.mk H
        clear H
        have hcz14_0 : wc.cell? ⟨gb101, 0, none⟩ = some (.int .i64 a0_0) := (blk_cell BK101.out 0).trans rfl
        have hcz14_1 : wc.cell? ⟨gb101, 1, none⟩ = some (.string a0_1) := (blk_cell BK101.out 1).trans rfl
        have hcz14_2 : wc.cell? ⟨gb101, 2, none⟩ = some (.bool a0_2) := (blk_cell BK101.out 2).trans rfl
        have hcz14_3 : wc.cell? ⟨gb101, 3, none⟩ = some (.bool a0_3) := (blk_cell BK101.out 3).trans rfl
        have hfz14_0 := blk_frozen BK101.out 0
        have hfz14_1 := blk_frozen BK101.out 1
        have hfz14_2 := blk_frozen BK101.out 2
        have hfz14_3 := blk_frozen BK101.out 3
        have p12 : 0 ≤ (0 : Int) := (by omega)
        have q12 : 0 < a0_1.size := (by have : (0 : Int) < (a0_1.size : Int) := of_decide_eq_true (by first | (with_reducible assumption) | assumption); omega)
        have hx12 : ∀ h : 0 < a0_1.size, ((a0_1[0]'h).toNat : Int) = bt a0_1 0 := bt_at a0_1 0
        clear p12
        have qi12 : (0 < (a0_1.size : Int)) = True := eq_true (of_decide_eq_true (by first | (with_reducible assumption) | assumption))
        replace q12 := eq_true q12
        go_wp2
        go_meet
        case rel => exact ⟨_, (true), (by first | rfl | (simp; done) | (simp [*]; done)), H', ⟨by have := HJ1.out; first | omega | exact Nat.le_refl _⟩, ⟨by (with_reducible repeat (first | refine blk_drewN ?_ _ | refine blk_drew ?_ | refine blk_alloc ?_ _)); exact BK101.out⟩, ⟨by repeat (first | (with_reducible first | exact HB.out | apply below_alloc | apply pw_below_drewN | apply below_drew1 | refine below_set ?_ GE101.out) | exact HB.out)⟩⟩
       ·rw [if_neg c13] at H
        have c13b0 : ((bt a0_1 0) == 47) = false := beq_eq_false_iff_ne.mpr c13
        have c13b1 : ((bt a0_1 0) != 47) = true := bne_iff_ne.mpr c13
        obtain ⟨ji15, hji15⟩ : ∃ j_ : Int, (wrap64 ((a0_1.size : Int) - 1)) = j_ := ⟨_, rfl⟩
        replace H : (if 0 ≤ (ji15) then (if (ji15) < (a0_1.size : Int) then (remoraref15_one.j1 kj1 (a0_1.size : Int) ((bt a0_1 (ji15)) == 47) a0_0 a0_1 a0_2 a0_3) else (none)) else (none)) = some r := by first | (rw [hji15] at H; exact H) | (simp only [hji15] at H ⊢; exact H)
        have hji15w : (IntKind.i64.wrap ((a0_1.size : Int) - 1)) = ji15 := (i64_w _).trans hji15
        by_cases c16 : 0 ≤ (ji15)
        ·rw [if_pos c16] at H
         have c16b0 : decide (0 ≤ (ji15)) = true := decide_eq_true c16
         clear c16
         by_cases c17 : (ji15) < (a0_1.size : Int)
         ·rw [if_pos c17] at H
          have c17b0 : decide ((ji15) < (a0_1.size : Int)) = true := decide_eq_true c17
          clear c17
          have H' := Aside0.mk H
          clear H
          have hcz19_0 : wc.cell? ⟨gb101, 0, none⟩ = some (.int .i64 a0_0) := (blk_cell BK101.out 0).trans rfl
          have hcz19_1 : wc.cell? ⟨gb101, 1, none⟩ = some (.string a0_1) := (blk_cell BK101.out 1).trans rfl
          have hcz19_2 : wc.cell? ⟨gb101, 2, none⟩ = some (.bool a0_2) := (blk_cell BK101.out 2).trans rfl
          have hcz19_3 : wc.cell? ⟨gb101, 3, none⟩ = some (.bool a0_3) := (blk_cell BK101.out 3).trans rfl
          have hfz19_0 := blk_frozen BK101.out 0
          have hfz19_1 := blk_frozen BK101.out 1
          have hfz19_2 := blk_frozen BK101.out 2
          have hfz19_3 := blk_frozen BK101.out 3
          have p12 : 0 ≤ (0 : Int) := (by omega)
          have q12 : 0 < a0_1.size := (by have : (0 : Int) < (a0_1.size : Int) := of_decide_eq_true (by first | (with_reducible assumption) | assumption); omega)
          have hx12 : ∀ h : 0 < a0_1.size, ((a0_1[0]'h).toNat : Int) = bt a0_1 0 := bt_at a0_1 0
          clear p12
          have qi12 : (0 < (a0_1.size : Int)) = True := eq_true (of_decide_eq_true (by first | (with_reducible assumption) | assumption))
          replace q12 := eq_true q12
          have p18 : 0 ≤ ((ji15) : Int) := of_decide_eq_true (by first | (with_reducible assumption) | assumption)
          have q18 : (ji15) < (a0_1.size : Int) := of_decide_eq_true (by first | (with_reducible assumption) | assumption)
          have hx18 := bt_at a0_1 (ji15)
          replace p18 := eq_true p18
          replace q18 := eq_true q18
          go_wp2
          go_meet
          case rel => exact ⟨_, (((bt a0_1 (ji15)) == 47)), (by first | rfl | (simp; done) | (simp only [← hji15] <;> (first | rfl | simp)) | (simp [*]; done)), H', ⟨by have := HJ1.out; first | omega | exact Nat.le_refl _⟩, ⟨by (with_reducible repeat (first | refine blk_drewN ?_ _ | refine blk_drew ?_ | refine blk_alloc ?_ _)); exact BK101.out⟩, ⟨by repeat (first | (with_reducible first | exact HB.out | apply below_alloc | apply pw_below_drewN | apply below_drew1 | refine below_set ?_ GE101.out) | exact HB.out)⟩⟩
         ·rw [if_neg c17] at H
          exact absurd H (by simp)
        ·rw [if_neg c16] at H
         exact absurd H (by simp)
      ·rw [if_neg c11] at H
       exact absurd H (by simp)
    case rest =>
     clear HC8
     try clear c1
     try clear p1
     try clear q1
     try clear hx1
     try clear qi1
     try clear p2
     try clear c4
     try clear c4b0
     try clear p6
     try clear c7
     try clear c10
     try clear c10b0
     try clear c10b1
     try clear c11
     try clear c11b0
     try clear c11b1
     try clear p12
     try clear q12
     try clear hx12
     try clear qi12
     try clear c13
     try clear c13b0
     try clear c13b1
     try clear c16
     try clear c16b0
     try clear c17
     try clear c17b0
     try clear p18
     try clear q18
     try clear hx18
     try clear hcz14_0
     try clear hcz14_1
     try clear hcz14_2
     try clear hcz14_3
     try clear hcz19_0
     try clear hcz19_1
     try clear hcz19_2
     try clear hcz19_3
     try clear hcz5_0
     try clear hcz5_1
     try clear hcz5_2
     try clear hcz5_3
     try clear hcz6_0
     try clear hcz6_1
     try clear hcz6_2
     try clear hcz6_3
     try clear hcz9_0
     try clear hcz9_1
     try clear hcz9_2
     try clear hcz9_3
     try clear hfz14_0
     try clear hfz14_1
     try clear hfz14_2
     try clear hfz14_3
     try clear hfz19_0
     try clear hfz19_1
     try clear hfz19_2
     try clear hfz19_3
     try clear hfz5_0
     try clear hfz5_1
     try clear hfz5_2
     try clear hfz5_3
     try clear hfz6_0
     try clear hfz6_1
     try clear hfz6_2
     try clear hfz6_3
     try clear hfz9_0
     try clear hfz9_1
     try clear hfz9_2
     try clear hfz9_3
     try clear p12
     try clear p18
     try clear p2
     try clear q12
     try clear q18
     obtain ⟨kq, x31_7, rfl, HA, HJ7, BK101, HB⟩ := hcut
     cases kq with
     | zero => exact absurd HA.out (by simp [remoraref15_one.j1])
     | succ kj7 =>
      have H := HA.out
      clear HA
      simp only [remoraref15_one.j1] at H
      by_cases c20 : x31_7 = true
      ·subst c20
       have H1 : (some 5) = some r := by rw [if_pos rfl] at H; exact H
       clear H
       have H := H1
       clear H1
       obtain rfl := Option.some.inj H
       go_wp2
       go_ret
       exact ⟨by first | rfl | (simp [errW_none, errW_some] <;> rfl) | (simp [*, errW_none, errW_some] <;> rfl), by repeat (first | (with_reducible first | exact HB.out | apply below_alloc | apply pw_below_drewN | apply below_drew1 | refine below_set ?_ GE101.out) | exact HB.out)⟩
      ·replace c20 := Bool.eq_false_iff.mpr c20
       subst c20
       have H1 : (remoraref15_one.l0 kj7 (a0_1.size : Int) 0 a0_0 a0_1 a0_2 a0_3) = some r := by rw [if_neg (show ¬ (false = true) by decide)] at H; exact H
       clear H
       have H := H1
       clear H1
       have H' := Aside0.mk H
       clear H
       go_wp2
       go_loopg [4] kj7 (fun kq v4 w' => ∃ (x4_3 : Int), v4 = .int .i64 x4_3 ∧ Aside0 (remoraref15_one.l0 kq (a0_1.size : Int) x4_3 a0_0 a0_1 a0_2 a0_3 = some r) ∧ Aside0 (kq ≤ kj7) ∧ Aside0 (w'.heap[gb101]? = some (.cells #[.int .i64 a0_0, .string a0_1, .bool a0_2, .bool a0_3] 24 (0, 0))) ∧ Aside0 (Below w.heap.size w w'))
       case atStart => exact ⟨(0), (by first | rfl | (simp; done) | (simp [*]; done)), H', ⟨Nat.le_refl _⟩, ⟨by (with_reducible repeat (first | refine blk_drewN ?_ _ | refine blk_drew ?_ | refine blk_alloc ?_ _)); exact BK101.out⟩, ⟨by repeat (first | (with_reducible first | exact HB.out | apply below_alloc | apply pw_below_drewN | apply below_drew1 | refine below_set ?_ GE101.out) | exact HB.out)⟩⟩
       case round =>
        clear H'
        try clear c1
        try clear p1
        try clear q1
        try clear hx1
        try clear qi1
        try clear c2
        try clear p2
        try clear c4
        try clear c4b0
        try clear p6
        try clear c7
        try clear c10
        try clear c10b0
        try clear c10b1
        try clear c11
        try clear c11b0
        try clear c11b1
        try clear p12
        try clear q12
        try clear hx12
        try clear qi12
        try clear c13
        try clear c13b0
        try clear c13b1
        try clear c16
        try clear c16b0
        try clear c17
        try clear c17b0
        try clear p18
        try clear q18
        try clear hx18
        try clear c20
        try clear hcz14_0
        try clear hcz14_1
        try clear hcz14_2
        try clear hcz14_3
        try clear hcz19_0
        try clear hcz19_1
        try clear hcz19_2
        try clear hcz19_3
        try clear hcz5_0
        try clear hcz5_1
        try clear hcz5_2
        try clear hcz5_3
        try clear hcz6_0
        try clear hcz6_1
        try clear hcz6_2
        try clear hcz6_3
        try clear hcz9_0
        try clear hcz9_1
        try clear hcz9_2
        try clear hcz9_3
        try clear hfz14_0
        try clear hfz14_1
        try clear hfz14_2
        try clear hfz14_3
        try clear hfz19_0
        try clear hfz19_1
        try clear hfz19_2
        try clear hfz19_3
        try clear hfz5_0
        try clear hfz5_1
        try clear hfz5_2
        try clear hfz5_3
        try clear hfz6_0
        try clear hfz6_1
        try clear hfz6_2
        try clear hfz6_3
        try clear hfz9_0
        try clear hfz9_1
        try clear hfz9_2
        try clear hfz9_3
        try clear p1
        try clear p12
        try clear p18
        try clear p2
        try clear p6
        try clear q1
        try clear q12
        try clear q18
        obtain ⟨x4_3, rfl, HA, HK3, BK101, HB⟩ := hrel
        cases gk with
        | zero => exact absurd HA.out (by simp [remoraref15_one.l0])
        | succ k3 =>
         have H := HA.out
         clear HA
         simp only [remoraref15_one.l0] at H
         by_cases c21 : x4_3 < (a0_1.size : Int)
         ·rw [if_pos c21] at H
          have c21b0 : decide (x4_3 < (a0_1.size : Int)) = true := decide_eq_true c21
          clear c21
          by_cases c22 : 0 ≤ x4_3
          ·rw [if_pos c22] at H
           have c22b0 : decide (0 ≤ x4_3) = true := decide_eq_true c22
           clear c22
           by_cases c23 : x4_3 < (a0_1.size : Int)
           ·rw [if_pos c23] at H
            have c23b0 : decide (x4_3 < (a0_1.size : Int)) = true := decide_eq_true c23
            clear c23
            by_cases c25 : (bt a0_1 x4_3) = 10
            ·rw [if_pos c25] at H
             have c25b0 : ((bt a0_1 x4_3) == 10) = true := beq_iff_eq.mpr c25
             have c25b1 : ((bt a0_1 x4_3) != 10) = false := bne_eq_false_iff_eq.mpr c25
             clear c25
             obtain rfl := Option.some.inj H
             have hcz26_0 : wr.cell? ⟨gb101, 0, none⟩ = some (.int .i64 a0_0) := (blk_cell BK101.out 0).trans rfl
             have hcz26_1 : wr.cell? ⟨gb101, 1, none⟩ = some (.string a0_1) := (blk_cell BK101.out 1).trans rfl
             have hcz26_2 : wr.cell? ⟨gb101, 2, none⟩ = some (.bool a0_2) := (blk_cell BK101.out 2).trans rfl
             have hcz26_3 : wr.cell? ⟨gb101, 3, none⟩ = some (.bool a0_3) := (blk_cell BK101.out 3).trans rfl
             have hfz26_0 := blk_frozen BK101.out 0
             have hfz26_1 := blk_frozen BK101.out 1
             have hfz26_2 := blk_frozen BK101.out 2
             have hfz26_3 := blk_frozen BK101.out 3
             have p24 : 0 ≤ (x4_3 : Int) := of_decide_eq_true (by first | (with_reducible assumption) | assumption)
             have q24 : x4_3 < (a0_1.size : Int) := of_decide_eq_true (by first | (with_reducible assumption) | assumption)
             have hx24 := bt_at a0_1 x4_3
             replace p24 := eq_true p24
             replace q24 := eq_true q24
             go_wp2
             go_ret
             exact ⟨by first | rfl | (simp [errW_none, errW_some] <;> rfl) | (simp [*, errW_none, errW_some] <;> rfl), by repeat (first | (with_reducible first | exact HB.out | apply below_alloc | apply pw_below_drewN | apply below_drew1 | refine below_set ?_ GE101.out) | exact HB.out)⟩
            ·rw [if_neg c25] at H
             have c25b0 : ((bt a0_1 x4_3) == 10) = false := beq_eq_false_iff_ne.mpr c25
             have c25b1 : ((bt a0_1 x4_3) != 10) = true := bne_iff_ne.mpr c25
             have H' := Aside0.mk H
             clear H
             have hcz27_0 : wr.cell? ⟨gb101, 0, none⟩ = some (.int .i64 a0_0) := (blk_cell BK101.out 0).trans rfl
             have hcz27_1 : wr.cell? ⟨gb101, 1, none⟩ = some (.string a0_1) := (blk_cell BK101.out 1).trans rfl
             have hcz27_2 : wr.cell? ⟨gb101, 2, none⟩ = some (.bool a0_2) := (blk_cell BK101.out 2).trans rfl
             have hcz27_3 : wr.cell? ⟨gb101, 3, none⟩ = some (.bool a0_3) := (blk_cell BK101.out 3).trans rfl
             have hfz27_0 := blk_frozen BK101.out 0
             have hfz27_1 := blk_frozen BK101.out 1
             have hfz27_2 := blk_frozen BK101.out 2
             have hfz27_3 := blk_frozen BK101.out 3
             have p24 : 0 ≤ (x4_3 : Int) := of_decide_eq_true (by first | (with_reducible assumption) | assumption)
             have q24 : x4_3 < (a0_1.size : Int) := of_decide_eq_true (by first | (with_reducible assumption) | assumption)
             have hx24 := bt_at a0_1 x4_3
             replace p24 := eq_true p24
             replace q24 := eq_true q24
             go_wp2
             go_roundg k3
             case measure => have := HJ1.out; have := HJ7.out; have := HK3.out; omega
             case rel => exact ⟨(wrap64 (x4_3 + 1)), (by first | rfl | (simp; done) | (simp [*]; done)), H', ⟨by have := HJ1.out; have := HJ7.out; have := HK3.out; omega⟩, ⟨by (with_reducible repeat (first | refine blk_drewN ?_ _ | refine blk_drew ?_ | refine blk_alloc ?_ _)); exact BK101.out⟩, ⟨by repeat (first | (with_reducible first | exact HB.out | apply below_alloc | apply pw_below_drewN | apply below_drew1 | refine below_set ?_ GE101.out) | exact HB.out)⟩⟩
           ·rw [if_neg c23] at H
            exact absurd H (by simp)
          ·rw [if_neg c22] at H
           exact absurd H (by simp)
         ·rw [if_neg c21] at H
          have c21b0 : decide (x4_3 < (a0_1.size : Int)) = false := decide_eq_false c21
          clear c21
          replace H := Option.bind_eq_some_iff.mp H
          obtain ⟨t102, A280, H⟩ := H
          replace H : (some t102) = some r := H
          have A28 := Aside0.mk A280
          clear A280
          obtain rfl := Option.some.inj H
          have hcz29_0 : wr.cell? ⟨gb101, 0, none⟩ = some (.int .i64 a0_0) := (blk_cell BK101.out 0).trans rfl
          have hcz29_1 : wr.cell? ⟨gb101, 1, none⟩ = some (.string a0_1) := (blk_cell BK101.out 1).trans rfl
          have hcz29_2 : wr.cell? ⟨gb101, 2, none⟩ = some (.bool a0_2) := (blk_cell BK101.out 2).trans rfl
          have hcz29_3 : wr.cell? ⟨gb101, 3, none⟩ = some (.bool a0_3) := (blk_cell BK101.out 3).trans rfl
          have hfz29_0 := blk_frozen BK101.out 0
          have hfz29_1 := blk_frozen BK101.out 1
          have hfz29_2 := blk_frozen BK101.out 2
          have hfz29_3 := blk_frozen BK101.out 3
          go_wp2_with (first | ((with_reducible refine gate_callee (f := 60) rfl ?_); refine goesL_ (some 44) rfl rfl Tryd.func60 (by kernel_rfl) rfl #[.string a0_1] rfl (by (try simp only [List.map_toArray, List.map_cons, List.map_nil]); first | done | rfl | (simp only [List.length_drop, List.length_take]; rfl)) ?_; (with_reducible refine (remoraref14_Check.calls a0_1 t102 _ A28.out).mono ?_); rintro e w30 ⟨rfl, hb⟩; refine ⟨_, rfl, ?_⟩; have n0_ := Aside0.mk (blk_below (g := gb101) (o := .cells #[.int .i64 a0_0, .string a0_1, .bool a0_2, .bool a0_3] 24 (0, 0)) (by (with_reducible repeat (first | refine blk_drewN ?_ _ | refine blk_drew ?_ | refine blk_alloc ?_ _)); exact BK101.out) hb); have n1_ := Aside0.mk (below_step (by repeat (first | (with_reducible first | exact HB.out | apply below_alloc | apply pw_below_drewN | apply below_drew1 | refine below_set ?_ GE101.out) | exact HB.out)) hb); clear BK101; clear HB; have BK101 := n0_; have HB := n1_; clear n0_ n1_; (try clear hb); (try clear hb2); (try clear hk); (try clear hi)))
          go_ret
          exact ⟨by first | rfl | (simp [errW_none, errW_some] <;> rfl) | (simp [*, errW_none, errW_some] <;> rfl), by repeat (first | (with_reducible first | exact HB.out | apply below_alloc | apply pw_below_drewN | apply below_drew1 | refine below_set ?_ GE101.out) | exact HB.out)⟩
end Go.Proofs.YtioehkeocddniaaDoor.PA
namespace Go.Proofs.YtioehkeocddniaaDoor.PA
open Go.RowKit Go.Proofs.YtioehkeocddniaaDoorW.PrintWords Go.Proofs.YtioehkeocddniaaDoorW.PrintLast Go.Proofs.YtioehkeocddniaaDoorW.PrintMore
attribute [local go_sem] max2_int min2_int max_two min_two max_three min_three max_four min_four
set_option linter.unusedVariables false
set_option linter.unusedSimpArgs false
def rR (a : Int) (p : ByteArray) (d h : Bool) : Array Value := #[.int .i64 a, .string p, .bool d, .bool h]
def zR : Array Value := rR 0 ⟨#[]⟩ false false
theorem rR_one (a : Int) (p : ByteArray) (d h : Bool) : (rR a p d h).all (·.oneCell') = true := by simp [rR, Value.oneCell']
def nilR (e : Int) : Int × ByteArray × Bool × Bool × Int := (0, ⟨#[]⟩, false, false, e)
theorem store_runR {P : Program} {o : Oper} {a : Act} (W : World) (g ty : Nat) (old cells : Array Value) (hg : W.heap[g]? = some (.cells old ty (0, 0))) (x y : Operand) (ho : o.op = .store ty x y) (hx : a.eval x = .pointer (some ⟨g, 0, none⟩)) (hy : a.eval y = .agg cells) (hi : (P.info? ty).map (·.size) = some cells.size) (hold : old.size = cells.size) (h1 : cells.all (·.oneCell') = true) : (execOp a.eval o).run P W = .ok .skip (W.setRow g cells) := by
 unfold execOp
 simp only [ho, hx, hy, Instr.storeAt, Instr.sureAddr, Sem.run_bind, Sem.run_pure, Result.andThen_ok, run_storeVar_row W g ty ty old cells hg hi hold h1]
theorem store_cellR {P : Program} {o : Oper} {a : Act} (W : World) {g tb : Nat} {S : Array Value} (hg : W.heap[g]? = some (.cells S tb (0, 0))) (i ty : Nat) (v : Value) (x y : Operand) (ho : o.op = .store ty x y) (hx : a.eval x = .pointer (some ⟨g, i, none⟩)) (hy : a.eval y = v) (hi : (P.info? ty).map (·.size) = some 1) (hold : i < S.size) (h1 : v.oneCell' = true) : (execOp a.eval o).run P W = .ok .skip (W.setCell ⟨g, i, none⟩ v) := by
 have hc : W.cell? ⟨g, i, none⟩ = some S[i] := by rw [blk_cell hg i]; simp [hold]
 have hf := blk_frozen hg i
 have hcs : v.cells = #[v] := by cases v <;> first | rfl | (simp [Value.oneCell'] at h1)
 have hst := run_storeCells_cells (P := P) g i [v] 0 W (fun j hj => by (have hj0 : j = 0 := by (simp at hj; omega)); subst hj0; simp [hc]) (fun j hj => by (have hj0 : j = 0 := by (simp at hj; omega)); subst hj0; simpa using hf) (fun u hu => by rw [List.mem_singleton.1 hu]; exact h1)
 have hsv : (storeVar ty ⟨g, i, none⟩ v).run P W = .ok () (W.setCell ⟨g, i, none⟩ v) := by
  cases hq : P.info? ty with
  | none => simp [hq] at hi
  | some u =>
   have hs : u.size = 1 := by simpa [hq] using hi
   simp only [Nat.add_zero] at hst
   simp [storeVar, sizeOf, typeInfo, hq, hcs, hs, hst]
   rfl
 unfold execOp
 simp only [ho, hx, hy, Instr.storeAt, Instr.sureAddr, Sem.run_bind, Sem.run_pure, Result.andThen_ok, hsv]
structure RB (w wr : World) (g : Nat) (S : Array Value) : Prop where
 below : Below w.heap.size w wr
 res : wr.heap[w.heap.size]? = some (.cells zR 24 (0, 0))
 box : wr.heap[g]? = some (.cells S 24 (0, 0))
 n0 : w.heap.size < g
theorem RB.step {w wr w2 : World} {g : Nat} {S : Array Value} (h : RB w wr g S) (hb : Below wr.heap.size wr w2) : RB w w2 g S :=
 ⟨below_step h.below hb, blk_below h.res hb, blk_below h.box hb, h.n0⟩
theorem RB.of {w wr : World} (h : B1 24 w wr zR) : RB w (wr.alloc (.cells zR 24)) wr.heap.size zR :=
 ⟨(h.step (below_alloc (Below.refl _ _) _)).1, (h.step (below_alloc (Below.refl _ _) _)).2, blk_new _ _, blk_lt h.2⟩
theorem RB.of0 (w : World) : RB w ((w.alloc (.cells zR 24)).alloc (.cells zR 24)) (w.heap.size + 1) zR := by
 have h := RB.of (B1.start 24 w zR)
 have e : (w.alloc (.cells zR 24)).heap.size = w.heap.size + 1 := by simp
 rw [e] at h
 exact h
theorem RB.row_ {w wr : World} {g : Nat} {S : Array Value} (h : RB w wr g S) (S2 : Array Value) : RB w (wr.setRow g S2) g S2 :=
 ⟨below_setRow h.below (Nat.le_of_lt h.n0) _, (setRow_other _ _ _ _ (Nat.ne_of_lt h.n0)).trans h.res, setRow_heap _ _ _ _ _ _ h.box, h.n0⟩
theorem RB.put {w wr : World} {g : Nat} {S : Array Value} (h : RB w wr g S) (i : Nat) (v : Value) (S2 : Array Value) (e : S.setIfInBounds i v = S2) : RB w (wr.setCell ⟨g, i, none⟩ v) g S2 :=
 ⟨below_set h.below (Nat.le_of_lt h.n0), blk_far h.res (Nat.ne_of_lt h.n0) v, blk_put h.box i v e, h.n0⟩
end Go.Proofs.YtioehkeocddniaaDoor.PA
namespace Go.Proofs.YtioehkeocddniaaDoor.PA
open Go.RowKit Go.Proofs.YtioehkeocddniaaDoorW.PrintWords Go.Proofs.YtioehkeocddniaaDoorW.PrintLast Go.Proofs.YtioehkeocddniaaDoorW.PrintMore
attribute [local go_sem] max2_int min2_int max_two min_two max_three min_three max_four min_four
set_option linter.unusedVariables false
set_option linter.unusedSimpArgs false
theorem wr64 (x : Int) (h1 : -9223372036854775808 ≤ x) (h2 : x < 9223372036854775808) : wrap64 x = x := by
 unfold wrap64
 omega
def splitTo (s : ByteArray) : Nat → List ByteArray × Nat
 | 0 => ([], 0)
 | k + 1 => if bt s (k : Int) = 47 then ((splitTo s k).1 ++ [s.extract (splitTo s k).2 k], k + 1) else splitTo s k
def splitL (s : ByteArray) : List ByteArray := if s.size = 0 then [] else (splitTo s s.size).1 ++ [s.extract (splitTo s s.size).2 s.size]
theorem splitTo_hit (s : ByteArray) (k : Nat) (h : bt s (k : Int) = 47) : splitTo s (k + 1) = ((splitTo s k).1 ++ [s.extract (splitTo s k).2 k], k + 1) := by
 rw [splitTo, if_pos h]
theorem splitTo_miss (s : ByteArray) (k : Nat) (h : ¬ bt s (k : Int) = 47) : splitTo s (k + 1) = splitTo s k := by
 rw [splitTo, if_neg h]
theorem splitTo_le (s : ByteArray) : ∀ k, (splitTo s k).2 ≤ k
 | 0 => Nat.le_refl _
 | k + 1 => by
  have := splitTo_le s k
  unfold splitTo
  split
  ·exact Nat.le_refl _
  ·omega
theorem splitTo_len (s : ByteArray) : ∀ k, (splitTo s k).1.length ≤ k
 | 0 => Nat.le_refl _
 | k + 1 => by
  have := splitTo_len s k
  unfold splitTo
  split
  ·simp
   omega
  ·omega
theorem splitTo_skip (s : ByteArray) (p : Nat) : ∀ m, (∀ j, j < m → ¬ bt s ((p + j : Nat) : Int) = 47) → splitTo s (p + m) = splitTo s p
 | 0, _ => rfl
 | m + 1, h => by
  rw [← Nat.add_assoc, splitTo_miss s (p + m) (h m (by omega))]
  exact splitTo_skip s p m (fun j hj => h j (by omega))
theorem bt_get (s : ByteArray) (k : Nat) (h : k < s.size) : bt s (k : Int) = ((s.get! k).toNat : Int) := by
 have e : s.get! k = s[k]'h := by
  simp [ByteArray.get!, getElem!_pos, h]
  rfl
 rw [e, bt, dif_pos (by simpa using h)]
 rfl
theorem dec47 (s : ByteArray) (p : Nat) (h : p < s.size) : 1 ≤ (Utf8.decode s p).2 ∧ p + (Utf8.decode s p).2 ≤ s.size ∧ (Utf8.decode s p).1 < 4294967296 ∧ (bt s (p : Int) = 47 → (Utf8.decode s p) = (47, 1)) ∧ (¬ bt s (p : Int) = 47 → ¬ (Utf8.decode s p).1 = 47 ∧ splitTo s (p + (Utf8.decode s p).2) = splitTo s p) := by
 have hb := bt_get s p h
 have key : 1 ≤ (Utf8.decode s p).2 ∧ p + (Utf8.decode s p).2 ≤ s.size ∧ (Utf8.decode s p).1 < 4294967296 ∧ ((s.get! p).toNat = 47 → (Utf8.decode s p) = (47, 1)) ∧ (¬ (s.get! p).toNat = 47 → ¬ (Utf8.decode s p).1 = 47 ∧ ∀ j, 1 ≤ j → j < (Utf8.decode s p).2 → p + j < s.size ∧ ¬ (s.get! (p + j)).toNat = 47) := by
  have l0 : (s.get! (p + 0)).toNat < 256 := UInt8.toNat_lt _
  have l1 : (s.get! (p + 1)).toNat < 256 := UInt8.toNat_lt _
  have l2 : (s.get! (p + 2)).toNat < 256 := UInt8.toNat_lt _
  have l3 : (s.get! (p + 3)).toNat < 256 := UInt8.toNat_lt _
  have z : s.get! p = s.get! (p + 0) := rfl
  have r : Utf8.runeError = 65533 := rfl
  rw [z]
  have J : ∀ (n j : Nat), 1 ≤ j → j < n → n ≤ 4 → j = 1 ∨ j = 2 ∨ j = 3 := by omega
  unfold Utf8.decode
  simp only [Bool.and_eq_true, decide_eq_true_eq, beq_iff_eq]
  repeat' split
  all_goals first
   | (refine ⟨by dsimp only; omega, by dsimp only; omega, by dsimp only; omega, fun hh => by first | omega | (rw [hh]; done) | (exact absurd hh (by omega)), fun hh => ⟨by dsimp only; omega, fun j hj hj2 => ?_⟩⟩; dsimp only at hj2; omega)
   | (refine ⟨by dsimp only; omega, by dsimp only; omega, by dsimp only; omega, fun hh => by first | omega | (rw [hh]; done) | (exact absurd hh (by omega)), fun hh => ⟨by dsimp only; omega, fun j hj hj2 => ?_⟩⟩; dsimp only at hj2; rcases J _ j hj hj2 (by omega) with rfl | rfl | rfl <;> omega)
 obtain ⟨k1, k2, k3, k4, k5⟩ := key
 refine ⟨k1, k2, k3, fun hh => k4 (by omega), fun hh => ?_⟩
 obtain ⟨m1, m2⟩ := k5 (by omega)
 refine ⟨m1, splitTo_skip s p _ (fun j hj => ?_)⟩
 cases j with
 | zero => exact hh
 | succ j =>
  obtain ⟨q1, q2⟩ := m2 (j + 1) (by omega) hj
  rw [bt_get s _ q1]
  omega
end Go.Proofs.YtioehkeocddniaaDoor.PA
namespace Go.Proofs.YtioehkeocddniaaDoor.PA
open Go.RowKit Go.Proofs.YtioehkeocddniaaDoorW.PrintWords Go.Proofs.YtioehkeocddniaaDoorW.PrintLast Go.Proofs.YtioehkeocddniaaDoorW.PrintMore
attribute [local go_sem] max2_int min2_int max_two min_two max_three min_three max_four min_four
set_option linter.unusedVariables false
set_option linter.unusedSimpArgs false
def actB (a : Int) : Int := if a = 1 then 43 else if a = 2 then 45 else if a = 3 then 80 else if a = 4 then 82 else 0
def rules_sign.f (a0 : Int) : Option Int := some (actB a0)
set_option maxHeartbeats 2000000 in
set_option maxRecDepth 100000 in
theorem rules_sign.calls (a0 : Int) (r : Int) (w : World) (h : rules_sign.f a0 = some r) : Calls Tryd.prog 55 #[.int .i64 a0] w fun e w' => e = .returned (.int .u8 r) ∧ Below w.heap.size w w' := by
 obtain rfl := Option.some.inj h
 clear h
 by_cases hr : 1 ≤ a0 ∧ a0 ≤ 4
 ·have h4 : a0 = 1 ∨ a0 = 2 ∨ a0 = 3 ∨ a0 = 4 := by omega
  clear hr
  rcases h4 with rfl | rfl | rfl | rfl
  ·have hix : ∀ w, (Instr.index 82 (.agg #[.int .u8 0, .int .u8 43, .int .u8 45, .int .u8 80, .int .u8 82]) (.int .i64 1)).run Tryd.prog w = .ok (.int .u8 (actB 1)) w := fun w => by kernel_rfl
   go_enter Tryd.func55, Tryd.ntmps55
   go_wp2
   go_ret
   exact ⟨rfl, Below.refl _ _⟩
  ·have hix : ∀ w, (Instr.index 82 (.agg #[.int .u8 0, .int .u8 43, .int .u8 45, .int .u8 80, .int .u8 82]) (.int .i64 2)).run Tryd.prog w = .ok (.int .u8 (actB 2)) w := fun w => by kernel_rfl
   go_enter Tryd.func55, Tryd.ntmps55
   go_wp2
   go_ret
   exact ⟨rfl, Below.refl _ _⟩
  ·have hix : ∀ w, (Instr.index 82 (.agg #[.int .u8 0, .int .u8 43, .int .u8 45, .int .u8 80, .int .u8 82]) (.int .i64 3)).run Tryd.prog w = .ok (.int .u8 (actB 3)) w := fun w => by kernel_rfl
   go_enter Tryd.func55, Tryd.ntmps55
   go_wp2
   go_ret
   exact ⟨rfl, Below.refl _ _⟩
  ·have hix : ∀ w, (Instr.index 82 (.agg #[.int .u8 0, .int .u8 43, .int .u8 45, .int .u8 80, .int .u8 82]) (.int .i64 4)).run Tryd.prog w = .ok (.int .u8 (actB 4)) w := fun w => by kernel_rfl
   go_enter Tryd.func55, Tryd.ntmps55
   go_wp2
   go_ret
   exact ⟨rfl, Below.refl _ _⟩
 ·have HE := Aside0.mk (show actB a0 = 0 by unfold actB; rw [if_neg (by omega), if_neg (by omega), if_neg (by omega), if_neg (by omega)])
  by_cases h0 : a0 ≤ 0
  ·have e0 : (a0 ≤ 0) = True := eq_true h0
   clear hr
   go_enter Tryd.func55, Tryd.ntmps55
   go_wp2
   go_ret
   exact ⟨by rw [HE.out]; rfl, Below.refl _ _⟩
  ·have e0 : (a0 ≤ 0) = False := eq_false h0
   have e1 : (4 < a0) = True := eq_true (by omega)
   clear hr h0
   go_enter Tryd.func55, Tryd.ntmps55
   go_wp2
   go_ret
   exact ⟨by rw [HE.out]; rfl, Below.refl _ _⟩
end Go.Proofs.YtioehkeocddniaaDoor.PA
namespace Go.Proofs.YtioehkeocddniaaDoor.PA
open Go.RowKit Go.Proofs.YtioehkeocddniaaDoorW.PrintWords Go.Proofs.YtioehkeocddniaaDoorW.PrintLast Go.Proofs.YtioehkeocddniaaDoorW.PrintMore
attribute [local go_sem] max2_int min2_int max_two min_two max_three min_three max_four min_four   -- for this text's walks alone
set_option linter.unusedVariables false
set_option linter.unusedSimpArgs false
def rules_act.l0 : Nat → Int → Int → Option (Int)
 | 0, _, _ => none
 | k + 1, x0, x3 => if x3 ≤ 4 then ((rules_sign.f x3).bind fun t101 => (if t101 = x0 then (some x3) else (rules_act.l0 k x0 (wrap64 (x3 + 1))))) else (some 0)
def rules_act.f (k : Nat) (a0 : Int) : Option (Int) := rules_act.l0 k a0 1
set_option maxHeartbeats 8000000 in
set_option maxRecDepth 100000 in
theorem rules_act.calls (k : Nat) (a0 : Int) (r : Int) (w : World) (h : rules_act.f k a0 = some r) :
  Calls Tryd.prog 36 #[.int .u8 a0] w fun e w' => e = .returned (.int .i64 r) ∧ Below w.heap.size w w' := by
 have HB := Aside0.mk (Below.refl w.heap.size w)
 have H : (rules_act.l0 k a0 1) = some r := h
 clear h
 have H' := Aside0.mk H
 clear H
 go_enter Tryd.func36, Tryd.ntmps36
 go_wp2
 go_loopg [3] k (fun kq v3 w' => ∃ (x3_1 : Int), v3 = .int .i64 x3_1 ∧ Aside0 (rules_act.l0 kq a0 x3_1 = some r) ∧ Aside0 (kq ≤ k) ∧ Aside0 (Below w.heap.size w w'))
 case atStart => exact ⟨(1), (by first | rfl | (simp; done) | (simp [*]; done)), H', ⟨Nat.le_refl _⟩, ⟨by repeat (first | (with_reducible first | exact HB.out | apply below_alloc | apply pw_below_drewN | apply below_drew1) | exact HB.out)⟩⟩
 case round =>
  clear H'
  obtain ⟨x3_1, rfl, HA, HK1, HB⟩ := hrel
  cases gk with
  | zero => exact absurd HA.out (by simp [rules_act.l0])
  | succ k1 =>
   have H := HA.out
   clear HA
   simp only [rules_act.l0] at H
   by_cases c2 : x3_1 ≤ 4
   ·rw [if_pos c2] at H
    have c2b0 : decide (x3_1 ≤ 4) = true := decide_eq_true c2
    clear c2
    replace H := Option.bind_eq_some_iff.mp H
    obtain ⟨t101, A30, H⟩ := H
    replace H : (if t101 = a0 then (some x3_1) else (rules_act.l0 k1 a0 (wrap64 (x3_1 + 1)))) = some r := H
    have A3 := Aside0.mk A30
    clear A30
    by_cases c4 : t101 = a0
    ·rw [if_pos c4] at H
     have c4b0 : (t101 == a0) = true := beq_iff_eq.mpr c4
     have c4b1 : (t101 != a0) = false := bne_eq_false_iff_eq.mpr c4
     clear c4
     obtain rfl := Option.some.inj H
     go_wp2_with (first | ((with_reducible refine gate_callee (f := 55) rfl ?_); refine goesL_ (some 9) rfl rfl Tryd.func55 (by kernel_rfl) rfl #[.int .i64 x3_1] rfl (by (try simp only [List.map_toArray, List.map_cons, List.map_nil]); first | done | rfl | (simp only [List.length_drop, List.length_take]; rfl)) ?_; (with_reducible refine (rules_sign.calls x3_1 t101 _ A3.out).mono ?_); rintro e w5 ⟨rfl, hb⟩; refine ⟨_, rfl, ?_⟩; have n0_ := Aside0.mk (below_step (by repeat (first | (with_reducible first | exact HB.out | apply below_alloc | apply pw_below_drewN | apply below_drew1) | exact HB.out)) hb); clear HB; have HB := n0_; clear n0_; (try clear hb); (try clear hb2); (try clear hk); (try clear hi)))
     go_ret
     exact ⟨by first | rfl | (simp [errW_none, errW_some] <;> rfl) | (simp [*, errW_none, errW_some] <;> rfl), by repeat (first | (with_reducible first | exact HB.out | apply below_alloc | apply pw_below_drewN | apply below_drew1) | exact HB.out)⟩
    ·rw [if_neg c4] at H
     have c4b0 : (t101 == a0) = false := beq_eq_false_iff_ne.mpr c4
     have c4b1 : (t101 != a0) = true := bne_iff_ne.mpr c4
     have H' := Aside0.mk H
     clear H
     go_wp2_with (first | ((with_reducible refine gate_callee (f := 55) rfl ?_); refine goesL_ (some 9) rfl rfl Tryd.func55 (by kernel_rfl) rfl #[.int .i64 x3_1] rfl (by (try simp only [List.map_toArray, List.map_cons, List.map_nil]); first | done | rfl | (simp only [List.length_drop, List.length_take]; rfl)) ?_; (with_reducible refine (rules_sign.calls x3_1 t101 _ A3.out).mono ?_); rintro e w6 ⟨rfl, hb⟩; refine ⟨_, rfl, ?_⟩; have n0_ := Aside0.mk (below_step (by repeat (first | (with_reducible first | exact HB.out | apply below_alloc | apply pw_below_drewN | apply below_drew1) | exact HB.out)) hb); clear HB; have HB := n0_; clear n0_; (try clear hb); (try clear hb2); (try clear hk); (try clear hi)))
     go_roundg k1
     case measure => have := HK1.out; omega
     case rel => exact ⟨(wrap64 (x3_1 + 1)), (by first | rfl | (simp; done) | (simp [*]; done)), H', ⟨by have := HK1.out; omega⟩, ⟨by repeat (first | (with_reducible first | exact HB.out | apply below_alloc | apply pw_below_drewN | apply below_drew1) | exact HB.out)⟩⟩
   ·rw [if_neg c2] at H
    have c2b0 : decide (x3_1 ≤ 4) = false := decide_eq_false c2
    clear c2
    obtain rfl := Option.some.inj H
    go_wp2
    go_ret
    exact ⟨by first | rfl | (simp [errW_none, errW_some] <;> rfl) | (simp [*, errW_none, errW_some] <;> rfl), by repeat (first | (with_reducible first | exact HB.out | apply below_alloc | apply pw_below_drewN | apply below_drew1) | exact HB.out)⟩
end Go.Proofs.YtioehkeocddniaaDoor.PA
namespace Go.Proofs.YtioehkeocddniaaDoor.PA
open Go.RowKit Go.Proofs.YtioehkeocddniaaDoorW.PrintWords Go.Proofs.YtioehkeocddniaaDoorW.PrintLast Go.Proofs.YtioehkeocddniaaDoorW.PrintMore
attribute [local go_sem] max2_int min2_int max_two min_two max_three min_three max_four min_four
set_option linter.unusedVariables false
set_option linter.unusedSimpArgs false
open Go.Shelf
def Tryd.lays144_ren : Go.Shelf.Ren := ⟨fun | 144 => 43 | 143 => 62 | 219 => 76 | 217 => 78 | 225 => 86 | 224 => 87 | 267 => 88 | 266 => 90 | 314 => 94 | n => n, fun | 9 => 9 | 4 => 4 | 3 => 3 | 5 => 5 | 46 => 38 | 146 => 105 | 51 => 104 | n => n, fun | 1 => 0 | n => n⟩
theorem Tryd.lays144 : Go.Proofs.Lays.n144 Tryd.prog Tryd.lays144_ren := {
 mixed := by kernel_rfl
 f143 := Tryd.func62.trans (congrArg some (by kernel_rfl))
 f144 := Tryd.func43.trans (congrArg some (by kernel_rfl))
 f217 := Tryd.func78.trans (congrArg some (by kernel_rfl))
 f219 := Tryd.func76.trans (congrArg some (by kernel_rfl))
 f224 := Tryd.func87.trans (congrArg some (by kernel_rfl))
 f225 := Tryd.func86.trans (congrArg some (by kernel_rfl))
 f266 := Tryd.func90.trans (congrArg some (by kernel_rfl))
 f267 := Tryd.func88.trans (congrArg some (by kernel_rfl))
 f314 := Tryd.func94.trans (congrArg some (by kernel_rfl))
 t3 := Tryd.underlying3
 a3 := Tryd.isAgg3
 z3 := Tryd.sizeOf3
 v3 := Tryd.zeroValue3
 t4 := Tryd.underlying4
 a4 := Tryd.isAgg4
 z4 := Tryd.sizeOf4
 v4 := Tryd.zeroValue4
 t5 := Tryd.underlying5
 a5 := Tryd.isAgg5
 z5 := Tryd.sizeOf5
 v5 := Tryd.zeroValue5
 t9 := Tryd.underlying9
 a9 := Tryd.isAgg9
 z9 := Tryd.sizeOf9
 v9 := Tryd.zeroValue9
 t46 := Tryd.underlying38
 a46 := Tryd.isAgg38
 z46 := Tryd.sizeOf38
 v46 := Tryd.zeroValue38
 t51 := Tryd.underlying104
 a51 := Tryd.isAgg104
 z51 := Tryd.sizeOf104
 v51 := Tryd.zeroValue104
 t146 := Tryd.underlying105
 a146 := Tryd.isAgg105
 z146 := Tryd.sizeOf105
 v146 := Tryd.zeroValue105
 g1 := by kernel_rfl }
open Go.RowKit Go.Lib in
theorem Tryd.strings_Contains_one (s : ByteArray) (c : UInt8) (w : World) :
  Calls Tryd.prog 43 #[.string s, .string ⟨#[c]⟩] w fun e w' => e = .returned (.bool (decide (0 ≤ Lib.indexByte s.data.toList c))) ∧ w' = w := Any.strings_Contains_one Tryd.lays144 s c w
def hasB (s : ByteArray) (c : UInt8) : Bool := decide (0 ≤ Lib.indexByte s.data.toList c)
def strings_Contains.f (a0 a1 : ByteArray) : Option Bool := if a1.size = 1 then some (hasB a0 (a1.data.toList.headD 0)) else none
theorem strings_Contains.calls (a0 a1 : ByteArray) (r : Bool) (w : World) (h : strings_Contains.f a0 a1 = some r) : Calls Tryd.prog 43 #[.string a0, .string a1] w fun e w' => e = .returned (.bool r) ∧ Drawn0 w w' := by
 unfold strings_Contains.f at h
 split at h
 ·rename_i hs
  obtain rfl := Option.some.inj h
  obtain ⟨ch, rfl⟩ := Lib.one_byte a1 hs
  refine (Tryd.strings_Contains_one a0 ch w).mono ?_
  rintro e w' ⟨rfl, rfl⟩
  exact ⟨rfl, Drawn0.refl _⟩
 ·cases h
end Go.Proofs.YtioehkeocddniaaDoor.PA
namespace Go.Proofs.YtioehkeocddniaaDoor.PA
open Go.RowKit Go.Proofs.YtioehkeocddniaaDoorW.PrintWords Go.Proofs.YtioehkeocddniaaDoorW.PrintLast Go.Proofs.YtioehkeocddniaaDoorW.PrintMore
attribute [local go_sem] max2_int min2_int max_two min_two max_three min_three max_four min_four   -- for this text's walks alone
set_option linter.unusedVariables false
set_option linter.unusedSimpArgs false
def rules_check.f (a0_0 : Int) (a0_1 : ByteArray) (a0_2 : Bool) (a0_3 : Bool) : Option (Int) := (rules_sign.f a0_0).bind fun t102 => (if t102 = 0 then (some 2) else (if a0_1.toList = ([] : List UInt8) then (some 5) else (if 0 < (a0_1.size : Int) then (if (bt a0_1 0) = 47 then (some 5) else (if 0 ≤ (wrap64 ((a0_1.size : Int) - 1)) then (if (wrap64 ((a0_1.size : Int) - 1)) < (a0_1.size : Int) then (if (bt a0_1 (wrap64 ((a0_1.size : Int) - 1))) = 47 then (some 5) else ((strings_Contains.f a0_1 (⟨#[10]⟩ : ByteArray)).bind fun t103 => (if t103 = true then (some 5) else ((glob_Check.f a0_1).bind fun t104 => (some t104))))) else (none)) else (none))) else (none))))
set_option maxHeartbeats 8000000 in
set_option maxRecDepth 100000 in
theorem rules_check.calls (a0_0 : Int) (a0_1 : ByteArray) (a0_2 : Bool) (a0_3 : Bool) (r : Int) (w : World) (h : rules_check.f a0_0 a0_1 a0_2 a0_3 = some r) :
  Calls Tryd.prog 39 #[.agg #[.int .i64 a0_0, .string a0_1, .bool a0_2, .bool a0_3]] w fun e w' => e = .returned (.int .i64 r) ∧ Below w.heap.size w w' := by
 have hu24 := Tryd.underlying24
 have HB := Aside0.mk (Below.refl w.heap.size w)
 have H : ((rules_sign.f a0_0).bind fun t102 => (if t102 = 0 then (some 2) else (if a0_1.toList = ([] : List UInt8) then (some 5) else (if 0 < (a0_1.size : Int) then (if (bt a0_1 0) = 47 then (some 5) else (if 0 ≤ (wrap64 ((a0_1.size : Int) - 1)) then (if (wrap64 ((a0_1.size : Int) - 1)) < (a0_1.size : Int) then (if (bt a0_1 (wrap64 ((a0_1.size : Int) - 1))) = 47 then (some 5) else ((strings_Contains.f a0_1 (⟨#[10]⟩ : ByteArray)).bind fun t103 => (if t103 = true then (some 5) else ((glob_Check.f a0_1).bind fun t104 => (some t104))))) else (none)) else (none))) else (none))))) = some r := h
 clear h
 replace H := Option.bind_eq_some_iff.mp H
 obtain ⟨t102, A20, H⟩ := H
 replace H : (if t102 = 0 then (some 2) else (if a0_1.toList = ([] : List UInt8) then (some 5) else (if 0 < (a0_1.size : Int) then (if (bt a0_1 0) = 47 then (some 5) else (if 0 ≤ (wrap64 ((a0_1.size : Int) - 1)) then (if (wrap64 ((a0_1.size : Int) - 1)) < (a0_1.size : Int) then (if (bt a0_1 (wrap64 ((a0_1.size : Int) - 1))) = 47 then (some 5) else ((strings_Contains.f a0_1 (⟨#[10]⟩ : ByteArray)).bind fun t103 => (if t103 = true then (some 5) else ((glob_Check.f a0_1).bind fun t104 => (some t104))))) else (none)) else (none))) else (none)))) = some r := H
 have A2 := Aside0.mk A20
 clear A20
 by_cases c3 : t102 = 0
 ·rw [if_pos c3] at H
  have c3b0 : (t102 == 0) = true := beq_iff_eq.mpr c3
  have c3b1 : (t102 != 0) = false := bne_eq_false_iff_eq.mpr c3
  clear c3
  obtain rfl := Option.some.inj H
  go_enter Tryd.func39, Tryd.ntmps39
  go_wp2_with (first | ((with_reducible refine gate_dst (N := 1) rfl ?_); (try (refine gate_guard (by rfl) ?_; dsimp only)); refine box_event ?hg (N := 1) ?hd (cs := #[.int .i64 a0_0, .string a0_1, .bool a0_2, .bool a0_3]) (t := 24) ?hr ?_; (case hd => rfl); (case hg => rfl); (case hr => first | (go_simp; done) | (go_simp; rfl)); intro gb101 hg w4 hbox hb; have n0_ := Aside0.mk (below_step (by repeat (first | (with_reducible first | exact HB.out | apply below_alloc | apply pw_below_drewN | apply below_drew1) | exact HB.out)) hb); have n1_ := Aside0.mk (hbox); have n2_ := Aside0.mk ((by rw [hg]; exact (below_size (by repeat (first | (with_reducible first | exact HB.out | apply below_alloc | apply pw_below_drewN | apply below_drew1) | exact HB.out))) : w.heap.size ≤ gb101)); have n3_ := Aside0.mk ((by rw [hg]; exact (below_size (by repeat (first | (with_reducible first | exact HB.out | apply below_alloc | apply pw_below_drewN | apply below_drew1) | exact HB.out))) : w.heap.size ≤ gb101)); clear HB; have HB := n0_; have BK101 := n1_; have GW101 := n2_; have GE101 := n3_; clear n0_ n1_ n2_ n3_; clear hb hbox hg; have hcz5_0 : w4.cell? ⟨gb101, 0, none⟩ = some (.int .i64 a0_0) := (blk_cell BK101.out 0).trans rfl; have hcz5_1 : w4.cell? ⟨gb101, 1, none⟩ = some (.string a0_1) := (blk_cell BK101.out 1).trans rfl; have hcz5_2 : w4.cell? ⟨gb101, 2, none⟩ = some (.bool a0_2) := (blk_cell BK101.out 2).trans rfl; have hcz5_3 : w4.cell? ⟨gb101, 3, none⟩ = some (.bool a0_3) := (blk_cell BK101.out 3).trans rfl; have hfz5_0 := blk_frozen BK101.out 0; have hfz5_1 := blk_frozen BK101.out 1; have hfz5_2 := blk_frozen BK101.out 2; have hfz5_3 := blk_frozen BK101.out 3) | ((with_reducible refine gate_callee (f := 55) rfl ?_); refine goesL_ (some 9) rfl rfl Tryd.func55 (by kernel_rfl) rfl #[.int .i64 a0_0] rfl (by (try simp only [List.map_toArray, List.map_cons, List.map_nil]); first | done | rfl | (simp only [List.length_drop, List.length_take]; rfl)) ?_; (with_reducible refine (rules_sign.calls a0_0 t102 _ A2.out).mono ?_); rintro e w6 ⟨rfl, hb⟩; refine ⟨_, rfl, ?_⟩; have n0_ := Aside0.mk (blk_below (g := gb101) (o := .cells #[.int .i64 a0_0, .string a0_1, .bool a0_2, .bool a0_3] 24 (0, 0)) (by (with_reducible repeat (first | refine blk_drewN ?_ _ | refine blk_drew ?_ | refine blk_alloc ?_ _)); exact BK101.out) hb); have n1_ := Aside0.mk (below_step (by repeat (first | (with_reducible first | exact HB.out | apply below_alloc | apply pw_below_drewN | apply below_drew1 | refine below_set ?_ GE101.out) | exact HB.out)) hb); clear BK101; clear HB; have BK101 := n0_; have HB := n1_; clear n0_ n1_; (try clear hb); (try clear hb2); (try clear hk); (try clear hi)))
  go_ret
  exact ⟨by first | rfl | (simp [errW_none, errW_some] <;> rfl) | (simp [*, errW_none, errW_some] <;> rfl), by repeat (first | (with_reducible first | exact HB.out | apply below_alloc | apply pw_below_drewN | apply below_drew1 | refine below_set ?_ GE101.out) | exact HB.out)⟩
 ·rw [if_neg c3] at H
  have c3b0 : (t102 == 0) = false := beq_eq_false_iff_ne.mpr c3
  have c3b1 : (t102 != 0) = true := bne_iff_ne.mpr c3
  by_cases c7 : a0_1.toList = ([] : List UInt8)
  ·rw [if_pos c7] at H
   have c7b0 : (a0_1.toList == ([] : List UInt8)) = true := beq_iff_eq.mpr c7
   have c7b1 : (a0_1.toList != ([] : List UInt8)) = false := bne_eq_false_iff_eq.mpr c7
   clear c7
   obtain rfl := Option.some.inj H
   go_enter Tryd.func39, Tryd.ntmps39
   go_wp2_with (first | ((with_reducible refine gate_dst (N := 1) rfl ?_); (try (refine gate_guard (by rfl) ?_; dsimp only)); refine box_event ?hg (N := 1) ?hd (cs := #[.int .i64 a0_0, .string a0_1, .bool a0_2, .bool a0_3]) (t := 24) ?hr ?_; (case hd => rfl); (case hg => rfl); (case hr => first | (go_simp; done) | (go_simp; rfl)); intro gb101 hg w8 hbox hb; have n0_ := Aside0.mk (below_step (by repeat (first | (with_reducible first | exact HB.out | apply below_alloc | apply pw_below_drewN | apply below_drew1) | exact HB.out)) hb); have n1_ := Aside0.mk (hbox); have n2_ := Aside0.mk ((by rw [hg]; exact (below_size (by repeat (first | (with_reducible first | exact HB.out | apply below_alloc | apply pw_below_drewN | apply below_drew1) | exact HB.out))) : w.heap.size ≤ gb101)); have n3_ := Aside0.mk ((by rw [hg]; exact (below_size (by repeat (first | (with_reducible first | exact HB.out | apply below_alloc | apply pw_below_drewN | apply below_drew1) | exact HB.out))) : w.heap.size ≤ gb101)); clear HB; have HB := n0_; have BK101 := n1_; have GW101 := n2_; have GE101 := n3_; clear n0_ n1_ n2_ n3_; clear hb hbox hg; have hcz9_0 : w8.cell? ⟨gb101, 0, none⟩ = some (.int .i64 a0_0) := (blk_cell BK101.out 0).trans rfl; have hcz9_1 : w8.cell? ⟨gb101, 1, none⟩ = some (.string a0_1) := (blk_cell BK101.out 1).trans rfl; have hcz9_2 : w8.cell? ⟨gb101, 2, none⟩ = some (.bool a0_2) := (blk_cell BK101.out 2).trans rfl; have hcz9_3 : w8.cell? ⟨gb101, 3, none⟩ = some (.bool a0_3) := (blk_cell BK101.out 3).trans rfl; have hfz9_0 := blk_frozen BK101.out 0; have hfz9_1 := blk_frozen BK101.out 1; have hfz9_2 := blk_frozen BK101.out 2; have hfz9_3 := blk_frozen BK101.out 3) | ((with_reducible refine gate_callee (f := 55) rfl ?_); refine goesL_ (some 9) rfl rfl Tryd.func55 (by kernel_rfl) rfl #[.int .i64 a0_0] rfl (by (try simp only [List.map_toArray, List.map_cons, List.map_nil]); first | done | rfl | (simp only [List.length_drop, List.length_take]; rfl)) ?_; (with_reducible refine (rules_sign.calls a0_0 t102 _ A2.out).mono ?_); rintro e w10 ⟨rfl, hb⟩; refine ⟨_, rfl, ?_⟩; have n0_ := Aside0.mk (blk_below (g := gb101) (o := .cells #[.int .i64 a0_0, .string a0_1, .bool a0_2, .bool a0_3] 24 (0, 0)) (by (with_reducible repeat (first | refine blk_drewN ?_ _ | refine blk_drew ?_ | refine blk_alloc ?_ _)); exact BK101.out) hb); have n1_ := Aside0.mk (below_step (by repeat (first | (with_reducible first | exact HB.out | apply below_alloc | apply pw_below_drewN | apply below_drew1 | refine below_set ?_ GE101.out) | exact HB.out)) hb); clear BK101; clear HB; have BK101 := n0_; have HB := n1_; clear n0_ n1_; (try clear hb); (try clear hb2); (try clear hk); (try clear hi)))
   go_ret
   exact ⟨by first | rfl | (simp [errW_none, errW_some] <;> rfl) | (simp [*, errW_none, errW_some] <;> rfl), by repeat (first | (with_reducible first | exact HB.out | apply below_alloc | apply pw_below_drewN | apply below_drew1 | refine below_set ?_ GE101.out) | exact HB.out)⟩
  ·rw [if_neg c7] at H
   have c7b0 : (a0_1.toList == ([] : List UInt8)) = false := beq_eq_false_iff_ne.mpr c7
   have c7b1 : (a0_1.toList != ([] : List UInt8)) = true := bne_iff_ne.mpr c7
   by_cases c11 : 0 < (a0_1.size : Int)
   ·rw [if_pos c11] at H
    have c11b0 : decide (0 < (a0_1.size : Int)) = true := decide_eq_true c11
    have c11b1 : decide (0 < a0_1.size) = true := decide_eq_true (by omega)
    clear c11
    by_cases c13 : (bt a0_1 0) = 47
    ·rw [if_pos c13] at H
     have c13b0 : ((bt a0_1 0) == 47) = true := beq_iff_eq.mpr c13
     have c13b1 : ((bt a0_1 0) != 47) = false := bne_eq_false_iff_eq.mpr c13
     clear c13
     obtain rfl := Option.some.inj H
     go_enter Tryd.func39, Tryd.ntmps39
     go_wp2_with (first | ((with_reducible refine gate_dst (N := 1) rfl ?_); (try (refine gate_guard (by rfl) ?_; dsimp only)); refine box_event ?hg (N := 1) ?hd (cs := #[.int .i64 a0_0, .string a0_1, .bool a0_2, .bool a0_3]) (t := 24) ?hr ?_; (case hd => rfl); (case hg => rfl); (case hr => first | (go_simp; done) | (go_simp; rfl)); intro gb101 hg w14 hbox hb; have n0_ := Aside0.mk (below_step (by repeat (first | (with_reducible first | exact HB.out | apply below_alloc | apply pw_below_drewN | apply below_drew1) | exact HB.out)) hb); have n1_ := Aside0.mk (hbox); have n2_ := Aside0.mk ((by rw [hg]; exact (below_size (by repeat (first | (with_reducible first | exact HB.out | apply below_alloc | apply pw_below_drewN | apply below_drew1) | exact HB.out))) : w.heap.size ≤ gb101)); have n3_ := Aside0.mk ((by rw [hg]; exact (below_size (by repeat (first | (with_reducible first | exact HB.out | apply below_alloc | apply pw_below_drewN | apply below_drew1) | exact HB.out))) : w.heap.size ≤ gb101)); clear HB; have HB := n0_; have BK101 := n1_; have GW101 := n2_; have GE101 := n3_; clear n0_ n1_ n2_ n3_; clear hb hbox hg; have hcz15_0 : w14.cell? ⟨gb101, 0, none⟩ = some (.int .i64 a0_0) := (blk_cell BK101.out 0).trans rfl; have hcz15_1 : w14.cell? ⟨gb101, 1, none⟩ = some (.string a0_1) := (blk_cell BK101.out 1).trans rfl; have hcz15_2 : w14.cell? ⟨gb101, 2, none⟩ = some (.bool a0_2) := (blk_cell BK101.out 2).trans rfl; have hcz15_3 : w14.cell? ⟨gb101, 3, none⟩ = some (.bool a0_3) := (blk_cell BK101.out 3).trans rfl; have hfz15_0 := blk_frozen BK101.out 0; have hfz15_1 := blk_frozen BK101.out 1; have hfz15_2 := blk_frozen BK101.out 2; have hfz15_3 := blk_frozen BK101.out 3) | ((with_reducible refine gate_callee (f := 55) rfl ?_); refine goesL_ (some 9) rfl rfl Tryd.func55 (by kernel_rfl) rfl #[.int .i64 a0_0] rfl (by (try simp only [List.map_toArray, List.map_cons, List.map_nil]); first | done | rfl | (simp only [List.length_drop, List.length_take]; rfl)) ?_; (with_reducible refine (rules_sign.calls a0_0 t102 _ A2.out).mono ?_); rintro e w16 ⟨rfl, hb⟩; refine ⟨_, rfl, ?_⟩; have n0_ := Aside0.mk (blk_below (g := gb101) (o := .cells #[.int .i64 a0_0, .string a0_1, .bool a0_2, .bool a0_3] 24 (0, 0)) (by (with_reducible repeat (first | refine blk_drewN ?_ _ | refine blk_drew ?_ | refine blk_alloc ?_ _)); exact BK101.out) hb); have n1_ := Aside0.mk (below_step (by repeat (first | (with_reducible first | exact HB.out | apply below_alloc | apply pw_below_drewN | apply below_drew1 | refine below_set ?_ GE101.out) | exact HB.out)) hb); clear BK101; clear HB; have BK101 := n0_; have HB := n1_; clear n0_ n1_; (try clear hb); (try clear hb2); (try clear hk); (try clear hi); have p12 : 0 ≤ (0 : Int) := (by omega); have q12 : 0 < a0_1.size := (by have : (0 : Int) < (a0_1.size : Int) := of_decide_eq_true (by first | (with_reducible assumption) | assumption); omega); have hx12 : ∀ h : 0 < a0_1.size, ((a0_1[0]'h).toNat : Int) = bt a0_1 0 := bt_at a0_1 0; clear p12; have qi12 : (0 < (a0_1.size : Int)) = True := eq_true (of_decide_eq_true (by first | (with_reducible assumption) | assumption)); replace q12 := eq_true q12))
     go_ret
     exact ⟨by first | rfl | (simp [errW_none, errW_some] <;> rfl) | (simp [*, errW_none, errW_some] <;> rfl), by repeat (first | (with_reducible first | exact HB.out | apply below_alloc | apply pw_below_drewN | apply below_drew1 | refine below_set ?_ GE101.out) | exact HB.out)⟩
    ·rw [if_neg c13] at H
     have c13b0 : ((bt a0_1 0) == 47) = false := beq_eq_false_iff_ne.mpr c13
     have c13b1 : ((bt a0_1 0) != 47) = true := bne_iff_ne.mpr c13
     obtain ⟨ji17, hji17⟩ : ∃ j_ : Int, (wrap64 ((a0_1.size : Int) - 1)) = j_ := ⟨_, rfl⟩
     replace H : (if 0 ≤ (ji17) then (if (ji17) < (a0_1.size : Int) then (if (bt a0_1 (ji17)) = 47 then (some 5) else ((strings_Contains.f a0_1 (⟨#[10]⟩ : ByteArray)).bind fun t103 => (if t103 = true then (some 5) else ((glob_Check.f a0_1).bind fun t104 => (some t104))))) else (none)) else (none)) = some r := by first | (rw [hji17] at H; exact H) | (simp only [hji17] at H ⊢; exact H)
     (try rw [hji17] at A2)
     have hji17w : (IntKind.i64.wrap ((a0_1.size : Int) - 1)) = ji17 := (i64_w _).trans hji17
     by_cases c18 : 0 ≤ (ji17)
     ·rw [if_pos c18] at H
      have c18b0 : decide (0 ≤ (ji17)) = true := decide_eq_true c18
      clear c18
      by_cases c19 : (ji17) < (a0_1.size : Int)
      ·rw [if_pos c19] at H
       have c19b0 : decide ((ji17) < (a0_1.size : Int)) = true := decide_eq_true c19
       clear c19
       by_cases c21 : (bt a0_1 (ji17)) = 47
       ·rw [if_pos c21] at H
        have c21b0 : ((bt a0_1 (ji17)) == 47) = true := beq_iff_eq.mpr c21
        have c21b1 : ((bt a0_1 (ji17)) != 47) = false := bne_eq_false_iff_eq.mpr c21
        clear c21
        obtain rfl := Option.some.inj H
        go_enter Tryd.func39, Tryd.ntmps39
        go_wp2_with (first | ((with_reducible refine gate_dst (N := 1) rfl ?_); (try (refine gate_guard (by rfl) ?_; dsimp only)); refine box_event ?hg (N := 1) ?hd (cs := #[.int .i64 a0_0, .string a0_1, .bool a0_2, .bool a0_3]) (t := 24) ?hr ?_; (case hd => rfl); (case hg => rfl); (case hr => first | (go_simp; done) | (go_simp; rfl)); intro gb101 hg w22 hbox hb; have n0_ := Aside0.mk (below_step (by repeat (first | (with_reducible first | exact HB.out | apply below_alloc | apply pw_below_drewN | apply below_drew1) | exact HB.out)) hb); have n1_ := Aside0.mk (hbox); have n2_ := Aside0.mk ((by rw [hg]; exact (below_size (by repeat (first | (with_reducible first | exact HB.out | apply below_alloc | apply pw_below_drewN | apply below_drew1) | exact HB.out))) : w.heap.size ≤ gb101)); have n3_ := Aside0.mk ((by rw [hg]; exact (below_size (by repeat (first | (with_reducible first | exact HB.out | apply below_alloc | apply pw_below_drewN | apply below_drew1) | exact HB.out))) : w.heap.size ≤ gb101)); clear HB; have HB := n0_; have BK101 := n1_; have GW101 := n2_; have GE101 := n3_; clear n0_ n1_ n2_ n3_; clear hb hbox hg; have hcz23_0 : w22.cell? ⟨gb101, 0, none⟩ = some (.int .i64 a0_0) := (blk_cell BK101.out 0).trans rfl; have hcz23_1 : w22.cell? ⟨gb101, 1, none⟩ = some (.string a0_1) := (blk_cell BK101.out 1).trans rfl; have hcz23_2 : w22.cell? ⟨gb101, 2, none⟩ = some (.bool a0_2) := (blk_cell BK101.out 2).trans rfl; have hcz23_3 : w22.cell? ⟨gb101, 3, none⟩ = some (.bool a0_3) := (blk_cell BK101.out 3).trans rfl; have hfz23_0 := blk_frozen BK101.out 0; have hfz23_1 := blk_frozen BK101.out 1; have hfz23_2 := blk_frozen BK101.out 2; have hfz23_3 := blk_frozen BK101.out 3) | ((with_reducible refine gate_callee (f := 55) rfl ?_); refine goesL_ (some 9) rfl rfl Tryd.func55 (by kernel_rfl) rfl #[.int .i64 a0_0] rfl (by (try simp only [List.map_toArray, List.map_cons, List.map_nil]); first | done | rfl | (simp only [List.length_drop, List.length_take]; rfl)) ?_; (with_reducible refine (rules_sign.calls a0_0 t102 _ A2.out).mono ?_); rintro e w24 ⟨rfl, hb⟩; refine ⟨_, rfl, ?_⟩; have n0_ := Aside0.mk (blk_below (g := gb101) (o := .cells #[.int .i64 a0_0, .string a0_1, .bool a0_2, .bool a0_3] 24 (0, 0)) (by (with_reducible repeat (first | refine blk_drewN ?_ _ | refine blk_drew ?_ | refine blk_alloc ?_ _)); exact BK101.out) hb); have n1_ := Aside0.mk (below_step (by repeat (first | (with_reducible first | exact HB.out | apply below_alloc | apply pw_below_drewN | apply below_drew1 | refine below_set ?_ GE101.out) | exact HB.out)) hb); clear BK101; clear HB; have BK101 := n0_; have HB := n1_; clear n0_ n1_; (try clear hb); (try clear hb2); (try clear hk); (try clear hi); have p12 : 0 ≤ (0 : Int) := (by omega); have q12 : 0 < a0_1.size := (by have : (0 : Int) < (a0_1.size : Int) := of_decide_eq_true (by first | (with_reducible assumption) | assumption); omega); have hx12 : ∀ h : 0 < a0_1.size, ((a0_1[0]'h).toNat : Int) = bt a0_1 0 := bt_at a0_1 0; clear p12; have qi12 : (0 < (a0_1.size : Int)) = True := eq_true (of_decide_eq_true (by first | (with_reducible assumption) | assumption)); replace q12 := eq_true q12; have p20 : 0 ≤ ((ji17) : Int) := of_decide_eq_true (by first | (with_reducible assumption) | assumption); have q20 : (ji17) < (a0_1.size : Int) := of_decide_eq_true (by first | (with_reducible assumption) | assumption); have hx20 := bt_at a0_1 (ji17); replace p20 := eq_true p20; replace q20 := eq_true q20))
        go_ret
        exact ⟨by first | rfl | (simp [errW_none, errW_some] <;> rfl) | (simp only [← hji17]; first | rfl | (simp [errW_none, errW_some] <;> rfl)) | (simp [*, errW_none, errW_some] <;> rfl), by repeat (first | (with_reducible first | exact HB.out | apply below_alloc | apply pw_below_drewN | apply below_drew1 | refine below_set ?_ GE101.out) | exact HB.out)⟩
       ·rw [if_neg c21] at H
        have c21b0 : ((bt a0_1 (ji17)) == 47) = false := beq_eq_false_iff_ne.mpr c21
        have c21b1 : ((bt a0_1 (ji17)) != 47) = true := bne_iff_ne.mpr c21
        replace H := Option.bind_eq_some_iff.mp H
        obtain ⟨t103, A250, H⟩ := H
        replace H : (if t103 = true then (some 5) else ((glob_Check.f a0_1).bind fun t104 => (some t104))) = some r := H
        have A25 := Aside0.mk A250
        clear A250
        by_cases c26 : t103 = true
        ·subst c26
         have H1 : (some 5) = some r := by rw [if_pos rfl] at H; exact H
         clear H
         have H := H1
         clear H1
         obtain rfl := Option.some.inj H
         go_enter Tryd.func39, Tryd.ntmps39
         go_wp2_with (first | ((with_reducible refine gate_dst (N := 1) rfl ?_); (try (refine gate_guard (by rfl) ?_; dsimp only)); refine box_event ?hg (N := 1) ?hd (cs := #[.int .i64 a0_0, .string a0_1, .bool a0_2, .bool a0_3]) (t := 24) ?hr ?_; (case hd => rfl); (case hg => rfl); (case hr => first | (go_simp; done) | (go_simp; rfl)); intro gb101 hg w27 hbox hb; have n0_ := Aside0.mk (below_step (by repeat (first | (with_reducible first | exact HB.out | apply below_alloc | apply pw_below_drewN | apply below_drew1) | exact HB.out)) hb); have n1_ := Aside0.mk (hbox); have n2_ := Aside0.mk ((by rw [hg]; exact (below_size (by repeat (first | (with_reducible first | exact HB.out | apply below_alloc | apply pw_below_drewN | apply below_drew1) | exact HB.out))) : w.heap.size ≤ gb101)); have n3_ := Aside0.mk ((by rw [hg]; exact (below_size (by repeat (first | (with_reducible first | exact HB.out | apply below_alloc | apply pw_below_drewN | apply below_drew1) | exact HB.out))) : w.heap.size ≤ gb101)); clear HB; have HB := n0_; have BK101 := n1_; have GW101 := n2_; have GE101 := n3_; clear n0_ n1_ n2_ n3_; clear hb hbox hg; have hcz28_0 : w27.cell? ⟨gb101, 0, none⟩ = some (.int .i64 a0_0) := (blk_cell BK101.out 0).trans rfl; have hcz28_1 : w27.cell? ⟨gb101, 1, none⟩ = some (.string a0_1) := (blk_cell BK101.out 1).trans rfl; have hcz28_2 : w27.cell? ⟨gb101, 2, none⟩ = some (.bool a0_2) := (blk_cell BK101.out 2).trans rfl; have hcz28_3 : w27.cell? ⟨gb101, 3, none⟩ = some (.bool a0_3) := (blk_cell BK101.out 3).trans rfl; have hfz28_0 := blk_frozen BK101.out 0; have hfz28_1 := blk_frozen BK101.out 1; have hfz28_2 := blk_frozen BK101.out 2; have hfz28_3 := blk_frozen BK101.out 3) | ((with_reducible refine gate_callee (f := 55) rfl ?_); refine goesL_ (some 9) rfl rfl Tryd.func55 (by kernel_rfl) rfl #[.int .i64 a0_0] rfl (by (try simp only [List.map_toArray, List.map_cons, List.map_nil]); first | done | rfl | (simp only [List.length_drop, List.length_take]; rfl)) ?_; (with_reducible refine (rules_sign.calls a0_0 t102 _ A2.out).mono ?_); rintro e w29 ⟨rfl, hb⟩; refine ⟨_, rfl, ?_⟩; have n0_ := Aside0.mk (blk_below (g := gb101) (o := .cells #[.int .i64 a0_0, .string a0_1, .bool a0_2, .bool a0_3] 24 (0, 0)) (by (with_reducible repeat (first | refine blk_drewN ?_ _ | refine blk_drew ?_ | refine blk_alloc ?_ _)); exact BK101.out) hb); have n1_ := Aside0.mk (below_step (by repeat (first | (with_reducible first | exact HB.out | apply below_alloc | apply pw_below_drewN | apply below_drew1 | refine below_set ?_ GE101.out) | exact HB.out)) hb); clear BK101; clear HB; have BK101 := n0_; have HB := n1_; clear n0_ n1_; (try clear hb); (try clear hb2); (try clear hk); (try clear hi); have p12 : 0 ≤ (0 : Int) := (by omega); have q12 : 0 < a0_1.size := (by have : (0 : Int) < (a0_1.size : Int) := of_decide_eq_true (by first | (with_reducible assumption) | assumption); omega); have hx12 : ∀ h : 0 < a0_1.size, ((a0_1[0]'h).toNat : Int) = bt a0_1 0 := bt_at a0_1 0; clear p12; have qi12 : (0 < (a0_1.size : Int)) = True := eq_true (of_decide_eq_true (by first | (with_reducible assumption) | assumption)); replace q12 := eq_true q12; have p20 : 0 ≤ ((ji17) : Int) := of_decide_eq_true (by first | (with_reducible assumption) | assumption); have q20 : (ji17) < (a0_1.size : Int) := of_decide_eq_true (by first | (with_reducible assumption) | assumption); have hx20 := bt_at a0_1 (ji17); replace p20 := eq_true p20; replace q20 := eq_true q20) | (go_at_call 43; (with_reducible refine (strings_Contains.calls a0_1 (⟨#[10]⟩ : ByteArray) true _ A25.out).mono ?_); rintro e w' ⟨rfl, ⟨nd, rfl⟩⟩))
         go_ret
         exact ⟨by first | rfl | (simp [errW_none, errW_some] <;> rfl) | (simp only [← hji17]; first | rfl | (simp [errW_none, errW_some] <;> rfl)) | (simp [*, errW_none, errW_some] <;> rfl), by repeat (first | (with_reducible first | exact HB.out | apply below_alloc | apply pw_below_drewN | apply below_drew1 | refine below_set ?_ GE101.out) | exact HB.out)⟩
        ·replace c26 := Bool.eq_false_iff.mpr c26
         subst c26
         have H1 : ((glob_Check.f a0_1).bind fun t104 => (some t104)) = some r := by rw [if_neg (show ¬ (false = true) by decide)] at H; exact H
         clear H
         have H := H1
         clear H1
         replace H := Option.bind_eq_some_iff.mp H
         obtain ⟨t104, A300, H⟩ := H
         replace H : (some t104) = some r := H
         have A30 := Aside0.mk A300
         clear A300
         obtain rfl := Option.some.inj H
         go_enter Tryd.func39, Tryd.ntmps39
         go_wp2_with (first | ((with_reducible refine gate_dst (N := 1) rfl ?_); (try (refine gate_guard (by rfl) ?_; dsimp only)); refine box_event ?hg (N := 1) ?hd (cs := #[.int .i64 a0_0, .string a0_1, .bool a0_2, .bool a0_3]) (t := 24) ?hr ?_; (case hd => rfl); (case hg => rfl); (case hr => first | (go_simp; done) | (go_simp; rfl)); intro gb101 hg w31 hbox hb; have n0_ := Aside0.mk (below_step (by repeat (first | (with_reducible first | exact HB.out | apply below_alloc | apply pw_below_drewN | apply below_drew1) | exact HB.out)) hb); have n1_ := Aside0.mk (hbox); have n2_ := Aside0.mk ((by rw [hg]; exact (below_size (by repeat (first | (with_reducible first | exact HB.out | apply below_alloc | apply pw_below_drewN | apply below_drew1) | exact HB.out))) : w.heap.size ≤ gb101)); have n3_ := Aside0.mk ((by rw [hg]; exact (below_size (by repeat (first | (with_reducible first | exact HB.out | apply below_alloc | apply pw_below_drewN | apply below_drew1) | exact HB.out))) : w.heap.size ≤ gb101)); clear HB; have HB := n0_; have BK101 := n1_; have GW101 := n2_; have GE101 := n3_; clear n0_ n1_ n2_ n3_; clear hb hbox hg; have hcz32_0 : w31.cell? ⟨gb101, 0, none⟩ = some (.int .i64 a0_0) := (blk_cell BK101.out 0).trans rfl; have hcz32_1 : w31.cell? ⟨gb101, 1, none⟩ = some (.string a0_1) := (blk_cell BK101.out 1).trans rfl; have hcz32_2 : w31.cell? ⟨gb101, 2, none⟩ = some (.bool a0_2) := (blk_cell BK101.out 2).trans rfl; have hcz32_3 : w31.cell? ⟨gb101, 3, none⟩ = some (.bool a0_3) := (blk_cell BK101.out 3).trans rfl; have hfz32_0 := blk_frozen BK101.out 0; have hfz32_1 := blk_frozen BK101.out 1; have hfz32_2 := blk_frozen BK101.out 2; have hfz32_3 := blk_frozen BK101.out 3) | ((with_reducible refine gate_callee (f := 55) rfl ?_); refine goesL_ (some 9) rfl rfl Tryd.func55 (by kernel_rfl) rfl #[.int .i64 a0_0] rfl (by (try simp only [List.map_toArray, List.map_cons, List.map_nil]); first | done | rfl | (simp only [List.length_drop, List.length_take]; rfl)) ?_; (with_reducible refine (rules_sign.calls a0_0 t102 _ A2.out).mono ?_); rintro e w33 ⟨rfl, hb⟩; refine ⟨_, rfl, ?_⟩; have n0_ := Aside0.mk (blk_below (g := gb101) (o := .cells #[.int .i64 a0_0, .string a0_1, .bool a0_2, .bool a0_3] 24 (0, 0)) (by (with_reducible repeat (first | refine blk_drewN ?_ _ | refine blk_drew ?_ | refine blk_alloc ?_ _)); exact BK101.out) hb); have n1_ := Aside0.mk (below_step (by repeat (first | (with_reducible first | exact HB.out | apply below_alloc | apply pw_below_drewN | apply below_drew1 | refine below_set ?_ GE101.out) | exact HB.out)) hb); clear BK101; clear HB; have BK101 := n0_; have HB := n1_; clear n0_ n1_; (try clear hb); (try clear hb2); (try clear hk); (try clear hi); have p12 : 0 ≤ (0 : Int) := (by omega); have q12 : 0 < a0_1.size := (by have : (0 : Int) < (a0_1.size : Int) := of_decide_eq_true (by first | (with_reducible assumption) | assumption); omega); have hx12 : ∀ h : 0 < a0_1.size, ((a0_1[0]'h).toNat : Int) = bt a0_1 0 := bt_at a0_1 0; clear p12; have qi12 : (0 < (a0_1.size : Int)) = True := eq_true (of_decide_eq_true (by first | (with_reducible assumption) | assumption)); replace q12 := eq_true q12; have p20 : 0 ≤ ((ji17) : Int) := of_decide_eq_true (by first | (with_reducible assumption) | assumption); have q20 : (ji17) < (a0_1.size : Int) := of_decide_eq_true (by first | (with_reducible assumption) | assumption); have hx20 := bt_at a0_1 (ji17); replace p20 := eq_true p20; replace q20 := eq_true q20) | (go_at_call 43; (with_reducible refine (strings_Contains.calls a0_1 (⟨#[10]⟩ : ByteArray) false _ A25.out).mono ?_); rintro e w' ⟨rfl, ⟨nd, rfl⟩⟩) | ((with_reducible refine gate_callee (f := 59) rfl ?_); refine goesL_ (some 32) rfl rfl Tryd.func59 (by kernel_rfl) rfl #[.string a0_1] rfl (by (try simp only [List.map_toArray, List.map_cons, List.map_nil]); first | done | rfl | (simp only [List.length_drop, List.length_take]; rfl)) ?_; (with_reducible refine (glob_Check.calls a0_1 t104 _ A30.out).mono ?_); rintro e w34 ⟨rfl, hb⟩; refine ⟨_, rfl, ?_⟩; have n0_ := Aside0.mk (blk_below (g := gb101) (o := .cells #[.int .i64 a0_0, .string a0_1, .bool a0_2, .bool a0_3] 24 (0, 0)) (by (with_reducible repeat (first | refine blk_drewN ?_ _ | refine blk_drew ?_ | refine blk_alloc ?_ _)); exact BK101.out) hb); have n1_ := Aside0.mk (below_step (by repeat (first | (with_reducible first | exact HB.out | apply below_alloc | apply pw_below_drewN | apply below_drew1 | refine below_set ?_ GE101.out) | exact HB.out)) hb); clear BK101; clear HB; have BK101 := n0_; have HB := n1_; clear n0_ n1_; (try clear hb); (try clear hb2); (try clear hk); (try clear hi)))
         go_ret
         exact ⟨by first | rfl | (simp [errW_none, errW_some] <;> rfl) | (simp only [← hji17]; first | rfl | (simp [errW_none, errW_some] <;> rfl)) | (simp [*, errW_none, errW_some] <;> rfl), by repeat (first | (with_reducible first | exact HB.out | apply below_alloc | apply pw_below_drewN | apply below_drew1 | refine below_set ?_ GE101.out) | exact HB.out)⟩
      ·rw [if_neg c19] at H
       exact absurd H (by simp)
     ·rw [if_neg c18] at H
      exact absurd H (by simp)
   ·rw [if_neg c11] at H
    exact absurd H (by simp)
end Go.Proofs.YtioehkeocddniaaDoor.PA
namespace Go.Proofs.YtioehkeocddniaaDoor.PA
open Go.RowKit Go.Proofs.YtioehkeocddniaaDoorW.PrintWords Go.Proofs.YtioehkeocddniaaDoorW.PrintLast Go.Proofs.YtioehkeocddniaaDoorW.PrintMore
attribute [local go_sem] max2_int min2_int max_two min_two max_three min_three max_four min_four
set_option linter.unusedVariables false
set_option linter.unusedSimpArgs false
open Go.Shelf
def Tryd.lays103_ren : Go.Shelf.Ren := ⟨fun | 103 => 37 | 210 => 57 | 206 => 72 | n => n, fun | 9 => 9 | 4 => 4 | 24 => 50 | 3 => 3 | n => n, fun | n => n⟩
theorem Tryd.lays103 : Go.Proofs.Lays.n103 Tryd.prog Tryd.lays103_ren := {
 mixed := by kernel_rfl
 f103 := Tryd.func37.trans (congrArg some (by kernel_rfl))
 f206 := Tryd.func72.trans (congrArg some (by kernel_rfl))
 f210 := Tryd.func57.trans (congrArg some (by kernel_rfl))
 t3 := Tryd.underlying3
 a3 := Tryd.isAgg3
 z3 := Tryd.sizeOf3
 v3 := Tryd.zeroValue3
 t4 := Tryd.underlying4
 a4 := Tryd.isAgg4
 z4 := Tryd.sizeOf4
 v4 := Tryd.zeroValue4
 t9 := Tryd.underlying9
 a9 := Tryd.isAgg9
 z9 := Tryd.sizeOf9
 v9 := Tryd.zeroValue9
 t24 := Tryd.underlying50
 a24 := Tryd.isAgg50
 z24 := Tryd.sizeOf50
 v24 := Tryd.zeroValue50 }
open Go.RowKit in
theorem Tryd.strings_CutPrefix (s p : ByteArray) (w : World) :
  Calls Tryd.prog 37 #[.string s, .string p] w fun e w' => e = .returned (.tuple #[.string ⟨(Lib.trimPrefix s.data.toList p.data.toList).toArray⟩, .bool (Lib.hasPrefix s.data.toList p.data.toList)]) ∧ w' = w := Any.strings_CutPrefix Tryd.lays103 s p w
def cutPre (s p : ByteArray) : ByteArray := ⟨(Lib.trimPrefix s.data.toList p.data.toList).toArray⟩
def strings_CutPrefix.f (a0 a1 : ByteArray) : Option (ByteArray × Bool) := some (cutPre a0 a1, Lib.hasPrefix a0.data.toList a1.data.toList)
end Go.Proofs.YtioehkeocddniaaDoor.PA
namespace Go.Proofs.YtioehkeocddniaaDoor.PA
open Go.RowKit Go.Proofs.YtioehkeocddniaaDoorW.PrintWords Go.Proofs.YtioehkeocddniaaDoorW.PrintLast Go.Proofs.YtioehkeocddniaaDoorW.PrintMore
attribute [local go_sem] max2_int min2_int max_two min_two max_three min_three max_four min_four
set_option linter.unusedVariables false
set_option linter.unusedSimpArgs false
open Go.Shelf
def Tryd.lays104_ren : Go.Shelf.Ren := ⟨fun | 104 => 38 | 211 => 58 | 207 => 73 | n => n, fun | 9 => 9 | 4 => 4 | 24 => 50 | 3 => 3 | n => n, fun | n => n⟩
theorem Tryd.lays104 : Go.Proofs.Lays.n104 Tryd.prog Tryd.lays104_ren := {
 mixed := by kernel_rfl
 f104 := Tryd.func38.trans (congrArg some (by kernel_rfl))
 f207 := Tryd.func73.trans (congrArg some (by kernel_rfl))
 f211 := Tryd.func58.trans (congrArg some (by kernel_rfl))
 t3 := Tryd.underlying3
 a3 := Tryd.isAgg3
 z3 := Tryd.sizeOf3
 v3 := Tryd.zeroValue3
 t4 := Tryd.underlying4
 a4 := Tryd.isAgg4
 z4 := Tryd.sizeOf4
 v4 := Tryd.zeroValue4
 t9 := Tryd.underlying9
 a9 := Tryd.isAgg9
 z9 := Tryd.sizeOf9
 v9 := Tryd.zeroValue9
 t24 := Tryd.underlying50
 a24 := Tryd.isAgg50
 z24 := Tryd.sizeOf50
 v24 := Tryd.zeroValue50 }
open Go.RowKit in
theorem Tryd.strings_CutSuffix (s p : ByteArray) (w : World) (hs : s.size ≤ 9223372036854775807) :
  Calls Tryd.prog 38 #[.string s, .string p] w fun e w' => e = .returned (.tuple #[.string ⟨(Lib.trimSuffix s.data.toList p.data.toList).toArray⟩, .bool (Lib.hasSuffix s.data.toList p.data.toList)]) ∧ w' = w := Any.strings_CutSuffix Tryd.lays104 s p w hs
def cutSuf (s p : ByteArray) : ByteArray := ⟨(Lib.trimSuffix s.data.toList p.data.toList).toArray⟩
def strings_CutSuffix.f (a0 a1 : ByteArray) : Option (ByteArray × Bool) := if a0.size ≤ 9223372036854775807 then some (cutSuf a0 a1, Lib.hasSuffix a0.data.toList a1.data.toList) else none
end Go.Proofs.YtioehkeocddniaaDoor.PA
namespace Go.Proofs.YtioehkeocddniaaDoor.PA
open Go.RowKit Go.Proofs.YtioehkeocddniaaDoorW.PrintWords Go.Proofs.YtioehkeocddniaaDoorW.PrintLast Go.Proofs.YtioehkeocddniaaDoorW.PrintMore
attribute [local go_sem] max2_int min2_int max_two min_two max_three min_three max_four min_four
set_option linter.unusedVariables false
set_option linter.unusedSimpArgs false
def rules_Parse.f (a0 : ByteArray) : Option (Int × ByteArray × Bool × Bool × Int) :=
 if a0.size < 1000000 then
  if a0.size < 2 then some (nilR 5) else
  (rules_act.f 20 (bt a0 0)).bind fun a => if a = 0 ∨ bt a0 1 ≠ 32 then some (nilR 5) else
  (strings_CutPrefix.f (a0.extract 2 a0.size) ⟨#[47]⟩).bind fun b => (strings_CutSuffix.f b.1 ⟨#[47]⟩).bind fun d =>
  (rules_check.f a d.1 d.2 b.2).bind fun e => if e = 0 then some (a, d.1, d.2, b.2, 0) else some (nilR e)
 else none
set_option maxHeartbeats 8000000 in
set_option maxRecDepth 100000 in
theorem rules_parse_walk (a0 : ByteArray) (w : World) (hs : a0.size < 1000000) (c0 c1 : Int) (hb0 : 0 < a0.size) (hb1 : 1 < a0.size) (hc0 : ((a0[0]'hb0).toNat : Int) = c0) (hc1 : ((a0[1]'hb1).toNat : Int) = c1) (h32 : c1 = 32)
  (a : Int) (hact : ∀ w, Calls Tryd.prog 36 #[.int .u8 c0] w fun e w' => e = .returned (.int .i64 a) ∧ Below w.heap.size w w') (ha : a ≠ 0) (p1 : ByteArray) (an : Bool)
  (hpre : ∀ w, Calls Tryd.prog 37 #[.string (a0.extract 2 a0.size), .string (⟨#[47]⟩ : ByteArray)] w fun e w' => e = .returned (.tuple #[.string p1, .bool an]) ∧ w' = w) (p2 : ByteArray) (d : Bool)
  (hsuf : ∀ w, Calls Tryd.prog 38 #[.string p1, .string (⟨#[47]⟩ : ByteArray)] w fun e w' => e = .returned (.tuple #[.string p2, .bool d]) ∧ w' = w) (er : Int)
  (hck : ∀ w, Calls Tryd.prog 39 #[.agg (rR a p2 d an)] w fun e w' => e = .returned (.int .i64 er) ∧ Below w.heap.size w w') :
  Calls Tryd.prog 11 #[.string a0] w fun e w' => e = .returned (if er = 0 then .tuple #[.agg (rR a p2 d an), .int .i64 0] else .tuple #[.agg zR, .int .i64 er]) ∧ Below w.heap.size w w' := by
 have hu1 := Tryd.underlying24
 have HD := Aside0.mk (B1.start 24 w zR)
 have l1 : ((a0.size : Int) < 2) = False := eq_false (by omega)
 have l2 : (a0.size < 2) = False := eq_false (by omega)
 have l3 : ((0 : Int) < (a0.size : Int)) = True := eq_true (by omega)
 have l4 : (0 < a0.size) = True := eq_true hb0
 have l5 : ((1 : Int) < (a0.size : Int)) = True := eq_true (by omega)
 have l6 : (1 < a0.size) = True := eq_true hb1
 have l7 : ((2 : Int) ≤ (a0.size : Int)) = True := eq_true (by omega)
 have l8 : (2 ≤ a0.size) = True := eq_true hb1
 have q0 : (a == 0) = false := beq_eq_false_iff_ne.2 ha
 subst h32
 by_cases hz : er = 0
 ·subst hz
  rw [if_pos rfl]
  go_enter Tryd.func11, Tryd.ntmps11
  go_wp2_with (first | (go_at_call 36; (with_reducible refine (hact _).mono ?_); rintro e w2 ⟨rfl, hb⟩; have n0_ := Aside0.mk (B1.step HD.out hb); clear HD hb; have HD := n0_; clear n0_) | ((with_reducible refine gate_store (t := 24) (p := 4) rfl ?_); refine store_event rfl rfl rfl (store_runR _ _ 24 zR (rR a ⟨#[]⟩ false false) (RB.of HD.out).box (.tmp 4) (.tmp 24) rfl rfl rfl (by kernel_rfl) rfl (rR_one _ _ _ _)) ?_; intro w8 hw8; have HP := Aside0.mk (show RB w w8 _ (rR a ⟨#[]⟩ false false) from by rw [hw8]; exact RB.row_ (RB.of HD.out) (rR a ⟨#[]⟩ false false)); clear hw8 HD) | (go_at_call 37; (with_reducible refine (hpre _).mono ?_); rintro e w3 ⟨rfl, rfl⟩) | ((with_reducible refine gate_store (t := 9) (p := 31) rfl ?_); refine store_event rfl rfl rfl (store_cellR _ HP.out.box 1 9 (.string p1) (.tmp 31) (.tmp 29) rfl rfl rfl (by kernel_rfl) (show 1 < 4 by decide) rfl) ?_; intro w8 hw8; have n0_ := Aside0.mk (show RB w w8 w2.heap.size (rR a p1 false false) from by rw [hw8]; exact RB.put HP.out 1 _ _ rfl); clear hw8 HP; have HP := n0_; clear n0_) | ((with_reducible refine gate_store (t := 4) (p := 32) rfl ?_); refine store_event rfl rfl rfl (store_cellR _ HP.out.box 3 4 (.bool an) (.tmp 32) (.tmp 30) rfl rfl rfl (by kernel_rfl) (show 3 < 4 by decide) rfl) ?_; intro w8 hw8; have n0_ := Aside0.mk (show RB w w8 w2.heap.size (rR a p1 false an) from by rw [hw8]; exact RB.put HP.out 3 _ _ rfl); clear hw8 HP; have HP := n0_; clear n0_; have hk1 := blk_cell HP.out.box 1; change _ = some (Value.string p1) at hk1) | (go_at_call 38; (with_reducible refine (hsuf _).mono ?_); rintro e w3 ⟨rfl, rfl⟩; clear hk1) | ((with_reducible refine gate_store (t := 9) (p := 39) rfl ?_); refine store_event rfl rfl rfl (store_cellR _ HP.out.box 1 9 (.string p2) (.tmp 39) (.tmp 37) rfl rfl rfl (by kernel_rfl) (show 1 < 4 by decide) rfl) ?_; intro w8 hw8; have n0_ := Aside0.mk (show RB w w8 w2.heap.size (rR a p2 false an) from by rw [hw8]; exact RB.put HP.out 1 _ _ rfl); clear hw8 HP; have HP := n0_; clear n0_) | ((with_reducible refine gate_store (t := 4) (p := 40) rfl ?_); refine store_event rfl rfl rfl (store_cellR _ HP.out.box 2 4 (.bool d) (.tmp 40) (.tmp 38) rfl rfl rfl (by kernel_rfl) (show 2 < 4 by decide) rfl) ?_; intro w8 hw8; have n0_ := Aside0.mk (show RB w w8 w2.heap.size (rR a p2 d an) from by rw [hw8]; exact RB.put HP.out 2 _ _ rfl); clear hw8 HP; have HP := n0_; clear n0_) | ((with_reducible refine gate_dst (N := 41) rfl ?_); refine wpList_load_row rfl 24 (.tmp 4) rfl _ rfl 24 (rR a p2 d an) (0, 0) _ HP.out.box hu1 rfl (by kernel_rfl) ?_) | (go_at_call 39; (with_reducible refine (hck _).mono ?_); rintro e w4 ⟨rfl, hb⟩; have n0_ := Aside0.mk (RB.step HP.out hb); clear HP hb; have HP := n0_; clear n0_) | ((with_reducible refine gate_dst (N := 47) rfl ?_); refine wpList_load_row rfl 24 (.tmp 4) rfl _ rfl 24 (rR a p2 d an) (0, 0) _ HP.out.box hu1 rfl (by kernel_rfl) ?_) | ((with_reducible refine gate_store (t := 24) (p := 2) rfl ?_); refine wpList_store_rowTo rfl 24 (.tmp 2) (.tmp 47) rfl rfl w.heap.size (rR a p2 d an) rfl rfl 24 zR HP.out.res (by kernel_rfl) rfl (rR_one _ _ _ _) ?_))
  refine bodyPost_ret (results_ct rfl _ _ w.heap.size 24 (rR a p2 d an) (0, 0) _ rfl (setRow_heap _ _ zR _ 24 (0, 0) HP.out.res) hu1 rfl (by kernel_rfl)) rfl ?_
  exact ⟨rfl, below_setRow HP.out.below (Nat.le_refl _) _⟩
 ·rw [if_neg hz]
  have q1 : (er != 0) = true := bne_iff_ne.2 hz
  go_enter Tryd.func11, Tryd.ntmps11
  go_wp2_with (first | (go_at_call 36; (with_reducible refine (hact _).mono ?_); rintro e w2 ⟨rfl, hb⟩; have n0_ := Aside0.mk (B1.step HD.out hb); clear HD hb; have HD := n0_; clear n0_) | ((with_reducible refine gate_store (t := 24) (p := 4) rfl ?_); refine store_event rfl rfl rfl (store_runR _ _ 24 zR (rR a ⟨#[]⟩ false false) (RB.of HD.out).box (.tmp 4) (.tmp 24) rfl rfl rfl (by kernel_rfl) rfl (rR_one _ _ _ _)) ?_; intro w8 hw8; have HP := Aside0.mk (show RB w w8 _ (rR a ⟨#[]⟩ false false) from by rw [hw8]; exact RB.row_ (RB.of HD.out) (rR a ⟨#[]⟩ false false)); clear hw8 HD) | (go_at_call 37; (with_reducible refine (hpre _).mono ?_); rintro e w3 ⟨rfl, rfl⟩) | ((with_reducible refine gate_store (t := 9) (p := 31) rfl ?_); refine store_event rfl rfl rfl (store_cellR _ HP.out.box 1 9 (.string p1) (.tmp 31) (.tmp 29) rfl rfl rfl (by kernel_rfl) (show 1 < 4 by decide) rfl) ?_; intro w8 hw8; have n0_ := Aside0.mk (show RB w w8 w2.heap.size (rR a p1 false false) from by rw [hw8]; exact RB.put HP.out 1 _ _ rfl); clear hw8 HP; have HP := n0_; clear n0_) | ((with_reducible refine gate_store (t := 4) (p := 32) rfl ?_); refine store_event rfl rfl rfl (store_cellR _ HP.out.box 3 4 (.bool an) (.tmp 32) (.tmp 30) rfl rfl rfl (by kernel_rfl) (show 3 < 4 by decide) rfl) ?_; intro w8 hw8; have n0_ := Aside0.mk (show RB w w8 w2.heap.size (rR a p1 false an) from by rw [hw8]; exact RB.put HP.out 3 _ _ rfl); clear hw8 HP; have HP := n0_; clear n0_; have hk1 := blk_cell HP.out.box 1; change _ = some (Value.string p1) at hk1) | (go_at_call 38; (with_reducible refine (hsuf _).mono ?_); rintro e w3 ⟨rfl, rfl⟩; clear hk1) | ((with_reducible refine gate_store (t := 9) (p := 39) rfl ?_); refine store_event rfl rfl rfl (store_cellR _ HP.out.box 1 9 (.string p2) (.tmp 39) (.tmp 37) rfl rfl rfl (by kernel_rfl) (show 1 < 4 by decide) rfl) ?_; intro w8 hw8; have n0_ := Aside0.mk (show RB w w8 w2.heap.size (rR a p2 false an) from by rw [hw8]; exact RB.put HP.out 1 _ _ rfl); clear hw8 HP; have HP := n0_; clear n0_) | ((with_reducible refine gate_store (t := 4) (p := 40) rfl ?_); refine store_event rfl rfl rfl (store_cellR _ HP.out.box 2 4 (.bool d) (.tmp 40) (.tmp 38) rfl rfl rfl (by kernel_rfl) (show 2 < 4 by decide) rfl) ?_; intro w8 hw8; have n0_ := Aside0.mk (show RB w w8 w2.heap.size (rR a p2 d an) from by rw [hw8]; exact RB.put HP.out 2 _ _ rfl); clear hw8 HP; have HP := n0_; clear n0_) | ((with_reducible refine gate_dst (N := 41) rfl ?_); refine wpList_load_row rfl 24 (.tmp 4) rfl _ rfl 24 (rR a p2 d an) (0, 0) _ HP.out.box hu1 rfl (by kernel_rfl) ?_) | (go_at_call 39; (with_reducible refine (hck _).mono ?_); rintro e w4 ⟨rfl, hb⟩; have n0_ := Aside0.mk (RB.step HP.out hb); clear HP hb; have HP := n0_; clear n0_) | ((with_reducible refine gate_store (t := 24) (p := 2) rfl ?_); refine wpList_store_rowTo rfl 24 (.tmp 2) (.tmp 45) rfl rfl w.heap.size zR rfl rfl 24 zR HP.out.res (by kernel_rfl) rfl (rR_one _ _ _ _) ?_))
  refine bodyPost_ret (results_ct rfl _ _ w.heap.size 24 zR (0, 0) _ rfl (setRow_heap _ _ zR _ 24 (0, 0) HP.out.res) hu1 rfl (by kernel_rfl)) rfl ?_
  exact ⟨rfl, below_setRow HP.out.below (Nat.le_refl _) _⟩
set_option maxHeartbeats 8000000 in
set_option maxRecDepth 100000 in
theorem rules_parse_bad0 (a0 : ByteArray) (w : World) (hs : a0.size < 2) : Calls Tryd.prog 11 #[.string a0] w fun e w' => e = .returned (.tuple #[.agg zR, .int .i64 5]) ∧ Below w.heap.size w w' := by
 have hu1 := Tryd.underlying24
 have HD := Aside0.mk (B1.start 24 w zR)
 have l1 : ((a0.size : Int) < 2) = True := eq_true (by omega)
 have l2 : (a0.size < 2) = True := eq_true hs
 go_enter Tryd.func11, Tryd.ntmps11
 go_wp2_with (first | ((with_reducible refine gate_store (t := 24) (p := 2) rfl ?_); refine wpList_store_rowTo rfl 24 (.tmp 2) (.tmp 20) rfl rfl w.heap.size zR rfl rfl 24 zR HD.out.2 (by kernel_rfl) rfl (rR_one _ _ _ _) ?_))
 refine bodyPost_ret (results_ct rfl _ _ w.heap.size 24 zR (0, 0) _ rfl (setRow_heap _ _ zR _ 24 (0, 0) HD.out.2) hu1 rfl (by kernel_rfl)) rfl ?_
 exact ⟨rfl, below_setRow HD.out.1 (Nat.le_refl _) _⟩
set_option maxHeartbeats 8000000 in
set_option maxRecDepth 100000 in
theorem rules_parse_bad1 (a0 : ByteArray) (w : World) (hs : a0.size < 1000000) (c0 : Int) (hb0 : 0 < a0.size) (hb1 : 1 < a0.size) (hc0 : ((a0[0]'hb0).toNat : Int) = c0)
  (hact : ∀ w, Calls Tryd.prog 36 #[.int .u8 c0] w fun e w' => e = .returned (.int .i64 0) ∧ Below w.heap.size w w') : Calls Tryd.prog 11 #[.string a0] w fun e w' => e = .returned (.tuple #[.agg zR, .int .i64 5]) ∧ Below w.heap.size w w' := by
 have hu1 := Tryd.underlying24
 have HD := Aside0.mk (B1.start 24 w zR)
 have l1 : ((a0.size : Int) < 2) = False := eq_false (by omega)
 have l2 : (a0.size < 2) = False := eq_false (by omega)
 have l3 : ((0 : Int) < (a0.size : Int)) = True := eq_true (by omega)
 have l4 : (0 < a0.size) = True := eq_true hb0
 go_enter Tryd.func11, Tryd.ntmps11
 go_wp2_with (first | (go_at_call 36; (with_reducible refine (hact _).mono ?_); rintro e w2 ⟨rfl, hb⟩; have n0_ := Aside0.mk (B1.step HD.out hb); clear HD hb; have HD := n0_; clear n0_) | ((with_reducible refine gate_store (t := 24) (p := 2) rfl ?_); refine wpList_store_rowTo rfl 24 (.tmp 2) (.tmp 20) rfl rfl w.heap.size zR rfl rfl 24 zR HD.out.2 (by kernel_rfl) rfl (rR_one _ _ _ _) ?_))
 refine bodyPost_ret (results_ct rfl _ _ w.heap.size 24 zR (0, 0) _ rfl (setRow_heap _ _ zR _ 24 (0, 0) HD.out.2) hu1 rfl (by kernel_rfl)) rfl ?_
 exact ⟨rfl, below_setRow HD.out.1 (Nat.le_refl _) _⟩
set_option maxHeartbeats 8000000 in
set_option maxRecDepth 100000 in
theorem rules_parse_bad2 (a0 : ByteArray) (w : World) (hs : a0.size < 1000000) (c0 c1 : Int) (hb0 : 0 < a0.size) (hb1 : 1 < a0.size) (hc0 : ((a0[0]'hb0).toNat : Int) = c0) (hc1 : ((a0[1]'hb1).toNat : Int) = c1) (h32 : c1 ≠ 32)
  (a : Int) (hact : ∀ w, Calls Tryd.prog 36 #[.int .u8 c0] w fun e w' => e = .returned (.int .i64 a) ∧ Below w.heap.size w w') (ha : a ≠ 0) : Calls Tryd.prog 11 #[.string a0] w fun e w' => e = .returned (.tuple #[.agg zR, .int .i64 5]) ∧ Below w.heap.size w w' := by
 have hu1 := Tryd.underlying24
 have HD := Aside0.mk (B1.start 24 w zR)
 have l1 : ((a0.size : Int) < 2) = False := eq_false (by omega)
 have l2 : (a0.size < 2) = False := eq_false (by omega)
 have l3 : ((0 : Int) < (a0.size : Int)) = True := eq_true (by omega)
 have l4 : (0 < a0.size) = True := eq_true hb0
 have l5 : ((1 : Int) < (a0.size : Int)) = True := eq_true (by omega)
 have l6 : (1 < a0.size) = True := eq_true hb1
 have q0 : (a == 0) = false := beq_eq_false_iff_ne.2 ha
 have q1 : (c1 == 32) = false := beq_eq_false_iff_ne.2 h32
 go_enter Tryd.func11, Tryd.ntmps11
 go_wp2_with (first | (go_at_call 36; (with_reducible refine (hact _).mono ?_); rintro e w2 ⟨rfl, hb⟩; have n0_ := Aside0.mk (B1.step HD.out hb); clear HD hb; have HD := n0_; clear n0_) | ((with_reducible refine gate_store (t := 24) (p := 2) rfl ?_); refine wpList_store_rowTo rfl 24 (.tmp 2) (.tmp 20) rfl rfl w.heap.size zR rfl rfl 24 zR HD.out.2 (by kernel_rfl) rfl (rR_one _ _ _ _) ?_))
 refine bodyPost_ret (results_ct rfl _ _ w.heap.size 24 zR (0, 0) _ rfl (setRow_heap _ _ zR _ 24 (0, 0) HD.out.2) hu1 rfl (by kernel_rfl)) rfl ?_
 exact ⟨rfl, below_setRow HD.out.1 (Nat.le_refl _) _⟩
theorem rules_Parse.calls (a0 : ByteArray) (r1 : Int) (r2 : ByteArray) (r3 : Bool) (r4 : Bool) (r5 : Int) (w : World) (h : rules_Parse.f a0 = some (r1, r2, r3, r4, r5)) :
  Calls Tryd.prog 11 #[.string a0] w fun e w' => e = .returned (.tuple #[.agg #[.int .i64 r1, .string r2, .bool r3, .bool r4], .int .i64 r5]) ∧ Below w.heap.size w w' := by
 unfold rules_Parse.f at h
 have nil : ∀ e : Int, some (nilR e) = some (r1, r2, r3, r4, r5) → (Value.tuple #[.agg zR, .int .i64 e]) = .tuple #[.agg #[.int .i64 r1, .string r2, .bool r3, .bool r4], .int .i64 r5] := fun e he => by
  have := Option.some.inj he
  simp only [nilR, Prod.mk.injEq] at this
  obtain ⟨rfl, rfl, rfl, rfl, rfl⟩ := this
  rfl
 by_cases hs : a0.size < 1000000
 ·rw [if_pos hs] at h
  by_cases h2 : a0.size < 2
  ·rw [if_pos h2] at h
   rw [← nil 5 h]
   exact rules_parse_bad0 a0 w h2
  ·rw [if_neg h2] at h
   obtain ⟨a, hA, h⟩ := Option.bind_eq_some_iff.1 h
   have hact := fun w => rules_act.calls 20 (bt a0 0) a w hA
   have e0 : ((a0[0]'(by omega)).toNat : Int) = bt a0 0 := bt_at a0 0 _
   have e1 : ((a0[1]'(by omega)).toNat : Int) = bt a0 1 := bt_at a0 1 _
   by_cases ha : a = 0
   ·subst ha
    rw [if_pos (.inl rfl)] at h
    rw [← nil 5 h]
    exact rules_parse_bad1 a0 w hs _ (by omega) (by omega) e0 hact
   ·by_cases h32 : bt a0 1 = 32
    ·rw [if_neg (fun h => h.elim ha (fun h => h h32))] at h
     obtain ⟨⟨p1, an⟩, hB, h⟩ := Option.bind_eq_some_iff.1 h
     obtain ⟨⟨p2, d⟩, hD, h⟩ := Option.bind_eq_some_iff.1 h
     obtain ⟨er, hE, h⟩ := Option.bind_eq_some_iff.1 h
     have hpre : ∀ w, Calls Tryd.prog 37 #[.string (a0.extract 2 a0.size), .string (⟨#[47]⟩ : ByteArray)] w fun e w' => e = .returned (.tuple #[.string p1, .bool an]) ∧ w' = w := fun w => by
      obtain ⟨rfl, rfl⟩ := Prod.mk.inj (Option.some.inj hB)
      exact Tryd.strings_CutPrefix _ _ w
     have hsuf : ∀ w, Calls Tryd.prog 38 #[.string p1, .string (⟨#[47]⟩ : ByteArray)] w fun e w' => e = .returned (.tuple #[.string p2, .bool d]) ∧ w' = w := fun w => by
      unfold strings_CutSuffix.f at hD
      split at hD
      ·rename_i hs
       obtain ⟨rfl, rfl⟩ := Prod.mk.inj (Option.some.inj hD)
       exact Tryd.strings_CutSuffix _ _ w hs
      ·cases hD
     have hw := rules_parse_walk a0 w hs _ _ (by omega) (by omega) e0 e1 h32 a hact ha p1 an hpre p2 d hsuf er (fun w => rules_check.calls a p2 d an er w hE)
     by_cases hz : er = 0
     ·rw [if_pos hz] at h hw
      have := Option.some.inj h
      simp only [Prod.mk.injEq] at this
      obtain ⟨rfl, rfl, rfl, rfl, rfl⟩ := this
      exact hw
     ·rw [if_neg hz] at h hw
      rw [← nil er h]
      exact hw
    ·rw [if_pos (.inr h32)] at h
     rw [← nil 5 h]
     exact rules_parse_bad2 a0 w hs _ _ (by omega) (by omega) e0 e1 h32 a hact ha
 ·rw [if_neg hs] at h
  cases h
end Go.Proofs.YtioehkeocddniaaDoor.PA
namespace Go.Proofs.YtioehkeocddniaaDoor.PA
open Go.RowKit Go.Proofs.YtioehkeocddniaaDoorW.PrintWords Go.Proofs.YtioehkeocddniaaDoorW.PrintLast Go.Proofs.YtioehkeocddniaaDoorW.PrintMore
attribute [local go_sem] max2_int min2_int max_two min_two max_three min_three max_four min_four
set_option linter.unusedVariables false
set_option linter.unusedSimpArgs false
open Go.Shelf
def Tryd.lays221_ren : Go.Shelf.Ren := ⟨fun | 221 => 61 | 268 => 74 | 138 => 75 | 143 => 62 | 195 => 83 | 197 => 84 | 218 => 85 | 219 => 76 | 260 => 93 | 217 => 78 | 225 => 86 | 224 => 87 | 267 => 88 | 266 => 90 | 314 => 94 | n => n, fun | 9 => 9 | 3 => 3 | 31 => 53 | 4 => 4 | 0 => 0 | 105 => 100 | 21 => 21 | 5 => 5 | 46 => 38 | 119 => 110 | 139 => 113 | 138 => 112 | 146 => 105 | 51 => 104 | n => n, fun | 1 => 0 | 3 => 1 | 4 => 2 | n => n⟩
theorem Tryd.lays221 : Go.Proofs.Lays.n221 Tryd.prog Tryd.lays221_ren := {
 mixed := by kernel_rfl
 f138 := Tryd.func75.trans (congrArg some (by kernel_rfl))
 f143 := Tryd.func62.trans (congrArg some (by kernel_rfl))
 f195 := Tryd.func83.trans (congrArg some (by kernel_rfl))
 f197 := Tryd.func84.trans (congrArg some (by kernel_rfl))
 f217 := Tryd.func78.trans (congrArg some (by kernel_rfl))
 f218 := Tryd.func85.trans (congrArg some (by kernel_rfl))
 f219 := Tryd.func76.trans (congrArg some (by kernel_rfl))
 f221 := Tryd.func61.trans (congrArg some (by kernel_rfl))
 f224 := Tryd.func87.trans (congrArg some (by kernel_rfl))
 f225 := Tryd.func86.trans (congrArg some (by kernel_rfl))
 f260 := Tryd.func93.trans (congrArg some (by kernel_rfl))
 f266 := Tryd.func90.trans (congrArg some (by kernel_rfl))
 f267 := Tryd.func88.trans (congrArg some (by kernel_rfl))
 f268 := Tryd.func74.trans (congrArg some (by kernel_rfl))
 f314 := Tryd.func94.trans (congrArg some (by kernel_rfl))
 t0 := Tryd.underlying0
 a0 := Tryd.isAgg0
 z0 := Tryd.sizeOf0
 v0 := Tryd.zeroValue0
 t3 := Tryd.underlying3
 a3 := Tryd.isAgg3
 z3 := Tryd.sizeOf3
 v3 := Tryd.zeroValue3
 t4 := Tryd.underlying4
 a4 := Tryd.isAgg4
 z4 := Tryd.sizeOf4
 v4 := Tryd.zeroValue4
 t5 := Tryd.underlying5
 a5 := Tryd.isAgg5
 z5 := Tryd.sizeOf5
 v5 := Tryd.zeroValue5
 t9 := Tryd.underlying9
 a9 := Tryd.isAgg9
 z9 := Tryd.sizeOf9
 v9 := Tryd.zeroValue9
 t21 := Tryd.underlying21
 a21 := Tryd.isAgg21
 z21 := Tryd.sizeOf21
 v21 := Tryd.zeroValue21
 t31 := Tryd.underlying53
 a31 := Tryd.isAgg53
 z31 := Tryd.sizeOf53
 v31 := Tryd.zeroValue53
 t46 := Tryd.underlying38
 a46 := Tryd.isAgg38
 z46 := Tryd.sizeOf38
 v46 := Tryd.zeroValue38
 t51 := Tryd.underlying104
 a51 := Tryd.isAgg104
 z51 := Tryd.sizeOf104
 v51 := Tryd.zeroValue104
 t105 := Tryd.underlying100
 a105 := Tryd.isAgg100
 z105 := Tryd.sizeOf100
 v105 := Tryd.zeroValue100
 t119 := Tryd.underlying110
 a119 := Tryd.isAgg110
 z119 := Tryd.sizeOf110
 t138 := Tryd.underlying112
 a138 := Tryd.isAgg112
 z138 := Tryd.sizeOf112
 v138 := Tryd.zeroValue112
 t139 := Tryd.underlying113
 a139 := Tryd.isAgg113
 z139 := Tryd.sizeOf113
 v139 := Tryd.zeroValue113
 t146 := Tryd.underlying105
 a146 := Tryd.isAgg105
 z146 := Tryd.sizeOf105
 v146 := Tryd.zeroValue105
 g1 := by kernel_rfl
 g3 := by kernel_rfl
 g4 := by kernel_rfl }
def Tryd.lays146_ren : Go.Shelf.Ren := ⟨fun | 146 => 41 | 221 => 61 | 268 => 74 | 138 => 75 | 143 => 62 | 195 => 83 | 197 => 84 | 218 => 85 | 219 => 76 | 260 => 93 | 217 => 78 | 225 => 86 | 224 => 87 | 267 => 88 | 266 => 90 | 314 => 94 | n => n, fun | 9 => 9 | 31 => 53 | 3 => 3 | 4 => 4 | 0 => 0 | 105 => 100 | 21 => 21 | 5 => 5 | 46 => 38 | 119 => 110 | 139 => 113 | 138 => 112 | 146 => 105 | 51 => 104 | n => n, fun | 1 => 0 | 3 => 1 | 4 => 2 | n => n⟩
theorem Tryd.lays146 : Go.Proofs.Lays.n146 Tryd.prog Tryd.lays146_ren := {
 mixed := by kernel_rfl
 f138 := Tryd.func75.trans (congrArg some (by kernel_rfl))
 f143 := Tryd.func62.trans (congrArg some (by kernel_rfl))
 f146 := Tryd.func41.trans (congrArg some (by kernel_rfl))
 f195 := Tryd.func83.trans (congrArg some (by kernel_rfl))
 f197 := Tryd.func84.trans (congrArg some (by kernel_rfl))
 f217 := Tryd.func78.trans (congrArg some (by kernel_rfl))
 f218 := Tryd.func85.trans (congrArg some (by kernel_rfl))
 f219 := Tryd.func76.trans (congrArg some (by kernel_rfl))
 f221 := Tryd.func61.trans (congrArg some (by kernel_rfl))
 f224 := Tryd.func87.trans (congrArg some (by kernel_rfl))
 f225 := Tryd.func86.trans (congrArg some (by kernel_rfl))
 f260 := Tryd.func93.trans (congrArg some (by kernel_rfl))
 f266 := Tryd.func90.trans (congrArg some (by kernel_rfl))
 f267 := Tryd.func88.trans (congrArg some (by kernel_rfl))
 f268 := Tryd.func74.trans (congrArg some (by kernel_rfl))
 f314 := Tryd.func94.trans (congrArg some (by kernel_rfl))
 t0 := Tryd.underlying0
 a0 := Tryd.isAgg0
 z0 := Tryd.sizeOf0
 v0 := Tryd.zeroValue0
 t3 := Tryd.underlying3
 a3 := Tryd.isAgg3
 z3 := Tryd.sizeOf3
 v3 := Tryd.zeroValue3
 t4 := Tryd.underlying4
 a4 := Tryd.isAgg4
 z4 := Tryd.sizeOf4
 v4 := Tryd.zeroValue4
 t5 := Tryd.underlying5
 a5 := Tryd.isAgg5
 z5 := Tryd.sizeOf5
 v5 := Tryd.zeroValue5
 t9 := Tryd.underlying9
 a9 := Tryd.isAgg9
 z9 := Tryd.sizeOf9
 v9 := Tryd.zeroValue9
 t21 := Tryd.underlying21
 a21 := Tryd.isAgg21
 z21 := Tryd.sizeOf21
 v21 := Tryd.zeroValue21
 t31 := Tryd.underlying53
 a31 := Tryd.isAgg53
 z31 := Tryd.sizeOf53
 v31 := Tryd.zeroValue53
 t46 := Tryd.underlying38
 a46 := Tryd.isAgg38
 z46 := Tryd.sizeOf38
 v46 := Tryd.zeroValue38
 t51 := Tryd.underlying104
 a51 := Tryd.isAgg104
 z51 := Tryd.sizeOf104
 v51 := Tryd.zeroValue104
 t105 := Tryd.underlying100
 a105 := Tryd.isAgg100
 z105 := Tryd.sizeOf100
 v105 := Tryd.zeroValue100
 t119 := Tryd.underlying110
 a119 := Tryd.isAgg110
 z119 := Tryd.sizeOf110
 t138 := Tryd.underlying112
 a138 := Tryd.isAgg112
 z138 := Tryd.sizeOf112
 v138 := Tryd.zeroValue112
 t139 := Tryd.underlying113
 a139 := Tryd.isAgg113
 z139 := Tryd.sizeOf113
 v139 := Tryd.zeroValue113
 t146 := Tryd.underlying105
 a146 := Tryd.isAgg105
 z146 := Tryd.sizeOf105
 v146 := Tryd.zeroValue105
 g1 := by kernel_rfl
 g3 := by kernel_rfl
 g4 := by kernel_rfl }
open Go.RowKit Go.Lib in
theorem Tryd.strings_Split (s sep : ByteArray) (m : Int) (w : World) (hs : s.size < 4294967281) (hm : w.cell? ⟨0, 0, none⟩ = some (.int .i64 m)) (h1 : 1 ≤ sep.size) :
  Calls Tryd.prog 41 #[.string s, .string sep] w fun e w' =>
   e = .returned (.slice (some ⟨w.heap.size, 0, none⟩) (Lib.countB s sep + 1) (Lib.countB s sep + 1)) ∧ w' = w.alloc (.cells ((Lib.splitB sep 0 (Lib.countB s sep) s).map Value.string).toArray 9) := Any.strings_Split Tryd.lays146 (by kernel_rfl) s sep m w hs hm h1
def splitSB (s sep : ByteArray) : List ByteArray := Lib.splitB sep 0 (Lib.countB s sep) s
def strings_Split.f (a0 : ByteArray) (a1 : ByteArray) : Option (List ByteArray) := if a0.size < 4294967281 ∧ a1.size = 1 then some (splitSB a0 a1) else none
set_option maxHeartbeats 1000000 in
set_option maxRecDepth 100000 in
theorem strings_Split.calls (a0 : ByteArray) (a1 : ByteArray) (r : List ByteArray) (w : World) (h : strings_Split.f a0 a1 = some r) :
  Calls Tryd.prog 41 #[.string a0, .string a1] w fun e w' => ∃ v0_ : Value, e = .returned (v0_) ∧ Kd.R Kd.string 9 w' w.heap.size (fun _ => True) v0_ r ∧ Below w.heap.size w w' := by
 unfold strings_Split.f at h
 by_cases hs : a0.size < 4294967281 ∧ a1.size = 1
 ·rw [if_pos hs] at h
  obtain rfl := Option.some.inj h
  clear h
  obtain ⟨ch, rfl⟩ := Lib.one_byte a1 hs.2
  have hle := Lib.countB_le (⟨#[ch]⟩ : ByteArray) (Nat.le_of_eq hs.2.symm) a0.size a0 (Nat.le_refl _)
  have hlen := Lib.splitB_all (⟨#[ch]⟩ : ByteArray) (Nat.le_of_eq hs.2.symm) 0 _ a0 rfl
  have hi9 : (Tryd.prog.info? 9).map (fun i => (i.zero, i.size, i.bytes)) = some (some (.string ByteArray.empty), 1, 16) := by kernel_rfl
  have hidx : ∀ x : ByteArray, (Lib.indexB x (⟨#[ch]⟩ : ByteArray)) = Lib.indexByte x.data.toList ch := fun x => Lib.index_one x.data.toList ch
  have c := Any.strings_genSplit_core Tryd.lays221 hi9 a0 (⟨#[ch]⟩ : ByteArray) 0 (-1) (Lib.countB a0 (⟨#[ch]⟩ : ByteArray) + 1) w hs.1 (Nat.le_of_eq hs.2.symm) (Nat.zero_le _)
   (fun x cs hx => by rw [hidx]; exact Any.strings_Index_one { Tryd.lays221 with } x ch _)
   (by
    refine (Any.strings_Count_one { Tryd.lays221 with } a0 ch w).mono fun e w' ⟨he, hw⟩ => ⟨?_, hw⟩
    rw [he]
    show _ = Ending.returned (Value.int .i64 ((Lib.count a0.data.toList [ch] : Nat) : Int))
    rw [Lib.count_one]
    rfl) (by decide) (by decide) (by rw [if_pos (by decide)]; omega)
  rw [Nat.add_sub_cancel, hlen] at c
  have e2 : Lib.cellsOf (Lib.splitB (⟨#[ch]⟩ : ByteArray) 0 (Lib.countB a0 (⟨#[ch]⟩ : ByteArray)) a0) (Lib.countB a0 (⟨#[ch]⟩ : ByteArray) + 1) = ((Lib.splitB (⟨#[ch]⟩ : ByteArray) 0 (Lib.countB a0 (⟨#[ch]⟩ : ByteArray)) a0).map Value.string).toArray := by rw [← hlen]; exact Lib.cellsOf_full _
  rw [e2, ← hlen] at c
  change Calls Tryd.prog 61 #[.string a0, .string (⟨#[ch]⟩ : ByteArray), .int .i64 0, .int .i64 (-1)] w (fun e w' => e = .returned (.slice (some ⟨w.heap.size, 0, none⟩) (splitSB a0 (⟨#[ch]⟩ : ByteArray)).length (splitSB a0 (⟨#[ch]⟩ : ByteArray)).length) ∧ w' = w.alloc (.cells ((splitSB a0 (⟨#[ch]⟩ : ByteArray)).map Value.string).toArray 9)) at c
  have hmax : (splitSB a0 (⟨#[ch]⟩ : ByteArray)).length ≤ maxLen := by
   show (Lib.splitB (⟨#[ch]⟩ : ByteArray) 0 (Lib.countB a0 (⟨#[ch]⟩ : ByteArray)) a0).length ≤ _
   rw [hlen]
   unfold maxLen
   omega
  generalize splitSB a0 (⟨#[ch]⟩ : ByteArray) = l at *
  clear hidx e2 hlen hle
  go_enter Tryd.func41, Tryd.ntmps41
  go_wp2_with (go_at_call 61; refine c.mono ?_; rintro e w' ⟨rfl, hw⟩; rw [hw])
  go_ret
  refine ⟨_, rfl, Kd.R_of_own ?_ (fun _ _ => trivial), below_alloc (Below.refl _ _) _⟩
  have h2 := World.ownsRow_lit (base := w.heap.size) (e := 9) (size := 1) w (l.map Value.string).toArray l.length (Nat.le_refl _) hmax (by simp)
  simpa [encs] using h2
 ·rw [if_neg hs] at h
  exact absurd h (by simp)
end Go.Proofs.YtioehkeocddniaaDoor.PA
