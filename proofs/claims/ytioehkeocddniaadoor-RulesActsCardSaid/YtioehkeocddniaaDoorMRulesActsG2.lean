/- Heads of patterns: plain, and what the walks need beside it. -/
import Derived.Great.BuildSlice
import Derived.Laws.CopyOwn
import Derived.Test.YtioehkeocddniaaDoorMRulesActsG1
import Derived.BigQuiet
import Derived.Deep.QuietTactic
import Derived.Outline
import Derived.RegionTactic
namespace Go.Proofs.YtioehkeocddniaaDoor.PA
open Go.RowKit Go.Proofs.YtioehkeocddniaaDoorW.PrintWords Go.Proofs.YtioehkeocddniaaDoorW.PrintLast Go.Proofs.YtioehkeocddniaaDoorW.PrintMore
attribute [local go_sem] max2_int min2_int max_two min_two max_three min_three max_four min_four
set_option linter.unusedVariables false
set_option linter.unusedSimpArgs false
theorem sgRc (c : Int) : Tryd.prog.built 76 [(1, .int .u8 c)] = some (sgA ⟨0, c, false, noS⟩) := by kernel_rfl
theorem cls1_code {b : Bool} {l : List Int} {t : Tok} {r : List Int} (h : cls1 b l = some (t, r)) : Aside0 (codeSg t = refSg t) := by
 unfold cls1 at h
 cases l with
 | nil => simp at h
 | cons c l' =>
  dsimp only at h
  split at h
  ·simp at h
  ·cases hc : clsL ((c :: l').length + 1) (c :: l') noS with
   | none => rw [hc] at h; simp [clsEnd] at h
   | some p =>
    obtain ⟨q, s⟩ := p
    rw [hc] at h
    cases q with
    | nil => simp [clsEnd] at h
    | cons a q =>
     simp [clsEnd] at h
     rw [← h.1]
     exact ⟨rfl⟩
theorem cls0_code {l : List Int} {t : Tok} {r : List Int} (h : cls0 l = some (t, r)) : Aside0 (refSg t = codeSg t) := by
 have key : Aside0 (codeSg t = refSg t) := by
  unfold cls0 at h
  cases l with
  | nil => simp at h
  | cons c l' =>
   dsimp only at h
   split at h
   ·exact cls1_code h
   ·exact cls1_code h
 exact ⟨key.out.symm⟩
theorem star_kind {w : World} {g T : Nat} {p : Prop} [Decidable p] (h : w.heap[g]? = some (.cells (sgA (refSg (if p then Tok.star2 else Tok.star))) T (0, 0))) : w.cell? ⟨g, 0, none⟩ = some (.int .i64 (if p then 3 else 2)) := by
 rw [blk_cell h 0]
 by_cases hp : p
 ·rw [if_pos hp, if_pos hp]
  simp only [refSg, sgA, sgL, List.getElem?_toArray, List.getElem?_cons_zero]
 ·rw [if_neg hp, if_neg hp]
  simp only [refSg, sgA, sgL, List.getElem?_toArray, List.getElem?_cons_zero]
theorem star_eq (i m : Nat) : (if i + 1 < m + 1 then Tok.star2 else Tok.star) = (if i < m then Tok.star2 else Tok.star) := by
 by_cases h : i < m
 ·rw [if_pos h, if_pos (by omega)]
 ·rw [if_neg h, if_neg (by omega)]
theorem star_put (i m : Nat) (h : i ≤ m) : (sgA (refSg (if i < m then Tok.star2 else Tok.star))).setIfInBounds 0 (.int .i64 3) = sgA (refSg (if i < m + 1 then Tok.star2 else Tok.star)) := by
 rw [if_pos (show i < m + 1 by omega)]
 split <;> exact sg_kind _ _ _ _ _
set_option maxHeartbeats 8000000 in
set_option maxRecDepth 100000 in
theorem rsigns_call (a0 : ByteArray) (hs : a0.size < 1000000) (w : World) :
  Calls Tryd.prog 65 #[.string a0] w (SgsPost 76 refSg (parse (a0.size + 1) (gL a0)) w) := by
 have hu1 := Tryd.underlying76
 have und := Tryd.underlying72
 have sgS := sgSize2
 have ha := sgAlloc2
 go_enter Tryd.func65, Tryd.ntmps65
 go_wp2
 go_loopw [4, 5] (fun v4 v5 wr => ∃ (i : Nat) (l : List Tok), v5 = .int .i64 i ∧ Aside0 (PInv a0 i l) ∧ Aside0 (SgRow 76 w wr v4 (l.map refSg))) (fun _ v5 _ => a0.size - (intOf v5).toNat)
 case atStart => exact ⟨0, [], rfl, ⟨PInv.start a0⟩, ⟨SgRow.start _ w⟩⟩
 case round =>
  obtain ⟨i, l, rfl, HC, HD⟩ := hrel
  by_cases hk : i < a0.size
  ·have d0 : ((i : Int) < (a0.size : Int)) = True := eq_true (by omega)
   have d1 : ∀ h : i < a0.size, ((a0[i]'h).toNat : Int) = bt a0 (i : Int) := fun h => bt_at a0 i h
   have d9 : ∀ h : i + 1 < a0.size, ((a0[i + 1]'h).toNat : Int) = bt a0 ((i : Int) + 1) := fun h => bt_at a0 ((i + 1 : Nat) : Int) h
   have hln := Aside0.mk (HC.out.short hs refSg)
   have HX := Aside0.mk (SgBox.make HD.out)
   clear HD
   by_cases hc : (bt a0 (i : Int)) = 92
   ·have e0 : (bt a0 (i : Int)) = 92 := hc
    rw [e0] at d1
    by_cases hk2 : i + 1 < a0.size
    ·have q1 : ((a0.size : Int) ≤ (i : Int) + 1) = False := eq_false (by omega)
     go_wp2_with (first | ((with_reducible refine gate_dst (N := 19) rfl ?_); refine wpList_buildTo rfl 76 #[(1, .tmp 18)] rfl (some 19) rfl (sgA ⟨0, 92, false, noS⟩) ?hf ?_; (case hf => (simp only [List.map_toArray, List.map_cons, List.map_nil]; exact sgRc _))) | ((with_reducible refine gate_store (t := 76) (p := 7) rfl ?_); refine wpList_store_rowTo rfl 76 (.tmp 7) (.tmp 19) rfl rfl wr.heap.size (sgA ⟨0, 92, false, noS⟩) rfl rfl 76 (sgA sgz) HX.out.blk (sgS _) (sgA_same _ _) (sgA_one _) ?_; have n0_ := Aside0.mk (SgBox.row HX.out (sgA ⟨0, 92, false, noS⟩)); clear HX; have HX := n0_; clear n0_; have hk0 := blk_cell HX.out.blk 0; have hf0 := blk_frozen HX.out.blk 0; have hk1 := blk_cell HX.out.blk 1; have hf1 := blk_frozen HX.out.blk 1; change _ = some (Value.int .i64 0) at hk0; change _ = some (Value.int .u8 (92)) at hk1) | ((with_reducible refine gate_dst (N := 67) rfl ?_); have n0_ := Aside0.mk (SgBox.put HX.out 1 (.int .u8 (bt a0 ((i : Int) + 1))) (sgA ⟨0, bt a0 ((i : Int) + 1), false, noS⟩) (sg_c _ _ _ _ _)); clear HX; have HX := n0_; clear n0_; have HD := Aside0.mk HX.out.forget; refine wpList_load_row rfl 76 (.tmp 7) rfl wr.heap.size rfl 76 (sgA ⟨0, bt a0 ((i : Int) + 1), false, noS⟩) (0, 0) _ HX.out.blk hu1 rfl (sgS _) ?_) | ((with_reducible refine gate_dst (N := 68) rfl ?_); refine wpList_oneSg rfl 72 76 (.tmp 67) rfl (some 68) rfl und sgInfo2 ⟨0, bt a0 ((i : Int) + 1), false, noS⟩ rfl ?_) | ((with_reducible refine gate_builtin (b := .append) (xs := #[.tmp 66, .tmp 68]) rfl ?_); at_builtin; refine sgApp (w0 := w) rfl (.tmp 66) (.tmp 68) 72 76 rfl (some 69) rfl und sgInfo2 u4 (l.map refSg) ⟨0, bt a0 ((i : Int) + 1), false, noS⟩ rfl rfl HD.out hln.out ?_; intro v1 w1 he_; have HE := Aside0.mk he_; clear he_ HD))
     go_roundw
     case rel => exact ⟨i + 2, l ++ [Tok.lit (bt a0 ((i : Int) + 1))], by first | rfl | go_num, ⟨HC.out.esc hk hc hk2⟩, ⟨by rw [List.map_append]; exact HE.out⟩⟩
     case measure => simp [intOf]; omega
    ·have q1 : ((a0.size : Int) ≤ (i : Int) + 1) = True := eq_true (by omega)
     go_wp2_with (first | ((with_reducible refine gate_dst (N := 19) rfl ?_); refine wpList_buildTo rfl 76 #[(1, .tmp 18)] rfl (some 19) rfl (sgA ⟨0, 92, false, noS⟩) ?hf ?_; (case hf => (simp only [List.map_toArray, List.map_cons, List.map_nil]; exact sgRc _))) | ((with_reducible refine gate_store (t := 76) (p := 7) rfl ?_); refine wpList_store_rowTo rfl 76 (.tmp 7) (.tmp 19) rfl rfl wr.heap.size (sgA ⟨0, 92, false, noS⟩) rfl rfl 76 (sgA sgz) HX.out.blk (sgS _) (sgA_same _ _) (sgA_one _) ?_; have n0_ := Aside0.mk (SgBox.row HX.out (sgA ⟨0, 92, false, noS⟩)); clear HX; have HX := n0_; clear n0_; have hk0 := blk_cell HX.out.blk 0; have hf0 := blk_frozen HX.out.blk 0; have hk1 := blk_cell HX.out.blk 1; have hf1 := blk_frozen HX.out.blk 1; change _ = some (Value.int .i64 0) at hk0; change _ = some (Value.int .u8 (92)) at hk1))
     go_ret2
     exact SgsPost.none HX.out.below (HC.out.noesc hk hc hk2)
   ·have n4 : ((bt a0 (i : Int)) == 92) = false := beq_eq_false_iff_ne.2 hc
    have hc4 := hc
    clear hc
    by_cases hc : (bt a0 (i : Int)) = 63
    ·have e0 : (bt a0 (i : Int)) = 63 := hc
     rw [e0] at d1
     clear d9 n4
     go_wp2_with (first | ((with_reducible refine gate_dst (N := 19) rfl ?_); refine wpList_buildTo rfl 76 #[(1, .tmp 18)] rfl (some 19) rfl (sgA ⟨0, 63, false, noS⟩) ?hf ?_; (case hf => (simp only [List.map_toArray, List.map_cons, List.map_nil]; exact sgRc _))) | ((with_reducible refine gate_store (t := 76) (p := 7) rfl ?_); refine wpList_store_rowTo rfl 76 (.tmp 7) (.tmp 19) rfl rfl wr.heap.size (sgA ⟨0, 63, false, noS⟩) rfl rfl 76 (sgA sgz) HX.out.blk (sgS _) (sgA_same _ _) (sgA_one _) ?_; have n0_ := Aside0.mk (SgBox.row HX.out (sgA ⟨0, 63, false, noS⟩)); clear HX; have HX := n0_; clear n0_; have hk0 := blk_cell HX.out.blk 0; have hf0 := blk_frozen HX.out.blk 0; have hk1 := blk_cell HX.out.blk 1; have hf1 := blk_frozen HX.out.blk 1; change _ = some (Value.int .i64 0) at hk0; change _ = some (Value.int .u8 (63)) at hk1) | ((with_reducible refine gate_dst (N := 67) rfl ?_); have n0_ := Aside0.mk (SgBox.put HX.out 0 (.int .i64 1) (sgA ⟨1, 63, false, noS⟩) (sg_kind _ _ _ _ _)); clear HX; have HX := n0_; clear n0_; have HD := Aside0.mk HX.out.forget; refine wpList_load_row rfl 76 (.tmp 7) rfl wr.heap.size rfl 76 (sgA ⟨1, 63, false, noS⟩) (0, 0) _ HX.out.blk hu1 rfl (sgS _) ?_) | ((with_reducible refine gate_dst (N := 68) rfl ?_); refine wpList_oneSg rfl 72 76 (.tmp 67) rfl (some 68) rfl und sgInfo2 ⟨1, 63, false, noS⟩ rfl ?_) | ((with_reducible refine gate_builtin (b := .append) (xs := #[.tmp 66, .tmp 68]) rfl ?_); at_builtin; refine sgApp (w0 := w) rfl (.tmp 66) (.tmp 68) 72 76 rfl (some 69) rfl und sgInfo2 u4 (l.map refSg) ⟨1, 63, false, noS⟩ rfl rfl HD.out hln.out ?_; intro v1 w1 he_; have HE := Aside0.mk he_; clear he_ HD))
     go_roundw
     case rel => exact ⟨i + 1, l ++ [Tok.one], by first | rfl | go_num, ⟨HC.out.one hk hc⟩, ⟨by rw [List.map_append]; exact HE.out⟩⟩
     case measure => simp [intOf]; omega
    ·have n2 : ((bt a0 (i : Int)) == 63) = false := beq_eq_false_iff_ne.2 hc
     have hc2 := hc
     clear hc
     by_cases hc : (bt a0 (i : Int)) = 42
     ·have e0 : (bt a0 (i : Int)) = 42 := hc
      rw [e0] at d1
      clear d9 n2 n4
      go_wp2_with (first | ((with_reducible refine gate_dst (N := 19) rfl ?_); refine wpList_buildTo rfl 76 #[(1, .tmp 18)] rfl (some 19) rfl (sgA ⟨0, 42, false, noS⟩) ?hf ?_; (case hf => (simp only [List.map_toArray, List.map_cons, List.map_nil]; exact sgRc _))) | ((with_reducible refine gate_store (t := 76) (p := 7) rfl ?_); refine wpList_store_rowTo rfl 76 (.tmp 7) (.tmp 19) rfl rfl wr.heap.size (sgA ⟨0, 42, false, noS⟩) rfl rfl 76 (sgA sgz) HX.out.blk (sgS _) (sgA_same _ _) (sgA_one _) ?_; have n0_ := Aside0.mk (SgBox.row HX.out (sgA ⟨0, 42, false, noS⟩)); clear HX; have HX := n0_; clear n0_; have hk0 := blk_cell HX.out.blk 0; have hf0 := blk_frozen HX.out.blk 0; have hk1 := blk_cell HX.out.blk 1; have hf1 := blk_frozen HX.out.blk 1; change _ = some (Value.int .i64 0) at hk0; change _ = some (Value.int .u8 (42)) at hk1))
      have n0_ := Aside0.mk (SgBox.put HX.out 0 (.int .i64 2) (sgA ⟨2, 42, false, noS⟩) (sg_kind _ _ _ _ _))
      clear HX hk0 hk1 hf0 hf1
      have HX := n0_
      clear n0_
      obtain ⟨wo, rfl⟩ : ∃ wo : World, wo = wr := ⟨_, rfl⟩
      go_loopw [5] (fun v5 wi => ∃ m : Nat, v5 = .int .i64 ((m : Int) + 1) ∧ i ≤ m ∧ m < a0.size ∧ Aside0 (sk (dropL a0 (i + 1)) = sk (dropL a0 (m + 1))) ∧ Aside0 (SgBox 76 w wi u4 (l.map refSg) wo.heap.size (sgA (refSg (if i < m then Tok.star2 else Tok.star))))) (fun v5 _ => a0.size + 1 - (intOf v5).toNat)
      case atStart => exact ⟨i, rfl, Nat.le_refl _, hk, ⟨rfl⟩, ⟨by rw [if_neg (Nat.lt_irrefl _)]; exact HX.out⟩⟩
      case round =>
       clear HX
       obtain ⟨m, rfl, hm1, hm2, HS, HX⟩ := hrel
       have g1 : ∀ h : m + 1 < a0.size, ((a0[m + 1]'h).toNat : Int) = bt a0 ((m : Int) + 1) := fun h => bt_at a0 ((m + 1 : Nat) : Int) h
       by_cases hm3 : m + 1 < a0.size ∧ bt a0 ((m : Int) + 1) = 42
       ·obtain ⟨q1, q2⟩ := hm3
        have q3 : (((m : Int) + 1) < (a0.size : Int)) = True := eq_true (by omega)
        have HS2 := Aside0.mk (HS.out.trans (sk_hit a0 (m + 1) q1 q2))
        rw [q2] at g1
        obtain ⟨kv, hk0⟩ : ∃ kv, wr.cell? ⟨wo.heap.size, 0, none⟩ = some kv := ⟨_, star_kind HX.out.blk⟩
        have hf0 := blk_frozen HX.out.blk 0
        go_wp2
        have n0_ := Aside0.mk (SgBox.put HX.out 0 (.int .i64 3) (sgA (refSg (if i < m + 1 then Tok.star2 else Tok.star))) (star_put i m hm1))
        go_roundw
        case rel => exact ⟨m + 1, by go_num, by omega, by omega, HS2, ⟨n0_.out⟩⟩
        case measure => simp [intOf]; omega
       ·have HS2 := Aside0.mk (HS.out.trans (sk_stop a0 (m + 1) hm3))
        have q0 : (m + 1 < a0.size ∧ (((m : Int) + 1) < (a0.size : Int)) = True ∧ (bt a0 ((m : Int) + 1) == 42) = false) ∨ (((m : Int) + 1) < (a0.size : Int)) = False := by
         by_cases h : m + 1 < a0.size
         ·exact .inl ⟨h, eq_true (by omega), beq_eq_false_iff_ne.2 (fun h2 => hm3 ⟨h, h2⟩)⟩
         ·exact .inr (eq_false (by omega))
        have HP := Aside0.mk (HC.out.star hk hc HS2.out (by omega) hm2)
        rw [star_eq] at HP
        clear hm3 HS HS2
        obtain ⟨X, hX⟩ : ∃ X, X = (if i < m then Tok.star2 else Tok.star) := ⟨_, rfl⟩
        rw [← hX] at HX HP
        clear hX
        rcases q0 with ⟨q1, q2, q3⟩ | q2
        all_goals
         go_wp2_with (first | ((with_reducible refine gate_dst (N := 67) rfl ?_); have HD := Aside0.mk HX.out.forget; refine wpList_load_row rfl 76 (.tmp 7) rfl wo.heap.size rfl 76 (sgA (refSg X)) (0, 0) _ HX.out.blk hu1 rfl (sgS _) ?_) | ((with_reducible refine gate_dst (N := 68) rfl ?_); refine wpList_oneSg rfl 72 76 (.tmp 67) rfl (some 68) rfl und sgInfo2 (refSg X) rfl ?_) | ((with_reducible refine gate_builtin (b := .append) (xs := #[.tmp 66, .tmp 68]) rfl ?_); at_builtin; refine sgApp (w0 := w) rfl (.tmp 66) (.tmp 68) 72 76 rfl (some 69) rfl und sgInfo2 u4 (l.map refSg) (refSg X) rfl rfl HD.out hln.out ?_; intro v1 w1 he_; have HE := Aside0.mk he_; clear he_ HD))
         go_roundw
         case rel => exact ⟨m + 1, l ++ [X], by first | rfl | go_num, ⟨HP.out⟩, ⟨by rw [List.map_append]; exact HE.out⟩⟩
         case measure => simp [intOf]; omega
     ·have n1 : ((bt a0 (i : Int)) == 42) = false := beq_eq_false_iff_ne.2 hc
      have hc1 := hc
      clear hc
      by_cases hc : (bt a0 (i : Int)) = 91
      ·have e0 : (bt a0 (i : Int)) = 91 := hc
       rw [e0] at d1
       clear d9 n1 n2 n4
       have hcl : ∀ w, Calls Tryd.prog 77 #[.string a0, .int .i64 ((i : Int) + 1)] w (ClsPost a0 (cls0 (dropL a0 (i + 1))) w) := fun w => class_call a0 (i + 1) hs hk w
       cases h0 : cls0 (dropL a0 (i + 1)) with
       | none =>
        have hcl2 : ∀ w, Calls Tryd.prog 77 #[.string a0, .int .i64 ((i : Int) + 1)] w (ClsPost a0 none w) := fun w => by rw [← h0]; exact hcl w
        clear hcl
        go_wp2_with (first | ((with_reducible refine gate_dst (N := 19) rfl ?_); refine wpList_buildTo rfl 76 #[(1, .tmp 18)] rfl (some 19) rfl (sgA ⟨0, 91, false, noS⟩) ?hf ?_; (case hf => (simp only [List.map_toArray, List.map_cons, List.map_nil]; exact sgRc _))) | ((with_reducible refine gate_store (t := 76) (p := 7) rfl ?_); refine wpList_store_rowTo rfl 76 (.tmp 7) (.tmp 19) rfl rfl wr.heap.size (sgA ⟨0, 91, false, noS⟩) rfl rfl 76 (sgA sgz) HX.out.blk (sgS _) (sgA_same _ _) (sgA_one _) ?_; have n0_ := Aside0.mk (SgBox.row HX.out (sgA ⟨0, 91, false, noS⟩)); clear HX; have HX := n0_; clear n0_; have hk0 := blk_cell HX.out.blk 0; have hf0 := blk_frozen HX.out.blk 0; have hk1 := blk_cell HX.out.blk 1; have hf1 := blk_frozen HX.out.blk 1; change _ = some (Value.int .i64 0) at hk0; change _ = some (Value.int .u8 (91)) at hk1) | (go_at_call 77; (with_reducible refine (hcl2 _).mono ?_); rintro e w2 ⟨hb, x, j, rfl⟩; have n0_ := Aside0.mk (SgBox.step HX.out hb); clear HX hb; have HX := n0_; clear n0_) | ((with_reducible refine gate_store (t := 76) (p := 8) rfl ?_); refine wpList_store_rowTo rfl 76 (.tmp 8) (.tmp 59) rfl rfl w2.heap.size (sgA x) rfl rfl 76 (sgA sgz) (blk_new w2 _) (sgS _) (sgA_same _ _) (sgA_one _) ?_))
        go_ret2
        exact SgsPost.none (below_step HX.out.below (below_setRow (below_alloc (Below.refl _ _) _) (Nat.le_refl _) _)) (HC.out.nocls hk hc h0)
       | some tr =>
        obtain ⟨t, r⟩ := tr
        have hcl2 : ∀ w, Calls Tryd.prog 77 #[.string a0, .int .i64 ((i : Int) + 1)] w (ClsPost a0 (some (t, r)) w) := fun w => by rw [← h0]; exact hcl w
        clear hcl
        go_wp2_with (first | ((with_reducible refine gate_dst (N := 19) rfl ?_); refine wpList_buildTo rfl 76 #[(1, .tmp 18)] rfl (some 19) rfl (sgA ⟨0, 91, false, noS⟩) ?hf ?_; (case hf => (simp only [List.map_toArray, List.map_cons, List.map_nil]; exact sgRc _))) | ((with_reducible refine gate_store (t := 76) (p := 7) rfl ?_); refine wpList_store_rowTo rfl 76 (.tmp 7) (.tmp 19) rfl rfl wr.heap.size (sgA ⟨0, 91, false, noS⟩) rfl rfl 76 (sgA sgz) HX.out.blk (sgS _) (sgA_same _ _) (sgA_one _) ?_; have n0_ := Aside0.mk (SgBox.row HX.out (sgA ⟨0, 91, false, noS⟩)); clear HX; have HX := n0_; clear n0_; have hk0 := blk_cell HX.out.blk 0; have hf0 := blk_frozen HX.out.blk 0; have hk1 := blk_cell HX.out.blk 1; have hf1 := blk_frozen HX.out.blk 1; change _ = some (Value.int .i64 0) at hk0; change _ = some (Value.int .u8 (91)) at hk1) | (go_at_call 77; (with_reducible refine (hcl2 _).mono ?_); rintro e w2 ⟨hb, j, hj, hle, rfl⟩; subst hj; have hjj := (HC.out.cls hk hc h0 hle).1; have HP := Aside0.mk (HC.out.cls hk hc h0 hle).2; have htt := cls0_code h0; rw [← htt.out] ; have n0_ := Aside0.mk (SgBox.step HX.out hb); clear HX hb; have HX := n0_; clear n0_) | ((with_reducible refine gate_store (t := 76) (p := 8) rfl ?_); refine wpList_store_rowTo rfl 76 (.tmp 8) (.tmp 59) rfl rfl w2.heap.size (sgA (refSg t)) rfl rfl 76 (sgA sgz) (blk_new w2 _) (sgS _) (sgA_same _ _) (sgA_one _) ?_; have KB := Aside0.mk (setRow_heap _ _ _ (sgA (refSg t)) _ _ (blk_new w2 (.cells (sgA sgz) 76))); have NB := Aside0.mk (show wr.heap.size ≠ w2.heap.size from Nat.ne_of_lt (blk_lt HX.out.blk)); have n0_ := Aside0.mk (SgBox.step HX.out (below_setRow (below_alloc (Below.refl _ _) (.cells (sgA sgz) 76)) (Nat.le_refl _) (sgA (refSg t)))); clear HX; have HX := n0_; clear n0_) | ((with_reducible refine gate_dst (N := 64) rfl ?_); refine wpList_load_row rfl 76 (.tmp 8) rfl w2.heap.size rfl 76 (sgA (refSg t)) (0, 0) _ KB.out hu1 rfl (sgS _) ?_) | ((with_reducible refine gate_store (t := 76) (p := 7) rfl ?_); refine wpList_store_rowTo rfl 76 (.tmp 7) (.tmp 64) rfl rfl wr.heap.size (sgA (refSg t)) rfl rfl 76 (sgA ⟨0, 91, false, noS⟩) HX.out.blk (sgS _) (sgA_same _ _) (sgA_one _) ?_; have n0_ := Aside0.mk (SgBox.row HX.out (sgA (refSg t))); clear HX; have HX := n0_; clear n0_) | ((with_reducible refine gate_dst (N := 67) rfl ?_); have HD := Aside0.mk HX.out.forget; refine wpList_load_row rfl 76 (.tmp 7) rfl wr.heap.size rfl 76 (sgA (refSg t)) (0, 0) _ HX.out.blk hu1 rfl (sgS _) ?_) | ((with_reducible refine gate_dst (N := 68) rfl ?_); refine wpList_oneSg rfl 72 76 (.tmp 67) rfl (some 68) rfl und sgInfo2 (refSg t) rfl ?_) | ((with_reducible refine gate_builtin (b := .append) (xs := #[.tmp 66, .tmp 68]) rfl ?_); at_builtin; refine sgApp (w0 := w) rfl (.tmp 66) (.tmp 68) 72 76 rfl (some 69) rfl und sgInfo2 u4 (l.map refSg) (refSg t) rfl rfl HD.out hln.out ?_; intro v1 w1 he_; have HE := Aside0.mk he_; clear he_ HD))
        go_roundw
        case rel => exact ⟨j, l ++ [t], by first | rfl | go_num, ⟨HP.out⟩, ⟨by rw [List.map_append]; exact HE.out⟩⟩
        case measure => simp [intOf]; omega
      ·have n3 : ((bt a0 (i : Int)) == 91) = false := beq_eq_false_iff_ne.2 hc
       clear d9
       go_wp2_with (first | ((with_reducible refine gate_dst (N := 19) rfl ?_); refine wpList_buildTo rfl 76 #[(1, .tmp 18)] rfl (some 19) rfl (sgA ⟨0, bt a0 (i : Int), false, noS⟩) ?hf ?_; (case hf => (simp only [List.map_toArray, List.map_cons, List.map_nil]; exact sgRc _))) | ((with_reducible refine gate_store (t := 76) (p := 7) rfl ?_); refine wpList_store_rowTo rfl 76 (.tmp 7) (.tmp 19) rfl rfl wr.heap.size (sgA ⟨0, bt a0 (i : Int), false, noS⟩) rfl rfl 76 (sgA sgz) HX.out.blk (sgS _) (sgA_same _ _) (sgA_one _) ?_; have n0_ := Aside0.mk (SgBox.row HX.out (sgA ⟨0, bt a0 (i : Int), false, noS⟩)); clear HX; have HX := n0_; clear n0_; have hk0 := blk_cell HX.out.blk 0; have hf0 := blk_frozen HX.out.blk 0; have hk1 := blk_cell HX.out.blk 1; have hf1 := blk_frozen HX.out.blk 1; change _ = some (Value.int .i64 0) at hk0; change _ = some (Value.int .u8 (bt a0 (i : Int))) at hk1) | ((with_reducible refine gate_dst (N := 67) rfl ?_); have HD := Aside0.mk HX.out.forget; refine wpList_load_row rfl 76 (.tmp 7) rfl wr.heap.size rfl 76 (sgA ⟨0, bt a0 (i : Int), false, noS⟩) (0, 0) _ HX.out.blk hu1 rfl (sgS _) ?_) | ((with_reducible refine gate_dst (N := 68) rfl ?_); refine wpList_oneSg rfl 72 76 (.tmp 67) rfl (some 68) rfl und sgInfo2 ⟨0, bt a0 (i : Int), false, noS⟩ rfl ?_) | ((with_reducible refine gate_builtin (b := .append) (xs := #[.tmp 66, .tmp 68]) rfl ?_); at_builtin; refine sgApp (w0 := w) rfl (.tmp 66) (.tmp 68) 72 76 rfl (some 69) rfl und sgInfo2 u4 (l.map refSg) ⟨0, bt a0 (i : Int), false, noS⟩ rfl rfl HD.out hln.out ?_; intro v1 w1 he_; have HE := Aside0.mk he_; clear he_ HD))
       go_roundw
       case rel => exact ⟨i + 1, l ++ [Tok.lit (bt a0 (i : Int))], by first | rfl | go_num, ⟨HC.out.lit hk hc1 hc2 hc hc4⟩, ⟨by rw [List.map_append]; exact HE.out⟩⟩
       case measure => simp [intOf]; omega
  ·have d0 : ((i : Int) < (a0.size : Int)) = False := eq_false (by omega)
   go_wp2
   go_ret2
   exact SgsPost.some HD.out (HC.out.done hk)
end Go.Proofs.YtioehkeocddniaaDoor.PA
namespace Go.Proofs.YtioehkeocddniaaDoor.PA
open Go.RowKit Go.Proofs.YtioehkeocddniaaDoorW.PrintWords Go.Proofs.YtioehkeocddniaaDoorW.PrintLast Go.Proofs.YtioehkeocddniaaDoorW.PrintMore
attribute [local go_sem] max2_int min2_int max_two min_two max_three min_three max_four min_four
set_option linter.unusedVariables false
set_option linter.unusedSimpArgs false
def chkP : Option (List Tok) → Int
 | none => 5
 | some _ => 0
def chkO (s : ByteArray) : Int := if 100 < s.size then 7 else chkP (parse (s.size + 1) (gL s))
def glob_Check.f (a0 : ByteArray) : Option Int := some (chkO a0)
theorem glob_Check.calls (a0 : ByteArray) (r : Int) (w : World) (h : glob_Check.f a0 = some r) : Calls Tryd.prog 59 #[.string a0] w fun e w' => e = .returned (.int .i64 r) ∧ Below w.heap.size w w' := by
 ·obtain rfl := Option.some.inj h
  clear h
  by_cases h100 : a0.size ≤ 100
  ·have hsc := signs_call a0 (by omega)
   rw [if_pos h100] at hsc
   have HE : Aside0 (chkO a0 = chkP (parse (a0.size + 1) (gL a0))) := ⟨by unfold chkO; rw [if_neg (by omega)]⟩
   have c1 : ((100 : Int) < (a0.size : Int)) = False := eq_false (by omega)
   have c2 : (100 < a0.size) = False := eq_false (by omega)
   cases hp : parse (a0.size + 1) (gL a0) with
   | none =>
    rw [hp] at hsc HE
    clear hp
    go_enter Tryd.func59, Tryd.ntmps59
    go_wp2_with (go_at_call 51; (with_reducible refine (hsc _).mono ?_); rintro e w1 ⟨hb, rfl⟩)
    go_ret
    exact ⟨by rw [HE.out]; rfl, hb⟩
   | some l =>
    rw [hp] at hsc HE
    clear hp
    go_enter Tryd.func59, Tryd.ntmps59
    go_wp2_with (go_at_call 51; (with_reducible refine (hsc _).mono ?_); rintro e w1 ⟨hb, v, rfl, hR⟩)
    go_ret
    exact ⟨by rw [HE.out]; rfl, hb⟩
  ·have HE : Aside0 (chkO a0 = 7) := ⟨by unfold chkO; rw [if_pos (by omega)]⟩
   have c1 : ((100 : Int) < (a0.size : Int)) = True := eq_true (by omega)
   have c2 : (100 < a0.size) = True := eq_true (by omega)
   go_enter Tryd.func59, Tryd.ntmps59
   go_wp2
   go_ret
   exact ⟨by rw [HE.out]; rfl, Below.refl _ _⟩
end Go.Proofs.YtioehkeocddniaaDoor.PA
namespace Go.Proofs.YtioehkeocddniaaDoor.PA
open Go.RowKit Go.Proofs.YtioehkeocddniaaDoorW.PrintWords Go.Proofs.YtioehkeocddniaaDoorW.PrintLast Go.Proofs.YtioehkeocddniaaDoorW.PrintMore
attribute [local go_sem] max2_int min2_int max_two min_two max_three min_three max_four min_four
set_option linter.unusedVariables false
set_option linter.unusedSimpArgs false
def remoraref14_Check.f (a0 : ByteArray) : Option Int := if a0.size < 1000000 then some (chkO a0) else none
theorem remoraref14_Check.calls (a0 : ByteArray) (r : Int) (w : World) (h : remoraref14_Check.f a0 = some r) : Calls Tryd.prog 60 #[.string a0] w fun e w' => e = .returned (.int .i64 r) ∧ Below w.heap.size w w' := by
 unfold remoraref14_Check.f at h
 split at h
 ·rename_i hs
  obtain rfl := Option.some.inj h
  clear h
  have hsc := rsigns_call a0 hs
  by_cases h100 : a0.size ≤ 100
  ·have HE : Aside0 (chkO a0 = chkP (parse (a0.size + 1) (gL a0))) := ⟨by unfold chkO; rw [if_neg (by omega)]⟩
   have c1 : ((100 : Int) < (a0.size : Int)) = False := eq_false (by omega)
   have c2 : (100 < a0.size) = False := eq_false (by omega)
   cases hp : parse (a0.size + 1) (gL a0) with
   | none =>
    rw [hp] at hsc HE
    clear hp
    go_enter Tryd.func60, Tryd.ntmps60
    go_wp2_with (go_at_call 65; (with_reducible refine (hsc _).mono ?_); rintro e w1 ⟨hb, rfl⟩)
    go_ret
    exact ⟨by rw [HE.out]; rfl, hb⟩
   | some l =>
    rw [hp] at hsc HE
    clear hp
    go_enter Tryd.func60, Tryd.ntmps60
    go_wp2_with (go_at_call 65; (with_reducible refine (hsc _).mono ?_); rintro e w1 ⟨hb, v, rfl, hR⟩)
    go_ret
    exact ⟨by rw [HE.out]; rfl, hb⟩
  ·have HE : Aside0 (chkO a0 = 7) := ⟨by unfold chkO; rw [if_pos (by omega)]⟩
   have c1 : ((100 : Int) < (a0.size : Int)) = True := eq_true (by omega)
   have c2 : (100 < a0.size) = True := eq_true (by omega)
   clear hsc
   go_enter Tryd.func60, Tryd.ntmps60
   go_wp2
   go_ret
   exact ⟨by rw [HE.out]; rfl, Below.refl _ _⟩
 ·cases h
end Go.Proofs.YtioehkeocddniaaDoor.PA
namespace Go.Proofs.YtioehkeocddniaaDoor.PA
open Go.RowKit Go.Proofs.YtioehkeocddniaaDoorW.PrintWords Go.Proofs.YtioehkeocddniaaDoorW.PrintLast Go.Proofs.YtioehkeocddniaaDoorW.PrintMore
attribute [local go_sem] max2_int min2_int max_two min_two max_three min_three max_four min_four   -- for this text's walks alone
set_option linter.unusedVariables false
set_option linter.unusedSimpArgs false
mutual
def remoraref15_one.j0 : Nat → Bool → Int → ByteArray → Bool → Bool → Option (Int)
 | 0, _, _, _, _, _ => none
 | k + 1, x12, x102000, x102001, x102002, x102003 => if x12 = true then (some 2) else (if (x102001.size : Int) = 0 then (remoraref15_one.j1 k (x102001.size : Int) true x102000 x102001 x102002 x102003) else (if 0 < (x102001.size : Int) then (if (bt x102001 0) = 47 then (remoraref15_one.j1 k (x102001.size : Int) true x102000 x102001 x102002 x102003) else (if 0 ≤ (wrap64 ((x102001.size : Int) - 1)) then (if (wrap64 ((x102001.size : Int) - 1)) < (x102001.size : Int) then (remoraref15_one.j1 k (x102001.size : Int) ((bt x102001 (wrap64 ((x102001.size : Int) - 1))) == 47) x102000 x102001 x102002 x102003) else (none)) else (none))) else (none)))
def remoraref15_one.j1 : Nat → Int → Bool → Int → ByteArray → Bool → Bool → Option (Int)
 | 0, _, _, _, _, _, _ => none
 | k + 1, x3, x31, x102000, x102001, x102002, x102003 => if x31 = true then (some 5) else (remoraref15_one.l0 k x3 0 x102000 x102001 x102002 x102003)
def remoraref15_one.l0 : Nat → Int → Int → Int → ByteArray → Bool → Bool → Option (Int)
 | 0, _, _, _, _, _, _ => none
 | k + 1, x3, x4, x102000, x102001, x102002, x102003 => if x4 < x3 then (if 0 ≤ x4 then (if x4 < (x102001.size : Int) then (if (bt x102001 x4) = 10 then (some 5) else (remoraref15_one.l0 k x3 (wrap64 (x4 + 1)) x102000 x102001 x102002 x102003)) else (none)) else (none)) else ((remoraref14_Check.f x102001).bind fun t102 => (some t102))
end
def remoraref15_one.f (k : Nat) (a0_0 : Int) (a0_1 : ByteArray) (a0_2 : Bool) (a0_3 : Bool) : Option (Int) := if a0_0 < 1 then (remoraref15_one.j0 k true a0_0 a0_1 a0_2 a0_3) else (remoraref15_one.j0 k (decide (a0_0 > 4)) a0_0 a0_1 a0_2 a0_3)
set_option maxHeartbeats 8000000 in
set_option maxRecDepth 100000 in
theorem remoraref15_one.calls (k : Nat) (a0_0 : Int) (a0_1 : ByteArray) (a0_2 : Bool) (a0_3 : Bool) (r : Int) (w : World) (h : remoraref15_one.f k a0_0 a0_1 a0_2 a0_3 = some r) :
  Calls Tryd.prog 40 #[.agg #[.int .i64 a0_0, .string a0_1, .bool a0_2, .bool a0_3]] w fun e w' => e = .returned (.int .i64 r) ∧ Below w.heap.size w w' := by
 have hu24 := Tryd.underlying24
 have HB := Aside0.mk (Below.refl w.heap.size w)
 have H : (if a0_0 < 1 then (remoraref15_one.j0 k true a0_0 a0_1 a0_2 a0_3) else (remoraref15_one.j0 k (decide (a0_0 > 4)) a0_0 a0_1 a0_2 a0_3)) = some r := h
 clear h
 have HC2 := Aside0.mk H
 clear H
 go_enter Tryd.func40, Tryd.ntmps40
 go_upto_region 1 with (first | ((with_reducible refine gate_dst (N := 1) rfl ?_); refine box_event ?hg (N := 1) ?hd (cs := #[.int .i64 a0_0, .string a0_1, .bool a0_2, .bool a0_3]) (t := 24) ?hr ?_; (case hd => rfl); (case hg => rfl); (case hr => first | (go_simp; done) | (go_simp; rfl)); intro gb101 hg w3 hbox hb; have n0_ := Aside0.mk (below_step (by repeat (first | (with_reducible first | exact HB.out | apply below_alloc | apply pw_below_drewN | apply below_drew1) | exact HB.out)) hb); have n1_ := Aside0.mk (hbox); have n2_ := Aside0.mk ((by rw [hg]; exact (below_size (by repeat (first | (with_reducible first | exact HB.out | apply below_alloc | apply pw_below_drewN | apply below_drew1) | exact HB.out))) : w.heap.size ≤ gb101)); have n3_ := Aside0.mk ((by rw [hg]; exact (below_size (by repeat (first | (with_reducible first | exact HB.out | apply below_alloc | apply pw_below_drewN | apply below_drew1) | exact HB.out))) : w.heap.size ≤ gb101)); clear HB; have HB := n0_; have BK101 := n1_; have GW101 := n2_; have GE101 := n3_; clear n0_ n1_ n2_ n3_; clear hb hbox hg))
 (try simp only [Act.put, List.setIfInBounds_toArray, List.set_cons_zero, List.set_cons_succ])
 go_cut [12] (fun v12 wc => ∃ (kq : Nat) (x12_1 : Bool), v12 = .bool x12_1 ∧ Aside0 (remoraref15_one.j0 kq x12_1 a0_0 a0_1 a0_2 a0_3 = some r) ∧ Aside0 (kq ≤ k) ∧ Aside0 (wc.heap[gb101]? = some (.cells #[.int .i64 a0_0, .string a0_1, .bool a0_2, .bool a0_3] 24 (0, 0))) ∧ Aside0 (Below w.heap.size w wc))
 case first =>
  have H := HC2.out
  clear HC2
  by_cases c4 : a0_0 < 1
  ·rw [if_pos c4] at H
   have c4b0 : decide (a0_0 < 1) = true := decide_eq_true c4
   clear c4
   (first | rw [c4b0] | (simp only [i64_w, i32_w]; rw [c4b0]) | skip)
   have H' := Aside0.mk H
   clear H
   have hcz5_0 : w3.cell? ⟨gb101, 0, none⟩ = some (.int .i64 a0_0) := (blk_cell BK101.out 0).trans rfl
   have hcz5_1 : w3.cell? ⟨gb101, 1, none⟩ = some (.string a0_1) := (blk_cell BK101.out 1).trans rfl
   have hcz5_2 : w3.cell? ⟨gb101, 2, none⟩ = some (.bool a0_2) := (blk_cell BK101.out 2).trans rfl
   have hcz5_3 : w3.cell? ⟨gb101, 3, none⟩ = some (.bool a0_3) := (blk_cell BK101.out 3).trans rfl
   have hfz5_0 := blk_frozen BK101.out 0
   have hfz5_1 := blk_frozen BK101.out 1
   have hfz5_2 := blk_frozen BK101.out 2
   have hfz5_3 := blk_frozen BK101.out 3
   go_wp2
   go_meet
   case rel => exact ⟨_, (true), (by first | rfl | (simp; done) | (simp [*]; done)), H', ⟨by first | omega | exact Nat.le_refl _⟩, ⟨by (with_reducible repeat (first | refine blk_drewN ?_ _ | refine blk_drew ?_ | refine blk_alloc ?_ _)); exact BK101.out⟩, ⟨by repeat (first | (with_reducible first | exact HB.out | apply below_alloc | apply pw_below_drewN | apply below_drew1 | refine below_set ?_ GE101.out) | exact HB.out)⟩⟩
  ·rw [if_neg c4] at H
   have c4b0 : decide (a0_0 < 1) = false := decide_eq_false c4
   clear c4
   (first | rw [c4b0] | (simp only [i64_w, i32_w]; rw [c4b0]) | skip)
   have H' := Aside0.mk H
   clear H
   have hcz6_0 : w3.cell? ⟨gb101, 0, none⟩ = some (.int .i64 a0_0) := (blk_cell BK101.out 0).trans rfl
   have hcz6_1 : w3.cell? ⟨gb101, 1, none⟩ = some (.string a0_1) := (blk_cell BK101.out 1).trans rfl
   have hcz6_2 : w3.cell? ⟨gb101, 2, none⟩ = some (.bool a0_2) := (blk_cell BK101.out 2).trans rfl
   have hcz6_3 : w3.cell? ⟨gb101, 3, none⟩ = some (.bool a0_3) := (blk_cell BK101.out 3).trans rfl
   have hfz6_0 := blk_frozen BK101.out 0
   have hfz6_1 := blk_frozen BK101.out 1
   have hfz6_2 := blk_frozen BK101.out 2
   have hfz6_3 := blk_frozen BK101.out 3
   go_wp2
   go_meet
   case rel => exact ⟨_, (decide (a0_0 > 4)), (by first | rfl | (simp; done) | (simp [*]; done)), H', ⟨by first | omega | exact Nat.le_refl _⟩, ⟨by (with_reducible repeat (first | refine blk_drewN ?_ _ | refine blk_drew ?_ | refine blk_alloc ?_ _)); exact BK101.out⟩, ⟨by repeat (first | (with_reducible first | exact HB.out | apply below_alloc | apply pw_below_drewN | apply below_drew1 | refine below_set ?_ GE101.out) | exact HB.out)⟩⟩
 case rest =>
  clear HC2
  try clear p2
  try clear c4
  try clear c4b0
  try clear hcz5_0
  try clear hcz5_1
  try clear hcz5_2
  try clear hcz5_3
  try clear hcz6_0
  try clear hcz6_1
  try clear hcz6_2
  try clear hcz6_3
  try clear hfz5_0
  try clear hfz5_1
  try clear hfz5_2
  try clear hfz5_3
  try clear hfz6_0
  try clear hfz6_1
  try clear hfz6_2
  try clear hfz6_3
  obtain ⟨kq, x12_1, rfl, HA, HJ1, BK101, HB⟩ := hcut
  cases kq with
  | zero => exact absurd HA.out (by simp [remoraref15_one.j0])
  | succ kj1 =>
   have H := HA.out
   clear HA
   simp only [remoraref15_one.j0] at H
   by_cases c7 : x12_1 = true
   ·subst c7
    have H1 : (some 2) = some r := by rw [if_pos rfl] at H; exact H
    clear H
    have H := H1
    clear H1
    obtain rfl := Option.some.inj H
    go_wp2
    go_ret
    exact ⟨by first | rfl | (simp [errW_none, errW_some] <;> rfl) | (simp [*, errW_none, errW_some] <;> rfl), by repeat (first | (with_reducible first | exact HB.out | apply below_alloc | apply pw_below_drewN | apply below_drew1 | refine below_set ?_ GE101.out) | exact HB.out)⟩
   ·replace c7 := Bool.eq_false_iff.mpr c7
    subst c7
    have H1 : (if (a0_1.size : Int) = 0 then (remoraref15_one.j1 kj1 (a0_1.size : Int) true a0_0 a0_1 a0_2 a0_3) else (if 0 < (a0_1.size : Int) then (if (bt a0_1 0) = 47 then (remoraref15_one.j1 kj1 (a0_1.size : Int) true a0_0 a0_1 a0_2 a0_3) else (if 0 ≤ (wrap64 ((a0_1.size : Int) - 1)) then (if (wrap64 ((a0_1.size : Int) - 1)) < (a0_1.size : Int) then (remoraref15_one.j1 kj1 (a0_1.size : Int) ((bt a0_1 (wrap64 ((a0_1.size : Int) - 1))) == 47) a0_0 a0_1 a0_2 a0_3) else (none)) else (none))) else (none))) = some r := by rw [if_neg (show ¬ (false = true) by decide)] at H; exact H
    clear H
    have H := H1
    clear H1
    have HC8 := Aside0.mk H
    clear H
    have hcz9_0 : wc.cell? ⟨gb101, 0, none⟩ = some (.int .i64 a0_0) := (blk_cell BK101.out 0).trans rfl
    have hcz9_1 : wc.cell? ⟨gb101, 1, none⟩ = some (.string a0_1) := (blk_cell BK101.out 1).trans rfl
    have hcz9_2 : wc.cell? ⟨gb101, 2, none⟩ = some (.bool a0_2) := (blk_cell BK101.out 2).trans rfl
    have hcz9_3 : wc.cell? ⟨gb101, 3, none⟩ = some (.bool a0_3) := (blk_cell BK101.out 3).trans rfl
    have hfz9_0 := blk_frozen BK101.out 0
    have hfz9_1 := blk_frozen BK101.out 1
    have hfz9_2 := blk_frozen BK101.out 2
    have hfz9_3 := blk_frozen BK101.out 3
    go_upto_region 4 with (fail)
    go_cut [31] (fun v31 wc => ∃ (kq : Nat) (x31_7 : Bool), v31 = .bool x31_7 ∧ Aside0 (remoraref15_one.j1 kq (a0_1.size : Int) x31_7 a0_0 a0_1 a0_2 a0_3 = some r) ∧ Aside0 (kq ≤ kj1) ∧ Aside0 (wc.heap[gb101]? = some (.cells #[.int .i64 a0_0, .string a0_1, .bool a0_2, .bool a0_3] 24 (0, 0))) ∧ Aside0 (Below w.heap.size w wc))
    case first =>
     have H := HC8.out
     clear HC8
     by_cases c10 : (a0_1.size : Int) = 0
     ·rw [if_pos c10] at H
      have c10b0 : ((a0_1.size : Int) == 0) = true := beq_iff_eq.mpr c10
      have c10b1 : ((a0_1.size : Int) != 0) = false := bne_eq_false_iff_eq.mpr c10
      clear c10
      (first | rw [c10b0] | (simp only [i64_w, i32_w]; rw [c10b0]) | skip)
      have H' := Aside0.mk H
      clear H
      go_wp2
      go_meet
      case rel => exact ⟨_, (true), (by first | rfl | (simp; done) | (simp [*]; done)), H', ⟨by have := HJ1.out; first | omega | exact Nat.le_refl _⟩, ⟨by (with_reducible repeat (first | refine blk_drewN ?_ _ | refine blk_drew ?_ | refine blk_alloc ?_ _)); exact BK101.out⟩, ⟨by repeat (first | (with_reducible first | exact HB.out | apply below_alloc | apply pw_below_drewN | apply below_drew1 | refine below_set ?_ GE101.out) | exact HB.out)⟩⟩
     ·rw [if_neg c10] at H
      have c10b0 : ((a0_1.size : Int) == 0) = false := beq_eq_false_iff_ne.mpr c10
      have c10b1 : ((a0_1.size : Int) != 0) = true := bne_iff_ne.mpr c10
      (first | rw [c10b0] | (simp only [i64_w, i32_w]; rw [c10b0]) | skip)
      by_cases c11 : 0 < (a0_1.size : Int)
      ·rw [if_pos c11] at H
       have c11b0 : decide (0 < (a0_1.size : Int)) = true := decide_eq_true c11
       have c11b1 : decide (0 < a0_1.size) = true := decide_eq_true (by omega)
       clear c11
       by_cases c13 : (bt a0_1 0) = 47
       ·rw [if_pos c13] at H
        have c13b0 : ((bt a0_1 0) == 47) = true := beq_iff_eq.mpr c13
        have c13b1 : ((bt a0_1 0) != 47) = false := bne_eq_false_iff_eq.mpr c13
        clear c13
        have H' := Aside0.mk H
        clear H
        have hcz14_0 : wc.cell? ⟨gb101, 0, none⟩ = some (.int .i64 a0_0) := (blk_cell BK101.out 0).trans rfl
        have hcz14_1 : wc.cell? ⟨gb101, 1, none⟩ = some (.string a0_1) := (blk_cell BK101.out 1).trans rfl
        have hcz14_2 : wc.cell? ⟨gb101, 2, none⟩ = some (.bool a0_2) := (blk_cell BK101.out 2).trans rfl
        have hcz14_3 : wc.cell? ⟨gb101, 3, none⟩ = some (.bool a0_3) := (blk_cell BK101.out 3).trans rfl
        have hfz14_0 := blk_frozen BK101.out 0
        have hfz14_1 := blk_frozen BK101.out 1
        have hfz14_2 := blk_frozen BK101.out 2
        have hfz14_3 := blk_frozen BK101.out 3
        have p12 : 0 ≤ (0 : Int) := (by omega)
        have q12 : 0 < a0_1.size := (by have : (0 : Int) < (a0_1.size : Int) := of_decide_eq_true (by first | (with_reducible assumption) | assumption); omega)
        have hx12 : ∀ h : 0 < a0_1.size, ((a0_1[0]'h).toNat : Int) = bt a0_1 0 := bt_at a0_1 0
        clear p12
        have qi12 : (0 < (a0_1.size : Int)) = True := eq_true (of_decide_eq_true (by first | (with_reducible assumption) | assumption))
        replace q12 := eq_true q12
        go_wp2
        go_meet
        case rel => exact ⟨_, (true), (by first | rfl | (simp; done) | (simp [*]; done)), H', ⟨by have := HJ1.out; first | omega | exact Nat.le_refl _⟩, ⟨by (with_reducible repeat (first | refine blk_drewN ?_ _ | refine blk_drew ?_ | refine blk_alloc ?_ _)); exact BK101.out⟩, ⟨by repeat (first | (with_reducible first | exact HB.out | apply below_alloc | apply pw_below_drewN | apply below_drew1 | refine below_set ?_ GE101.out) | exact HB.out)⟩⟩
       ·rw [if_neg c13] at H
        have c13b0 : ((bt a0_1 0) == 47) = false := beq_eq_false_iff_ne.mpr c13
        have c13b1 : ((bt a0_1 0) != 47) = true := bne_iff_ne.mpr c13
        obtain ⟨ji15, hji15⟩ : ∃ j_ : Int, (wrap64 ((a0_1.size : Int) - 1)) = j_ := ⟨_, rfl⟩
        replace H : (if 0 ≤ (ji15) then (if (ji15) < (a0_1.size : Int) then (remoraref15_one.j1 kj1 (a0_1.size : Int) ((bt a0_1 (ji15)) == 47) a0_0 a0_1 a0_2 a0_3) else (none)) else (none)) = some r := by first | (rw [hji15] at H; exact H) | (simp only [hji15] at H ⊢; exact H)
        have hji15w : (IntKind.i64.wrap ((a0_1.size : Int) - 1)) = ji15 := (i64_w _).trans hji15
        by_cases c16 : 0 ≤ (ji15)
        ·rw [if_pos c16] at H
         have c16b0 : decide (0 ≤ (ji15)) = true := decide_eq_true c16
         clear c16
         by_cases c17 : (ji15) < (a0_1.size : Int)
         ·rw [if_pos c17] at H
          have c17b0 : decide ((ji15) < (a0_1.size : Int)) = true := decide_eq_true c17
          clear c17
          have H' := Aside0.mk H
          clear H
          have hcz19_0 : wc.cell? ⟨gb101, 0, none⟩ = some (.int .i64 a0_0) := (blk_cell BK101.out 0).trans rfl
          have hcz19_1 : wc.cell? ⟨gb101, 1, none⟩ = some (.string a0_1) := (blk_cell BK101.out 1).trans rfl
          have hcz19_2 : wc.cell? ⟨gb101, 2, none⟩ = some (.bool a0_2) := (blk_cell BK101.out 2).trans rfl
          have hcz19_3 : wc.cell? ⟨gb101, 3, none⟩ = some (.bool a0_3) := (blk_cell BK101.out 3).trans rfl
          have hfz19_0 := blk_frozen BK101.out 0
          have hfz19_1 := blk_frozen BK101.out 1
          have hfz19_2 := blk_frozen BK101.out 2
          have hfz19_3 := blk_frozen BK101.out 3
          have p12 : 0 ≤ (0 : Int) := (by omega)
          have q12 : 0 < a0_1.size := (by have : (0 : Int) < (a0_1.size : Int) := of_decide_eq_true (by first | (with_reducible assumption) | assumption); omega)
          have hx12 : ∀ h : 0 < a0_1.size, ((a0_1[0]'h).toNat : Int) = bt a0_1 0 := bt_at a0_1 0
          clear p12
          have qi12 : (0 < (a0_1.size : Int)) = True := eq_true (of_decide_eq_true (by first | (with_reducible assumption) | assumption))
          replace q12 := eq_true q12
          have p18 : 0 ≤ ((ji15) : Int) := of_decide_eq_true (by first | (with_reducible assumption) | assumption)
          have q18 : (ji15) < (a0_1.size : Int) := of_decide_eq_true (by first | (with_reducible assumption) | assumption)
          have hx18 := bt_at a0_1 (ji15)
          replace p18 := eq_true p18
          replace q18 := eq_true q18
          go_wp2
          go_meet
          case rel => exact ⟨_, (((bt a0_1 (ji15)) == 47)), (by first | rfl | (simp; done) | (simp only [← hji15] <;> (first | rfl | simp)) | (simp [*]; done)), H', ⟨by have := HJ1.out; first | omega | exact Nat.le_refl _⟩, ⟨by (with_reducible repeat (first | refine blk_drewN ?_ _ | refine blk_drew ?_ | refine blk_alloc ?_ _)); exact BK101.out⟩, ⟨by repeat (first | (with_reducible first | exact HB.out | apply below_alloc | apply pw_below_drewN | apply below_drew1 | refine below_set ?_ GE101.out) | exact HB.out)⟩⟩
         ·rw [if_neg c17] at H
          exact absurd H (by simp)
        ·rw [if_neg c16] at H
         exact absurd H (by simp)
      ·rw [if_neg c11] at H
       exact absurd H (by simp)
    case rest =>
     clear HC8
     try clear c1
     try clear p1
     try clear q1
     try clear hx1
     try clear qi1
     try clear p2
     try clear c4
     try clear c4b0
     try clear p6
     try clear c7
     try clear c10
     try clear c10b0
     try clear c10b1
     try clear c11
     try clear c11b0
     try clear c11b1
     try clear p12
     try clear q12
     try clear hx12
     try clear qi12
     try clear c13
     try clear c13b0
     try clear c13b1
     try clear c16
     try clear c16b0
     try clear c17
     try clear c17b0
     try clear p18
     try clear q18
     try clear hx18
     try clear hcz14_0
     try clear hcz14_1
     try clear hcz14_2
     try clear hcz14_3
     try clear hcz19_0
     try clear hcz19_1
     try clear hcz19_2
     try clear hcz19_3
     try clear hcz5_0
     try clear hcz5_1
     try clear hcz5_2
     try clear hcz5_3
     try clear hcz6_0
     try clear hcz6_1
     try clear hcz6_2
     try clear hcz6_3
     try clear hcz9_0
     try clear hcz9_1
     try clear hcz9_2
     try clear hcz9_3
     try clear hfz14_0
     try clear hfz14_1
     try clear hfz14_2
     try clear hfz14_3
     try clear hfz19_0
     try clear hfz19_1
     try clear hfz19_2
     try clear hfz19_3
     try clear hfz5_0
     try clear hfz5_1
     try clear hfz5_2
     try clear hfz5_3
     try clear hfz6_0
     try clear hfz6_1
     try clear hfz6_2
     try clear hfz6_3
     try clear hfz9_0
     try clear hfz9_1
     try clear hfz9_2
     try clear hfz9_3
     try clear p12
     try clear p18
     try clear p2
     try clear q12
     try clear q18
     obtain ⟨kq, x31_7, rfl, HA, HJ7, BK101, HB⟩ := hcut
     cases kq with
     | zero => exact absurd HA.out (by simp [remoraref15_one.j1])
     | succ kj7 =>
      have H := HA.out
      clear HA
      simp only [remoraref15_one.j1] at H
      by_cases c20 : x31_7 = true
      ·subst c20
       have H1 : (some 5) = some r := by rw [if_pos rfl] at H; exact H
       clear H
       have H := H1
       clear H1
       obtain rfl := Option.some.inj H
       go_wp2
       go_ret
       exact ⟨by first | rfl | (simp [errW_none, errW_some] <;> rfl) | (simp [*, errW_none, errW_some] <;> rfl), by repeat (first | (with_reducible first | exact HB.out | apply below_alloc | apply pw_below_drewN | apply below_drew1 | refine below_set ?_ GE101.out) | exact HB.out)⟩
      ·replace c20 := Bool.eq_false_iff.mpr c20
       subst c20
       have H1 : (remoraref15_one.l0 kj7 (a0_1.size : Int) 0 a0_0 a0_1 a0_2 a0_3) = some r := by rw [if_neg (show ¬ (false = true) by decide)] at H; exact H
       clear H
       have H := H1
       clear H1
       have H' := Aside0.mk H
       clear H
       go_wp2
       go_loopg [4] kj7 (fun kq v4 w' => ∃ (x4_3 : Int), v4 = .int .i64 x4_3 ∧ Aside0 (remoraref15_one.l0 kq (a0_1.size : Int) x4_3 a0_0 a0_1 a0_2 a0_3 = some r) ∧ Aside0 (kq ≤ kj7) ∧ Aside0 (w'.heap[gb101]? = some (.cells #[.int .i64 a0_0, .string a0_1, .bool a0_2, .bool a0_3] 24 (0, 0))) ∧ Aside0 (Below w.heap.size w w'))
       case atStart => exact ⟨(0), (by first | rfl | (simp; done) | (simp [*]; done)), H', ⟨Nat.le_refl _⟩, ⟨by (with_reducible repeat (first | refine blk_drewN ?_ _ | refine blk_drew ?_ | refine blk_alloc ?_ _)); exact BK101.out⟩, ⟨by repeat (first | (with_reducible first | exact HB.out | apply below_alloc | apply pw_below_drewN | apply below_drew1 | refine below_set ?_ GE101.out) | exact HB.out)⟩⟩
       case round =>
        clear H'
        try clear c1
        try clear p1
        try clear q1
        try clear hx1
        try clear qi1
        try clear c2
        try clear p2
        try clear c4
        try clear c4b0
        try clear p6
        try clear c7
        try clear c10
        try clear c10b0
        try clear c10b1
        try clear c11
        try clear c11b0
        try clear c11b1
        try clear p12
        try clear q12
        try clear hx12
        try clear qi12
        try clear c13
        try clear c13b0
        try clear c13b1
        try clear c16
        try clear c16b0
        try clear c17
        try clear c17b0
        try clear p18
        try clear q18
        try clear hx18
        try clear c20
        try clear hcz14_0
        try clear hcz14_1
        try clear hcz14_2
        try clear hcz14_3
        try clear hcz19_0
        try clear hcz19_1
        try clear hcz19_2
        try clear hcz19_3
        try clear hcz5_0
        try clear hcz5_1
        try clear hcz5_2
        try clear hcz5_3
        try clear hcz6_0
        try clear hcz6_1
        try clear hcz6_2
        try clear hcz6_3
        try clear hcz9_0
        try clear hcz9_1
        try clear hcz9_2
        try clear hcz9_3
        try clear hfz14_0
        try clear hfz14_1
        try clear hfz14_2
        try clear hfz14_3
        try clear hfz19_0
        try clear hfz19_1
        try clear hfz19_2
        try clear hfz19_3
        try clear hfz5_0
        try clear hfz5_1
        try clear hfz5_2
        try clear hfz5_3
        try clear hfz6_0
        try clear hfz6_1
        try clear hfz6_2
        try clear hfz6_3
        try clear hfz9_0
        try clear hfz9_1
        try clear hfz9_2
        try clear hfz9_3
        try clear p1
        try clear p12
        try clear p18
        try clear p2
        try clear p6
        try clear q1
        try clear q12
        try clear q18
        obtain ⟨x4_3, rfl, HA, HK3, BK101, HB⟩ := hrel
        cases gk with
        | zero => exact absurd HA.out (by simp [remoraref15_one.l0])
        | succ k3 =>
         have H := HA.out
         clear HA
         simp only [remoraref15_one.l0] at H
         by_cases c21 : x4_3 < (a0_1.size : Int)
         ·rw [if_pos c21] at H
          have c21b0 : decide (x4_3 < (a0_1.size : Int)) = true := decide_eq_true c21
          clear c21
          by_cases c22 : 0 ≤ x4_3
          ·rw [if_pos c22] at H
           have c22b0 : decide (0 ≤ x4_3) = true := decide_eq_true c22
           clear c22
           by_cases c23 : x4_3 < (a0_1.size : Int)
           ·rw [if_pos c23] at H
            have c23b0 : decide (x4_3 < (a0_1.size : Int)) = true := decide_eq_true c23
            clear c23
            by_cases c25 : (bt a0_1 x4_3) = 10
            ·rw [if_pos c25] at H
             have c25b0 : ((bt a0_1 x4_3) == 10) = true := beq_iff_eq.mpr c25
             have c25b1 : ((bt a0_1 x4_3) != 10) = false := bne_eq_false_iff_eq.mpr c25
             clear c25
             obtain rfl := Option.some.inj H
             have hcz26_0 : wr.cell? ⟨gb101, 0, none⟩ = some (.int .i64 a0_0) := (blk_cell BK101.out 0).trans rfl
             have hcz26_1 : wr.cell? ⟨gb101, 1, none⟩ = some (.string a0_1) := (blk_cell BK101.out 1).trans rfl
             have hcz26_2 : wr.cell? ⟨gb101, 2, none⟩ = some (.bool a0_2) := (blk_cell BK101.out 2).trans rfl
             have hcz26_3 : wr.cell? ⟨gb101, 3, none⟩ = some (.bool a0_3) := (blk_cell BK101.out 3).trans rfl
             have hfz26_0 := blk_frozen BK101.out 0
             have hfz26_1 := blk_frozen BK101.out 1
             have hfz26_2 := blk_frozen BK101.out 2
             have hfz26_3 := blk_frozen BK101.out 3
             have p24 : 0 ≤ (x4_3 : Int) := of_decide_eq_true (by first | (with_reducible assumption) | assumption)
             have q24 : x4_3 < (a0_1.size : Int) := of_decide_eq_true (by first | (with_reducible assumption) | assumption)
             have hx24 := bt_at a0_1 x4_3
             replace p24 := eq_true p24
             replace q24 := eq_true q24
             go_wp2
             go_ret
             exact ⟨by first | rfl | (simp [errW_none, errW_some] <;> rfl) | (simp [*, errW_none, errW_some] <;> rfl), by repeat (first | (with_reducible first | exact HB.out | apply below_alloc | apply pw_below_drewN | apply below_drew1 | refine below_set ?_ GE101.out) | exact HB.out)⟩
            ·rw [if_neg c25] at H
             have c25b0 : ((bt a0_1 x4_3) == 10) = false := beq_eq_false_iff_ne.mpr c25
             have c25b1 : ((bt a0_1 x4_3) != 10) = true := bne_iff_ne.mpr c25
             have H' := Aside0.mk H
             clear H
             have hcz27_0 : wr.cell? ⟨gb101, 0, none⟩ = some (.int .i64 a0_0) := (blk_cell BK101.out 0).trans rfl
             have hcz27_1 : wr.cell? ⟨gb101, 1, none⟩ = some (.string a0_1) := (blk_cell BK101.out 1).trans rfl
             have hcz27_2 : wr.cell? ⟨gb101, 2, none⟩ = some (.bool a0_2) := (blk_cell BK101.out 2).trans rfl
             have hcz27_3 : wr.cell? ⟨gb101, 3, none⟩ = some (.bool a0_3) := (blk_cell BK101.out 3).trans rfl
             have hfz27_0 := blk_frozen BK101.out 0
             have hfz27_1 := blk_frozen BK101.out 1
             have hfz27_2 := blk_frozen BK101.out 2
             have hfz27_3 := blk_frozen BK101.out 3
             have p24 : 0 ≤ (x4_3 : Int) := of_decide_eq_true (by first | (with_reducible assumption) | assumption)
             have q24 : x4_3 < (a0_1.size : Int) := of_decide_eq_true (by first | (with_reducible assumption) | assumption)
             have hx24 := bt_at a0_1 x4_3
             replace p24 := eq_true p24
             replace q24 := eq_true q24
             go_wp2
             go_roundg k3
             case measure => have := HJ1.out; have := HJ7.out; have := HK3.out; omega
             case rel => exact ⟨(wrap64 (x4_3 + 1)), (by first | rfl | (simp; done) | (simp [*]; done)), H', ⟨by have := HJ1.out; have := HJ7.out; have := HK3.out; omega⟩, ⟨by (with_reducible repeat (first | refine blk_drewN ?_ _ | refine blk_drew ?_ | refine blk_alloc ?_ _)); exact BK101.out⟩, ⟨by repeat (first | (with_reducible first | exact HB.out | apply below_alloc | apply pw_below_drewN | apply below_drew1 | refine below_set ?_ GE101.out) | exact HB.out)⟩⟩
           ·rw [if_neg c23] at H
            exact absurd H (by simp)
          ·rw [if_neg c22] at H
           exact absurd H (by simp)
         ·rw [if_neg c21] at H
          have c21b0 : decide (x4_3 < (a0_1.size : Int)) = false := decide_eq_false c21
          clear c21
          replace H := Option.bind_eq_some_iff.mp H
          obtain ⟨t102, A280, H⟩ := H
          replace H : (some t102) = some r := H
          have A28 := Aside0.mk A280
          clear A280
          obtain rfl := Option.some.inj H
          have hcz29_0 : wr.cell? ⟨gb101, 0, none⟩ = some (.int .i64 a0_0) := (blk_cell BK101.out 0).trans rfl
          have hcz29_1 : wr.cell? ⟨gb101, 1, none⟩ = some (.string a0_1) := (blk_cell BK101.out 1).trans rfl
          have hcz29_2 : wr.cell? ⟨gb101, 2, none⟩ = some (.bool a0_2) := (blk_cell BK101.out 2).trans rfl
          have hcz29_3 : wr.cell? ⟨gb101, 3, none⟩ = some (.bool a0_3) := (blk_cell BK101.out 3).trans rfl
          have hfz29_0 := blk_frozen BK101.out 0
          have hfz29_1 := blk_frozen BK101.out 1
          have hfz29_2 := blk_frozen BK101.out 2
          have hfz29_3 := blk_frozen BK101.out 3
          go_wp2_with (first | ((with_reducible refine gate_callee (f := 60) rfl ?_); refine goesL_ (some 44) rfl rfl Tryd.func60 (by kernel_rfl) rfl #[.string a0_1] rfl (by (try simp only [List.map_toArray, List.map_cons, List.map_nil]); first | done | rfl | (simp only [List.length_drop, List.length_take]; rfl)) ?_; (with_reducible refine (remoraref14_Check.calls a0_1 t102 _ A28.out).mono ?_); rintro e w30 ⟨rfl, hb⟩; refine ⟨_, rfl, ?_⟩; have n0_ := Aside0.mk (blk_below (g := gb101) (o := .cells #[.int .i64 a0_0, .string a0_1, .bool a0_2, .bool a0_3] 24 (0, 0)) (by (with_reducible repeat (first | refine blk_drewN ?_ _ | refine blk_drew ?_ | refine blk_alloc ?_ _)); exact BK101.out) hb); have n1_ := Aside0.mk (below_step (by repeat (first | (with_reducible first | exact HB.out | apply below_alloc | apply pw_below_drewN | apply below_drew1 | refine below_set ?_ GE101.out) | exact HB.out)) hb); clear BK101; clear HB; have BK101 := n0_; have HB := n1_; clear n0_ n1_; (try clear hb); (try clear hb2); (try clear hk); (try clear hi)))
          go_ret
          exact ⟨by first | rfl | (simp [errW_none, errW_some] <;> rfl) | (simp [*, errW_none, errW_some] <;> rfl), by repeat (first | (with_reducible first | exact HB.out | apply below_alloc | apply pw_below_drewN | apply below_drew1 | refine below_set ?_ GE101.out) | exact HB.out)⟩
end Go.Proofs.YtioehkeocddniaaDoor.PA
namespace Go.Proofs.YtioehkeocddniaaDoor.PA
open Go.RowKit Go.Proofs.YtioehkeocddniaaDoorW.PrintWords Go.Proofs.YtioehkeocddniaaDoorW.PrintLast Go.Proofs.YtioehkeocddniaaDoorW.PrintMore
attribute [local go_sem] max2_int min2_int max_two min_two max_three min_three max_four min_four   -- for this text's walks alone
set_option linter.unusedVariables false
set_option linter.unusedSimpArgs false
def remoraref15_whole.l0 : Nat → Int → Int → ByteArray → Bool → Bool → Option (Bool)
 | 0, _, _, _, _, _ => none
 | k + 1, x3, x102000, x102001, x102002, x102003 => if x3 < (x102001.size : Int) then (if 0 ≤ x3 then (if (bt x102001 x3) = 47 then (some true) else (remoraref15_whole.l0 k (wrap64 (x3 + 1)) x102000 x102001 x102002 x102003)) else (none)) else (some x102003)
def remoraref15_whole.f (k : Nat) (a0_0 : Int) (a0_1 : ByteArray) (a0_2 : Bool) (a0_3 : Bool) : Option (Bool) := remoraref15_whole.l0 k 0 a0_0 a0_1 a0_2 a0_3
set_option maxHeartbeats 8000000 in
set_option maxRecDepth 100000 in
theorem remoraref15_whole.calls (k : Nat) (a0_0 : Int) (a0_1 : ByteArray) (a0_2 : Bool) (a0_3 : Bool) (r : Bool) (w : World) (h : remoraref15_whole.f k a0_0 a0_1 a0_2 a0_3 = some r) :
  Calls Tryd.prog 45 #[.agg #[.int .i64 a0_0, .string a0_1, .bool a0_2, .bool a0_3]] w fun e w' => e = .returned (.bool r) ∧ Below w.heap.size w w' := by
 have hu24 := Tryd.underlying24
 have HB := Aside0.mk (Below.refl w.heap.size w)
 have H : (remoraref15_whole.l0 k 0 a0_0 a0_1 a0_2 a0_3) = some r := h
 clear h
 have H' := Aside0.mk H
 clear H
 go_enter Tryd.func45, Tryd.ntmps45
 go_wp2_with (first | ((with_reducible refine gate_dst (N := 1) rfl ?_); refine box_event ?hg (N := 1) ?hd (cs := #[.int .i64 a0_0, .string a0_1, .bool a0_2, .bool a0_3]) (t := 24) ?hr ?_; (case hd => rfl); (case hg => rfl); (case hr => first | (go_simp; done) | (go_simp; rfl)); intro gb101 hg w2 hbox hb; have n0_ := Aside0.mk (below_step (by repeat (first | (with_reducible first | exact HB.out | apply below_alloc | apply pw_below_drewN | apply below_drew1) | exact HB.out)) hb); have n1_ := Aside0.mk (hbox); have n2_ := Aside0.mk ((by rw [hg]; exact (below_size (by repeat (first | (with_reducible first | exact HB.out | apply below_alloc | apply pw_below_drewN | apply below_drew1) | exact HB.out))) : w.heap.size ≤ gb101)); have n3_ := Aside0.mk ((by rw [hg]; exact (below_size (by repeat (first | (with_reducible first | exact HB.out | apply below_alloc | apply pw_below_drewN | apply below_drew1) | exact HB.out))) : w.heap.size ≤ gb101)); clear HB; have HB := n0_; have BK101 := n1_; have GW101 := n2_; have GE101 := n3_; clear n0_ n1_ n2_ n3_; clear hb hbox hg))
 go_loopg [3] k (fun kq v3 w' => ∃ (x3_1 : Int), v3 = .int .i64 x3_1 ∧ Aside0 (remoraref15_whole.l0 kq x3_1 a0_0 a0_1 a0_2 a0_3 = some r) ∧ Aside0 (kq ≤ k) ∧ Aside0 (w'.heap[gb101]? = some (.cells #[.int .i64 a0_0, .string a0_1, .bool a0_2, .bool a0_3] 24 (0, 0))) ∧ Aside0 (Below w.heap.size w w'))
 case atStart => exact ⟨(0), (by first | rfl | (simp; done) | (simp [*]; done)), H', ⟨Nat.le_refl _⟩, ⟨by (with_reducible repeat (first | refine blk_drewN ?_ _ | refine blk_drew ?_ | refine blk_alloc ?_ _)); exact BK101.out⟩, ⟨by repeat (first | (with_reducible first | exact HB.out | apply below_alloc | apply pw_below_drewN | apply below_drew1 | refine below_set ?_ GE101.out) | exact HB.out)⟩⟩
 case round =>
  clear H'
  try clear p2
  obtain ⟨x3_1, rfl, HA, HK1, BK101, HB⟩ := hrel
  cases gk with
  | zero => exact absurd HA.out (by simp [remoraref15_whole.l0])
  | succ k1 =>
   have H := HA.out
   clear HA
   simp only [remoraref15_whole.l0] at H
   by_cases c3 : x3_1 < (a0_1.size : Int)
   ·rw [if_pos c3] at H
    have c3b0 : decide (x3_1 < (a0_1.size : Int)) = true := decide_eq_true c3
    clear c3
    by_cases c4 : 0 ≤ x3_1
    ·rw [if_pos c4] at H
     have c4b0 : decide (0 ≤ x3_1) = true := decide_eq_true c4
     clear c4
     by_cases c6 : (bt a0_1 x3_1) = 47
     ·rw [if_pos c6] at H
      have c6b0 : ((bt a0_1 x3_1) == 47) = true := beq_iff_eq.mpr c6
      have c6b1 : ((bt a0_1 x3_1) != 47) = false := bne_eq_false_iff_eq.mpr c6
      clear c6
      obtain rfl := Option.some.inj H
      have hcz7_0 : wr.cell? ⟨gb101, 0, none⟩ = some (.int .i64 a0_0) := (blk_cell BK101.out 0).trans rfl
      have hcz7_1 : wr.cell? ⟨gb101, 1, none⟩ = some (.string a0_1) := (blk_cell BK101.out 1).trans rfl
      have hcz7_2 : wr.cell? ⟨gb101, 2, none⟩ = some (.bool a0_2) := (blk_cell BK101.out 2).trans rfl
      have hcz7_3 : wr.cell? ⟨gb101, 3, none⟩ = some (.bool a0_3) := (blk_cell BK101.out 3).trans rfl
      have hfz7_0 := blk_frozen BK101.out 0
      have hfz7_1 := blk_frozen BK101.out 1
      have hfz7_2 := blk_frozen BK101.out 2
      have hfz7_3 := blk_frozen BK101.out 3
      have p5 : 0 ≤ (x3_1 : Int) := of_decide_eq_true (by first | (with_reducible assumption) | assumption)
      have q5 : x3_1 < (a0_1.size : Int) := of_decide_eq_true (by first | (with_reducible assumption) | assumption)
      have hx5 := bt_at a0_1 x3_1
      replace p5 := eq_true p5
      replace q5 := eq_true q5
      go_wp2
      go_ret
      exact ⟨by first | rfl | (simp [errW_none, errW_some] <;> rfl) | (simp [*, errW_none, errW_some] <;> rfl), by repeat (first | (with_reducible first | exact HB.out | apply below_alloc | apply pw_below_drewN | apply below_drew1 | refine below_set ?_ GE101.out) | exact HB.out)⟩
     ·rw [if_neg c6] at H
      have c6b0 : ((bt a0_1 x3_1) == 47) = false := beq_eq_false_iff_ne.mpr c6
      have c6b1 : ((bt a0_1 x3_1) != 47) = true := bne_iff_ne.mpr c6
      have H' := Aside0.mk H
      clear H
      have hcz8_0 : wr.cell? ⟨gb101, 0, none⟩ = some (.int .i64 a0_0) := (blk_cell BK101.out 0).trans rfl
      have hcz8_1 : wr.cell? ⟨gb101, 1, none⟩ = some (.string a0_1) := (blk_cell BK101.out 1).trans rfl
      have hcz8_2 : wr.cell? ⟨gb101, 2, none⟩ = some (.bool a0_2) := (blk_cell BK101.out 2).trans rfl
      have hcz8_3 : wr.cell? ⟨gb101, 3, none⟩ = some (.bool a0_3) := (blk_cell BK101.out 3).trans rfl
      have hfz8_0 := blk_frozen BK101.out 0
      have hfz8_1 := blk_frozen BK101.out 1
      have hfz8_2 := blk_frozen BK101.out 2
      have hfz8_3 := blk_frozen BK101.out 3
      have p5 : 0 ≤ (x3_1 : Int) := of_decide_eq_true (by first | (with_reducible assumption) | assumption)
      have q5 : x3_1 < (a0_1.size : Int) := of_decide_eq_true (by first | (with_reducible assumption) | assumption)
      have hx5 := bt_at a0_1 x3_1
      replace p5 := eq_true p5
      replace q5 := eq_true q5
      go_wp2
      go_roundg k1
      case measure => have := HK1.out; omega
      case rel => exact ⟨(wrap64 (x3_1 + 1)), (by first | rfl | (simp; done) | (simp [*]; done)), H', ⟨by have := HK1.out; omega⟩, ⟨by (with_reducible repeat (first | refine blk_drewN ?_ _ | refine blk_drew ?_ | refine blk_alloc ?_ _)); exact BK101.out⟩, ⟨by repeat (first | (with_reducible first | exact HB.out | apply below_alloc | apply pw_below_drewN | apply below_drew1 | refine below_set ?_ GE101.out) | exact HB.out)⟩⟩
    ·rw [if_neg c4] at H
     exact absurd H (by simp)
   ·rw [if_neg c3] at H
    have c3b0 : decide (x3_1 < (a0_1.size : Int)) = false := decide_eq_false c3
    clear c3
    obtain rfl := Option.some.inj H
    have hcz9_0 : wr.cell? ⟨gb101, 0, none⟩ = some (.int .i64 a0_0) := (blk_cell BK101.out 0).trans rfl
    have hcz9_1 : wr.cell? ⟨gb101, 1, none⟩ = some (.string a0_1) := (blk_cell BK101.out 1).trans rfl
    have hcz9_2 : wr.cell? ⟨gb101, 2, none⟩ = some (.bool a0_2) := (blk_cell BK101.out 2).trans rfl
    have hcz9_3 : wr.cell? ⟨gb101, 3, none⟩ = some (.bool a0_3) := (blk_cell BK101.out 3).trans rfl
    have hfz9_0 := blk_frozen BK101.out 0
    have hfz9_1 := blk_frozen BK101.out 1
    have hfz9_2 := blk_frozen BK101.out 2
    have hfz9_3 := blk_frozen BK101.out 3
    go_wp2
    go_ret
    exact ⟨by first | rfl | (simp [errW_none, errW_some] <;> rfl) | (simp [*, errW_none, errW_some] <;> rfl), by repeat (first | (with_reducible first | exact HB.out | apply below_alloc | apply pw_below_drewN | apply below_drew1 | refine below_set ?_ GE101.out) | exact HB.out)⟩
end Go.Proofs.YtioehkeocddniaaDoor.PA
namespace Go.Proofs.YtioehkeocddniaaDoor.PA
open Go.RowKit Go.Proofs.YtioehkeocddniaaDoorW.PrintWords Go.Proofs.YtioehkeocddniaaDoorW.PrintLast Go.Proofs.YtioehkeocddniaaDoorW.PrintMore
attribute [local go_sem] max2_int min2_int max_two min_two max_three min_three max_four min_four
set_option linter.unusedVariables false
set_option linter.unusedSimpArgs false
def tkB : Tok → Int → Bool
 | .lit d, c => c == d
 | .star2, _ => true
 | .star, c => c != 47
 | .one, c => c != 47
 | .cls n s, c => c != 47 && s c.toNat != n
def SgHas (w : World) (g o : Nat) (x : Sg) : Prop := ∀ i u, (sgL x)[i]? = some u → w.cell? ⟨g, o + i, none⟩ = some u
set_option maxHeartbeats 4000000 in
set_option maxRecDepth 100000 in
theorem takes_call (t : Tok) (g o : Nat) (c : Nat) (hb : c < 256) (w : World) (hc : SgHas w g o (codeSg t)) :
  Calls Tryd.prog 53 #[.pointer (some ⟨g, o, none⟩), .int .u8 c] w fun e w' => e = .returned (.bool (tkB t c)) ∧ Drawn0 w w' := by
 unfold SgHas at hc
 cases t with
 | lit d =>
  have h0 := hc 0 (.int .i64 0) rfl
  have h1 := hc 1 (.int .u8 d) rfl
  clear hc
  rw [Nat.add_zero] at h0
  go_enter Tryd.func53, Tryd.ntmps53
  go_wp2
  go_ret
  exact ⟨rfl, 0, rfl⟩
 | star2 =>
  have h0 := hc 0 (.int .i64 1) rfl
  clear hc
  rw [Nat.add_zero] at h0
  go_enter Tryd.func53, Tryd.ntmps53
  go_wp2
  go_ret
  exact ⟨rfl, 0, rfl⟩
 | star =>
  have h0 := hc 0 (.int .i64 2) rfl
  clear hc
  rw [Nat.add_zero] at h0
  go_enter Tryd.func53, Tryd.ntmps53
  go_wp2
  go_ret
  exact ⟨rfl, 0, rfl⟩
 | one =>
  have h0 := hc 0 (.int .i64 3) rfl
  clear hc
  rw [Nat.add_zero] at h0
  go_enter Tryd.func53, Tryd.ntmps53
  go_wp2
  go_ret
  exact ⟨rfl, 0, rfl⟩
 | cls nt s =>
  have h0 := hc 0 (.int .i64 4) rfl
  have h2 := hc 2 (.bool nt) rfl
  have h3 := hc (3 + c) (.bool (s c)) (sgL_get _ c hb)
  rw [← Nat.add_assoc] at h3
  clear hc
  rw [Nat.add_zero] at h0
  have e3 : ((c : Int) < 256) = True := eq_true (by omega)
  by_cases h47 : c = 47
  ·subst h47
   go_enter Tryd.func53, Tryd.ntmps53
   go_wp2
   go_quiet (fail)
   go_wp2
   go_ret
   exact ⟨rfl, _, rfl⟩
  ·have q1 : ((c : Int) != 47) = true := bne_iff_ne.2 (by omega)
   go_enter Tryd.func53, Tryd.ntmps53
   go_wp2
   go_quiet (fail)
   go_wp2
   go_ret
   exact ⟨by simp only [tkB, q1, Bool.true_and, Int.toNat_natCast]; rfl, _, rfl⟩
set_option maxHeartbeats 4000000 in
set_option maxRecDepth 100000 in
theorem rtakes_call (t : Tok) (c : Nat) (hb : c < 256) (w : World) :
  Calls Tryd.prog 66 #[.agg (sgA (refSg t)), .int .u8 c] w fun e w' => e = .returned (.bool (tkB t c)) ∧ Below w.heap.size w w' := by
 cases t with
 | lit d =>
  have HB := Aside0.mk (below_alloc (Below.refl w.heap.size w) (.cells (sgA (refSg (.lit d))) 76))
  have kb := Aside0.mk (blk_new w (.cells (sgA (refSg (.lit d))) 76))
  have h0 := blk_cell kb.out 0
  change _ = some (Value.int .i64 0) at h0
  have h1 := blk_cell kb.out 1
  change _ = some (Value.int .u8 d) at h1
  have hcm : (d == (c : Int)) = ((c : Int) == d) := by rw [Bool.eq_iff_iff, beq_iff_eq, beq_iff_eq]; exact eq_comm
  go_enter Tryd.func66, Tryd.ntmps66
  go_wp2
  go_ret
  exact ⟨by simp only [tkB, ← hcm]; rfl, HB.out⟩
 | star2 =>
  have HB := Aside0.mk (below_alloc (Below.refl w.heap.size w) (.cells (sgA (refSg .star2)) 76))
  have kb := Aside0.mk (blk_new w (.cells (sgA (refSg .star2)) 76))
  have h0 := blk_cell kb.out 0
  change _ = some (Value.int .i64 3) at h0
  go_enter Tryd.func66, Tryd.ntmps66
  go_wp2
  go_ret
  exact ⟨rfl, HB.out⟩
 | star =>
  have HB := Aside0.mk (below_alloc (Below.refl w.heap.size w) (.cells (sgA (refSg .star)) 76))
  have kb := Aside0.mk (blk_new w (.cells (sgA (refSg .star)) 76))
  have h0 := blk_cell kb.out 0
  change _ = some (Value.int .i64 2) at h0
  go_enter Tryd.func66, Tryd.ntmps66
  go_wp2
  go_ret
  exact ⟨rfl, HB.out⟩
 | one =>
  have HB := Aside0.mk (below_alloc (Below.refl w.heap.size w) (.cells (sgA (refSg .one)) 76))
  have kb := Aside0.mk (blk_new w (.cells (sgA (refSg .one)) 76))
  have h0 := blk_cell kb.out 0
  change _ = some (Value.int .i64 1) at h0
  go_enter Tryd.func66, Tryd.ntmps66
  go_wp2
  go_ret
  exact ⟨rfl, HB.out⟩
 | cls nt s =>
  have HB := Aside0.mk (below_alloc (Below.refl w.heap.size w) (.cells (sgA (refSg (.cls nt s))) 76))
  have kb := Aside0.mk (blk_new w (.cells (sgA (refSg (.cls nt s))) 76))
  have h0 := blk_cell kb.out 0
  change _ = some (Value.int .i64 4) at h0
  have h2 := blk_cell kb.out 2
  change _ = some (Value.bool nt) at h2
  have h3 := (blk_cell kb.out (3 + c)).trans (sgA_get _ c hb)
  have e3 : ((c : Int) < 256) = True := eq_true (by omega)
  by_cases h47 : c = 47
  ·subst h47
   go_enter Tryd.func66, Tryd.ntmps66
   go_wp2
   go_quiet (fail)
   go_wp2
   go_ret
   exact ⟨rfl, by first | exact below_drew1 HB.out | exact pw_below_drewN HB.out _⟩
  ·have q1 : ((c : Int) != 47) = true := bne_iff_ne.2 (by omega)
   go_enter Tryd.func66, Tryd.ntmps66
   go_wp2
   go_quiet (fail)
   go_wp2
   go_ret
   exact ⟨by simp only [tkB, q1, Bool.true_and, Int.toNat_natCast]; rfl, by first | exact below_drew1 HB.out | exact pw_below_drewN HB.out _⟩
end Go.Proofs.YtioehkeocddniaaDoor.PA
namespace Go.Proofs.YtioehkeocddniaaDoor.PA
open Go.RowKit Go.Proofs.YtioehkeocddniaaDoorW.PrintWords Go.Proofs.YtioehkeocddniaaDoorW.PrintLast Go.Proofs.YtioehkeocddniaaDoorW.PrintMore
attribute [local go_sem] max2_int min2_int max_two min_two max_three min_three max_four min_four
set_option linter.unusedVariables false
set_option linter.unusedSimpArgs false
def bA (f : Nat → Bool) (n : Nat) : Array Value := ((List.range n).map fun i => .bool (f i)).toArray
theorem bA_len (f : Nat → Bool) (n : Nat) : (bA f n).size = n := by simp [bA]
theorem bA_get (f : Nat → Bool) (n i : Nat) (h : i < n) : (bA f n)[i]? = some (.bool (f i)) := by simp [bA, h]
theorem bA_set (f : Nat → Bool) (n j : Nat) : (bA f n).setIfInBounds j (.bool true) = bA (addS f j) n := by
 apply Array.ext_getElem?
 intro i
 rw [Array.getElem?_setIfInBounds, bA_len]
 by_cases hn : i < n
 ·rw [bA_get _ _ _ hn, bA_get _ _ _ hn]
  by_cases hi : j = i
  ·subst hi
   rw [if_pos rfl, if_pos hn]
   simp [addS]
  ·have : (i == j) = false := beq_eq_false_iff_ne.2 (Ne.symm hi)
   rw [if_neg hi]
   simp [addS, this]
 ·rw [Array.getElem?_eq_none (by rw [bA_len]; omega)]
  by_cases hi : j = i
  ·subst hi
   rw [if_pos rfl, if_neg hn, Array.getElem?_eq_none (by rw [bA_len]; omega)]
  ·rw [if_neg hi, Array.getElem?_eq_none (by rw [bA_len]; omega)]
theorem bA_made (n : Nat) : madeCells #[.bool false] n = bA noS n := by
 apply Array.ext_getElem?
 intro i
 by_cases hn : i < n
 ·rw [bA_get _ _ _ hn]
  simp [madeCells, hn, noS, Nat.mod_one]
 ·rw [Array.getElem?_eq_none (xs := madeCells #[.bool false] n) (by simp [madeCells]; omega), Array.getElem?_eq_none (by rw [bA_len]; omega)]
def SgVal (T : Nat) (w : World) (A : Option Addr) (l : List Sg) : Prop := l ≠ [] → ∃ g cur, A = some ⟨g, 0, none⟩ ∧ w.heap[g]? = some (.cells cur T (0, 0)) ∧ ∀ j x, l[j]? = some x → ∀ i u, (sgL x)[i]? = some u → cur[j * 259 + i]? = some u
theorem SgVal.of {T : Nat} {w0 w : World} {v : Value} {l : List Sg} (h : SgRow T w0 w v l) : ∃ A c, v = .slice A l.length c ∧ SgVal T w A l := by
 obtain ⟨_, _, inner, ⟨h1, h2⟩, h3⟩ := h
 rcases h2 with ⟨rfl, h0⟩ | ⟨g, cap, cur, rfl, _, hh, _, _, _, ht⟩
 ·exact ⟨none, 0, by rw [h0], fun hl => absurd (List.length_eq_zero_iff.1 h0) hl⟩
 ·have ht : List.take (l.length * 259) cur.toList = inner := ht
  refine ⟨_, cap, rfl, fun _ => ⟨g, cur, rfl, hh, fun j x hj i u hi => ?_⟩⟩
  have hr : (inner.drop (j * 259)).take 259 = sgL x := h3.2 j x hj
  have hi2 : i < 259 := by
   have := (List.getElem?_eq_some_iff.1 hi).1
   rwa [sgL_len] at this
  have hjl := (List.getElem?_eq_some_iff.1 hj).1
  have hi' := hi
  rw [← hr, List.getElem?_take_of_lt hi2, List.getElem?_drop, ← ht] at hi'
  have hlt : j * 259 + i < l.length * 259 := by
   have : (j + 1) * 259 ≤ l.length * 259 := Nat.mul_le_mul_right _ hjl
   omega
  rw [List.getElem?_take_of_lt hlt] at hi'
  rwa [Array.getElem?_toList] at hi'
theorem SgVal.of_map {T : Nat} {w0 w : World} {v : Value} {l : List Tok} {f : Tok → Sg} (h : SgRow T w0 w v (l.map f)) : ∃ A c, v = .slice A l.length c ∧ SgVal T w A (l.map f) := by
 obtain ⟨A, c, rfl, h2⟩ := SgVal.of h
 exact ⟨A, c, by rw [List.length_map], h2⟩
theorem SgVal.step {T : Nat} {w w2 : World} {A : Option Addr} {l : List Sg} (h : SgVal T w A l) (hb : Below w.heap.size w w2) : SgVal T w2 A l := fun hl => by
 obtain ⟨g, cur, h1, h2, h3⟩ := h hl
 exact ⟨g, cur, h1, blk_below h2 hb, h3⟩
theorem SgVal.row {T t : Nat} {w : World} {A : Option Addr} {l : List Sg} {ga : Nat} {X : Array Value} (h : SgVal T w A l) (hb : w.heap[ga]? = some (.cells X t (0, 0))) (hne : T ≠ t) (Y : Array Value) : SgVal T (w.setRow ga Y) A l := fun hl => by
 obtain ⟨g, cur, h1, h2, h3⟩ := h hl
 refine ⟨g, cur, h1, (setRow_other _ _ _ _ ?_).trans h2, h3⟩
 rintro rfl
 rw [h2] at hb
 injection hb with hb
 injection hb with _ hb
 exact hne hb
theorem SgVal.has {T : Nat} {w : World} {A : Option Addr} {l : List Sg} (h : SgVal T w A l) (k : Nat) (x : Sg) (hk : l[k]? = some x) : ∃ g, A = some ⟨g, 0, none⟩ ∧ SgHas w g (k * 259) x := by
 obtain ⟨g, cur, h1, h2, h3⟩ := h (by rintro rfl; simp at hk)
 exact ⟨g, h1, fun i u hi => (blk_cell h2 _).trans (h3 k x hk i u hi)⟩
theorem setRow_cell {w : World} {g t : Nat} {cs : Array Value} (h : w.heap[g]? = some (.cells cs t (0, 0))) (i : Nat) (u : Value) : w.setCell ⟨g, i, none⟩ u = w.setRow g (cs.setIfInBounds i u) := setCell_eq_setRow w g i cs t (0, 0) u h
def starT : Tok → Bool
 | .star2 => true
 | .star => true
 | _ => false
def kindT (t : Tok) : Int := (codeSg t).k
theorem kindT_star {t : Tok} (h : starT t = true) : kindT t = 1 ∨ kindT t = 2 := by
 cases t <;> first | exact .inl rfl | exact .inr rfl | exact absurd h (by simp [starT])
theorem kindT_no {t : Tok} (h : starT t = false) : (kindT t == 1) = false ∧ (kindT t == 2) = false := by
 cases t <;> first | exact ⟨rfl, rfl⟩ | exact absurd h (by simp [starT])
def emS (l : List Tok) (f : Nat → Bool) : Nat → (Nat → Bool)
 | 0 => f
 | k + 1 => if (emS l f k k && starT (l.getD k .one)) = true then addS (emS l f k) (k + 1) else emS l f k
set_option maxHeartbeats 4000000 in
set_option maxRecDepth 100000 in
theorem empty_call (l : List Tok) (A : Option Addr) (cp ga ca : Nat) (f : Nat → Bool) (w : World) (hl : l.length < 1000000) (hS : SgVal 64 w A (l.map codeSg)) (hA : w.heap[ga]? = some (.cells (bA f (l.length + 1)) 4 (0, 0))) :
  Calls Tryd.prog 52 #[.slice A l.length cp, .slice (some ⟨ga, 0, none⟩) (l.length + 1) ca] w fun e w' => e = .returned (.tuple #[]) ∧ w' = w.setRow ga (bA (emS l f l.length) (l.length + 1)) := by
 have HS := Aside0.mk hS
 have HA := Aside0.mk hA
 clear hS hA
 have h0 := Aside0.mk (show w = w.setRow ga (bA (emS l f 0) (l.length + 1)) from (setRow_self w ga _ _ _ HA.out).symm)
 go_enter Tryd.func52, Tryd.ntmps52
 go_wp2
 go_loopw [7] (fun v7 wr => ∃ k : Nat, v7 = .int .i64 k ∧ k ≤ l.length ∧ Aside0 (wr = w.setRow ga (bA (emS l f k) (l.length + 1)))) (fun v7 _ => l.length - (intOf v7).toNat)
 case atStart => exact ⟨0, rfl, Nat.zero_le _, h0⟩
 case round =>
  clear h0
  obtain ⟨k, rfl, hk, HW⟩ := hrel
  by_cases hlt : k < l.length
  ·have e0 : ((k : Int) < (l.length : Int)) = True := eq_true (by omega)
   have e1 : ((k : Int) < ((l.length : Int) + 1)) = True := eq_true (by omega)
   have e2 : (((k : Int) + 1) < ((l.length : Int) + 1)) = True := eq_true (by omega)
   have HB := Aside0.mk (show wr.heap[ga]? = some (.cells (bA (emS l f k) (l.length + 1)) 4 (0, 0)) by rw [HW.out]; exact setRow_heap _ _ _ _ _ _ HA.out)
   obtain ⟨t, ht⟩ : ∃ t, l[k]? = some t := ⟨_, List.getElem?_eq_getElem hlt⟩
   have hmk : (l.map codeSg)[k]? = some (codeSg t) := by rw [List.getElem?_map, ht]; rfl
   have hS1 : SgVal 64 wr A (l.map codeSg) := by rw [HW.out]; exact HS.out.row HA.out (by decide) _
   obtain ⟨g, hg, hh⟩ := hS1.has k _ hmk
   have hkd := hh 0 (.int .i64 (kindT t)) rfl
   rw [Nat.add_zero] at hkd
   have hgd : l.getD k .one = t := by rw [List.getD_eq_getElem?_getD, ht]; rfl
   have hat := (blk_cell HB.out k).trans (bA_get _ _ k (by omega))
   have hst := (blk_cell HB.out (k + 1)).trans (bA_get _ _ (k + 1) (by omega))
   have hfr := blk_frozen HB.out (k + 1)
   clear hh hS1 hmk ht
   have hem : emS l f (k + 1) = (if (emS l f k k && starT t) = true then addS (emS l f k) (k + 1) else emS l f k) := by rw [emS, hgd]
   clear hgd
   subst hg
   by_cases hb : emS l f k k = true
   ·rw [hb] at hat
    by_cases hst2 : starT t = true
    ·have HE := Aside0.mk (show emS l f (k + 1) = addS (emS l f k) (k + 1) by rw [hem, hb, hst2]; rfl)
     clear hem
     rcases kindT_star hst2 with hkk | hkk
     all_goals
      rw [hkk] at hkd
      clear hkk hst2 hb
      go_wp2
      have n0_ := Aside0.mk (setRow_cell HB.out (k + 1) (.bool true))
      go_roundw
      case rel => exact ⟨k + 1, by go_num, by omega, ⟨by rw [n0_.out, bA_set, HE.out, HW.out, setRow_setRow]⟩⟩
      case measure => simp [intOf]; omega
    ·have hst3 : starT t = false := Bool.eq_false_iff.2 hst2
     have HE := Aside0.mk (show emS l f (k + 1) = emS l f k by rw [hem, hb, hst3]; rfl)
     clear hem
     obtain ⟨q1, q2⟩ := kindT_no hst3
     clear hst2 hst3 hb
     go_wp2
     go_roundw
     case rel => exact ⟨k + 1, by go_num, by omega, ⟨by rw [HE.out]; exact HW.out⟩⟩
     case measure => simp [intOf]; omega
   ·have hb2 : emS l f k k = false := Bool.eq_false_iff.2 hb
    have HE := Aside0.mk (show emS l f (k + 1) = emS l f k by rw [hem, hb2]; rfl)
    rw [hb2] at hat
    clear hem hb hb2
    go_wp2
    go_roundw
    case rel => exact ⟨k + 1, by go_num, by omega, ⟨by rw [HE.out]; exact HW.out⟩⟩
    case measure => simp [intOf]; omega
  ·obtain rfl : k = l.length := by omega
   have e0 : ((l.length : Int) < (l.length : Int)) = False := eq_false (by omega)
   go_wp2
   go_end0
   exact ⟨rfl, HW.out⟩
end Go.Proofs.YtioehkeocddniaaDoor.PA
namespace Go.Proofs.YtioehkeocddniaaDoor.PA
open Go.RowKit Go.Proofs.YtioehkeocddniaaDoorW.PrintWords Go.Proofs.YtioehkeocddniaaDoorW.PrintLast Go.Proofs.YtioehkeocddniaaDoorW.PrintMore
attribute [local go_sem] max2_int min2_int max_two min_two max_three min_three max_four min_four
set_option linter.unusedVariables false
set_option linter.unusedSimpArgs false
theorem mkb_event {P : Program} {ops : Array Oper} {rest : List Oper} {o : Oper} {a : Act} {Q : Exit → Act → World → Prop} {W : World} (hgd : o.guard = none) {N : Tmp} (_hd : o.dst = some N) {m : Nat} {cs : Array Value} {t : TypeId}
  (hrun : (execOp a.eval o).run P W = .ok (.value (.slice (some ⟨W.heap.size, 0, none⟩) m m)) (W.alloc (.cells cs t (0, 0))))
  (h : ∀ g, g = W.heap.size → ∀ w1, w1.heap[g]? = some (.cells cs t (0, 0)) → Below W.heap.size W w1 → wpList P ops Q rest (a.put o.dst (.slice (some ⟨g, 0, none⟩) m m)) w1) : wpList P ops Q (o :: rest) a W :=
 Kd.event_run hgd hrun (h _ rfl _ (blk_new W _) (below_alloc (Below.refl _ _) _))
def nxS (l : List Tok) (f : Nat → Bool) (c : Int) : Nat → (Nat → Bool)
 | 0 => noS
 | k + 1 => if (f k && tkB (l.getD k .one) c) = true then (if starT (l.getD k .one) = true then addS (nxS l f c k) k else addS (nxS l f c k) (k + 1)) else nxS l f c k
def stS (l : List Tok) (s : ByteArray) : Nat → (Nat → Bool)
 | 0 => emS l (addS noS 0) l.length
 | i + 1 => emS l (nxS l (stS l s i) (bt s (i : Int)) l.length) l.length
theorem stS_succ (l : List Tok) (s : ByteArray) (i : Nat) : stS l s (i + 1) = emS l (nxS l (stS l s i) (bt s (i : Int)) l.length) l.length := rfl
theorem SgHas.drewN {w : World} {g o : Nat} {x : Sg} (h : SgHas w g o x) (q : Nat) : SgHas (w.drewN q) g o x := fun i u hi => by
 have := h i u hi
 simpa using this
structure MW (T BO : Nat) (w wr : World) (A : Option Addr) (l : List Tok) (ga : Nat) (F : Nat → Bool) : Prop where
 below : Below w.heap.size w wr
 sg : SgVal T wr A (l.map codeSg)
 blk : wr.heap[ga]? = some (.cells (bA F (l.length + 1)) BO (0, 0))
 lo : w.heap.size ≤ ga
structure MW2 (T BO : Nat) (w wr : World) (A : Option Addr) (l : List Tok) (ga : Nat) (F : Nat → Bool) (gb : Nat) (G : Nat → Bool) : Prop extends MW T BO w wr A l ga F where
 blk2 : wr.heap[gb]? = some (.cells (bA G (l.length + 1)) BO (0, 0))
 lo2 : ga < gb
 ne : T ≠ BO
section
variable {T BO : Nat} {w wr w2 : World} {A : Option Addr} {l : List Tok} {ga gb : Nat} {F G : Nat → Bool}
theorem MW.step (h : MW T BO w wr A l ga F) (hb : Below wr.heap.size wr w2) : MW T BO w w2 A l ga F := ⟨below_step h.below hb, h.sg.step hb, blk_below h.blk hb, h.lo⟩
theorem MW.row (h : MW T BO w wr A l ga F) (hne : T ≠ BO) (F2 : Nat → Bool) : MW T BO w (wr.setRow ga (bA F2 (l.length + 1))) A l ga F2 :=
 ⟨below_setRow h.below h.lo _, h.sg.row h.blk hne _, setRow_heap _ _ _ _ _ _ h.blk, h.lo⟩
theorem MW.put (h : MW T BO w wr A l ga F) (hne : T ≠ BO) (i : Nat) : MW T BO w (wr.setCell ⟨ga, i, none⟩ (.bool true)) A l ga (addS F i) := by
 have := h.row hne (addS F i)
 rwa [← bA_set, ← setRow_cell h.blk] at this
theorem MW2.make (h : MW 64 4 w wr A l ga F) {w9 : World} (hg : gb = wr.heap.size) (hbox : w9.heap[gb]? = some (.cells (bA noS (l.length + 1)) 4 (0, 0))) (hb : Below wr.heap.size wr w9) : MW2 64 4 w w9 A l ga F gb noS :=
 ⟨h.step hb, hbox, by rw [hg]; exact blk_lt h.blk, by decide⟩
theorem MW2.step (h : MW2 T BO w wr A l ga F gb G) (hb : Below wr.heap.size wr w2) : MW2 T BO w w2 A l ga F gb G := ⟨h.toMW.step hb, blk_below h.blk2 hb, h.lo2, h.ne⟩
theorem MW2.put (h : MW2 T BO w wr A l ga F gb G) (i : Nat) : MW2 T BO w (wr.setCell ⟨gb, i, none⟩ (.bool true)) A l ga F gb (addS G i) := by
 rw [setRow_cell h.blk2, bA_set]
 exact ⟨⟨below_setRow h.below (Nat.le_trans h.lo (Nat.le_of_lt h.lo2)) _, h.sg.row h.blk2 h.ne _, (setRow_other _ _ _ _ (Nat.ne_of_lt h.lo2)).trans h.blk, h.lo⟩, setRow_heap _ _ _ _ _ _ h.blk2, h.lo2, h.ne⟩
theorem MW2.take (h : MW2 T BO w wr A l ga F gb G) : MW T BO w wr A l gb G := ⟨h.below, h.sg, h.blk2, Nat.le_trans h.lo (Nat.le_of_lt h.lo2)⟩
theorem MW.make {v : Value} (h : SgRow 64 w wr v (l.map codeSg)) (hS : SgVal 64 wr A (l.map codeSg)) {w9 : World} (hg : ga = wr.heap.size) (hbox : w9.heap[ga]? = some (.cells (bA noS (l.length + 1)) 4 (0, 0))) (hb : Below wr.heap.size wr w9) : MW 64 4 w w9 A l ga noS :=
 ⟨below_step h.1 hb, hS.step hb, hbox, by rw [hg]; exact below_size h.1⟩
end
theorem parse_len : ∀ (n : Nat) (s : List Int) (l : List Tok), parse n s = some l → l.length ≤ s.length
 | 0, _, _, h => by simp [parse] at h
 | n + 1, [], l, h => by
  simp [parse] at h
  subst h
  simp
 | n + 1, c :: r, l, h => by
  have key : ∀ (q : List Int) (t : Tok), q.length ≤ r.length → (parse n q).map (t :: ·) = some l → l.length ≤ (c :: r).length := fun q t hq hp => by
   obtain ⟨l2, h2, h3⟩ := Option.map_eq_some_iff.1 hp
   have := parse_len n q l2 h2
   rw [← h3]
   simp
   omega
  rw [parse_eq] at h
  split at h
  ·exact key _ _ (sk_len r) h
  ·split at h
   ·exact key _ _ (Nat.le_refl _) h
   ·split at h
    ·cases hc : cls0 r with
     | none => rw [hc] at h; simp at h
     | some tr =>
      rw [hc] at h
      exact key _ _ (Nat.le_of_lt (cls0_len hc)) h
    ·split at h
     ·cases r with
      | nil => simp at h
      | cons d r' => exact key _ _ (by simp) h
     ·exact key _ _ (Nat.le_refl _) h
set_option maxHeartbeats 8000000 in
set_option maxRecDepth 100000 in
theorem match_call (a0 a1 : ByteArray) (hs : a0.size < 1000000) (hs1 : a1.size < 1000000) (w : World) :
  Calls Tryd.prog 27 #[.string a0, .string a1] w fun e w' => e = .returned (.bool (match (if a0.size ≤ 100 then parse (a0.size + 1) (gL a0) else none) with | none => false | some l => stS l a1 a1.size l.length)) ∧ Below w.heap.size w w' := by
 have hsc := signs_call a0 hs
 cases hp : (if a0.size ≤ 100 then parse (a0.size + 1) (gL a0) else none) with
 | none =>
  rw [hp] at hsc
  clear hp
  go_enter Tryd.func27, Tryd.ntmps27
  go_wp2_with (go_at_call 51; (with_reducible refine (hsc _).mono ?_); rintro e w1 ⟨hb, rfl⟩)
  go_ret
  exact ⟨rfl, hb⟩
 | some l =>
  rw [hp] at hsc
  have hl : l.length < 1000000 := by
   split at hp
   ·have := parse_len _ _ _ hp
    rw [gl_len] at this
    omega
   ·simp at hp
  clear hp
  have hmk : ∀ W : World, (Instr.makeSlice 60 (.int .i64 ((l.length : Int) + 1)) (.int .i64 ((l.length : Int) + 1))).run Tryd.prog W = .ok (.slice (some ⟨W.heap.size, 0, none⟩) (l.length + 1) (l.length + 1)) (W.alloc (.cells (bA noS (l.length + 1)) 4)) := fun W => by
   have := print_make_int (P := Tryd.prog) 60 4 (.bool false) 1 Tryd.underlying60 (by kernel_rfl) rfl (by decide) ((l.length + 1 : Nat) : Int) (by omega) (by simp; omega) W
   rw [bA_made] at this
   simpa using this
  go_enter Tryd.func27, Tryd.ntmps27
  go_wp2_with (first | (go_at_call 51; (with_reducible refine (hsc _).mono ?_); rintro e w1 ⟨hb1, v, rfl, hR⟩; obtain ⟨A, cp, rfl, hS⟩ := SgVal.of_map hR) | ((with_reducible refine gate_dst (N := 21) rfl ?_); refine mkb_event rfl (N := 21) ?hd (m := l.length + 1) (cs := bA noS (l.length + 1)) (t := 4) ?hr ?_; (case hd => rfl); (case hr => first | (go_simp; done) | (go_simp; rfl)); intro ga hg w9 hbox hb; have HM0 := Aside0.mk (MW.make hR hS hg hbox hb); have hz0 := (blk_cell HM0.out.blk 0).trans (bA_get _ _ 0 (by omega)); have hzf := blk_frozen HM0.out.blk 0; have hzl : ((0 : Int) < ((l.length : Int) + 1)) = True := eq_true (by omega); have HM := Aside0.mk (MW.put HM0.out (by decide) 0); clear hR hS hg hbox hb hb1 HM0) | (go_at_call 52; (with_reducible refine (empty_call l A cp _ _ _ _ hl HM.out.sg HM.out.blk).mono ?_); rintro e w3 ⟨rfl, rfl⟩; have n0_ := Aside0.mk (MW.row HM.out (by decide) (emS l (addS noS 0) l.length)); clear HM; have HM := n0_; clear n0_))
  go_loopw [7, 29] (fun v7 v29 wr => ∃ i ga : Nat, v29 = .int .i64 i ∧ v7 = .slice (some ⟨ga, 0, none⟩) (l.length + 1) (l.length + 1) ∧ i ≤ a1.size ∧ Aside0 (MW 64 4 w wr A l ga (stS l a1 i))) (fun _ v29 _ => a1.size - (intOf v29).toNat)
  case atStart => exact ⟨0, ga, by first | rfl | go_num, by first | rfl | go_num, Nat.zero_le _, HM⟩
  case round =>
   clear HM
   obtain ⟨i, ga, rfl, rfl, hi, HM⟩ := hrel
   by_cases hi2 : i < a1.size
   ·have d0 : ((i : Int) < (a1.size : Int)) = True := eq_true (by omega)
    have d1 : ∀ h : i < a1.size, ((a1[i]'h).toNat : Int) = bt a1 (i : Int) := fun h => bt_at a1 i h
    obtain ⟨cb, hcb⟩ : ∃ x : Nat, bt a1 (i : Int) = x := ⟨(bt a1 (i : Int)).toNat, by have := bt_range a1 (i : Int); omega⟩
    have hc256 : cb < 256 := by have := bt_range a1 (i : Int); omega
    rw [hcb] at d1
    go_wp2_with (first | ((with_reducible refine gate_dst (N := 35) rfl ?_); refine mkb_event rfl (N := 35) ?hd (m := l.length + 1) (cs := bA noS (l.length + 1)) (t := 4) ?hr ?_; (case hd => rfl); (case hr => first | (go_simp; done) | (go_simp; rfl)); intro gb hg w9 hbox hb; have HM2 := Aside0.mk (MW2.make HM.out hg hbox hb); clear HM hg hbox hb))
    go_loopw [38] (fun v38 wi => ∃ k : Nat, v38 = .int .i64 k ∧ k ≤ l.length ∧ Aside0 (MW2 64 4 w wi A l ga (stS l a1 i) gb (nxS l (stS l a1 i) cb k))) (fun v38 _ => l.length - (intOf v38).toNat)
    case atStart => exact ⟨0, rfl, Nat.zero_le _, HM2⟩
    case round =>
     clear HM2
     obtain ⟨k, rfl, hk, HM2⟩ := hrel
     by_cases hlt : k < l.length
     ·have e0 : ((k : Int) < (l.length : Int)) = True := eq_true (by omega)
      have e1 : ((k : Int) < ((l.length : Int) + 1)) = True := eq_true (by omega)
      have e2 : (((k : Int) + 1) < ((l.length : Int) + 1)) = True := eq_true (by omega)
      obtain ⟨t, ht⟩ : ∃ t, l[k]? = some t := ⟨_, List.getElem?_eq_getElem hlt⟩
      have hmk_ : (l.map codeSg)[k]? = some (codeSg t) := by rw [List.getElem?_map, ht]; rfl
      obtain ⟨g, hg, hh⟩ := HM2.out.sg.has k _ hmk_
      have hgd : l.getD k .one = t := by rw [List.getD_eq_getElem?_getD, ht]; rfl
      have hkd := hh 0 (.int .i64 (kindT t)) rfl
      rw [Nat.add_zero] at hkd
      have HH := Aside0.mk hh
      clear hh hmk_ ht
      have hnx : nxS l (stS l a1 i) cb (k + 1) = (if (stS l a1 i k && tkB t cb) = true then (if starT t = true then addS (nxS l (stS l a1 i) cb k) k else addS (nxS l (stS l a1 i) cb k) (k + 1)) else nxS l (stS l a1 i) cb k) := by rw [nxS, hgd]
      clear hgd
      subst hg
      have hat := (blk_cell HM2.out.blk k).trans (bA_get _ _ k (by omega))
      have hs0 := (blk_cell HM2.out.blk2 k).trans (bA_get _ _ k (by omega))
      have hs1 := (blk_cell HM2.out.blk2 (k + 1)).trans (bA_get _ _ (k + 1) (by omega))
      have hf0 := blk_frozen HM2.out.blk2 k
      have hf1 := blk_frozen HM2.out.blk2 (k + 1)
      cases hb : stS l a1 i k with
      | false =>
       have HE := Aside0.mk (show nxS l (stS l a1 i) cb (k + 1) = nxS l (stS l a1 i) cb k by rw [hnx, hb]; rfl)
       rw [hb] at hat
       clear hnx hb
       go_wp2
       go_quiet (fail)
       go_wp2
       have n0_ := Aside0.mk (MW2.step HM2.out (pw_below_drewN (Below.refl _ _) nq))
       go_roundw
       case rel => exact ⟨k + 1, by go_num, by omega, ⟨by rw [HE.out]; exact n0_.out⟩⟩
       case measure => simp [intOf]; omega
      | true =>
       rw [hb] at hat
       have htk : ∀ q, Calls Tryd.prog 53 #[.pointer (some ⟨g, k * 259, none⟩), .int .u8 cb] (wr.drewN q) fun e w'' => e = .returned (.bool (tkB t cb)) ∧ ∃ m, w'' = wr.drewN m := fun q => Calls.quiet_of ((takes_call t g (k * 259) cb hc256 _ (HH.out.drewN q)).mono fun _ _ hx => ⟨hx.1, hx.2.out⟩)
       cases htb : tkB t cb with
       | false =>
        rw [htb] at htk
        have HE := Aside0.mk (show nxS l (stS l a1 i) cb (k + 1) = nxS l (stS l a1 i) cb k by rw [hnx, hb, htb]; rfl)
        clear hnx hb htb
        go_wp2
        go_quiet ((go_at_call 53; exact htk _))
        go_wp2
        have n0_ := Aside0.mk (MW2.step HM2.out (pw_below_drewN (Below.refl _ _) nq))
        go_roundw
        case rel => exact ⟨k + 1, by go_num, by omega, ⟨by rw [HE.out]; exact n0_.out⟩⟩
        case measure => simp [intOf]; omega
       | true =>
        rw [htb] at htk
        cases hst2 : starT t with
        | true =>
         have HE := Aside0.mk (show nxS l (stS l a1 i) cb (k + 1) = addS (nxS l (stS l a1 i) cb k) k by rw [hnx, hb, htb, hst2]; rfl)
         rcases kindT_star hst2 with hkk | hkk
         all_goals
          rw [hkk] at hkd
          clear hkk hst2 hb htb hnx
          go_wp2
          go_quiet ((go_at_call 53; exact htk _))
          go_wp2
          have n0_ := Aside0.mk (MW2.step (MW2.put HM2.out k) (pw_below_drewN (Below.refl _ _) nq))
          go_roundw
          case rel => exact ⟨k + 1, by go_num, by omega, ⟨by rw [HE.out]; exact n0_.out⟩⟩
          case measure => simp [intOf]; omega
        | false =>
         have HE := Aside0.mk (show nxS l (stS l a1 i) cb (k + 1) = addS (nxS l (stS l a1 i) cb k) (k + 1) by rw [hnx, hb, htb, hst2]; rfl)
         obtain ⟨q1, q2⟩ := kindT_no hst2
         clear hst2 hb htb hnx
         go_wp2
         go_quiet ((go_at_call 53; exact htk _))
         go_wp2
         have n0_ := Aside0.mk (MW2.step (MW2.put HM2.out (k + 1)) (pw_below_drewN (Below.refl _ _) nq))
         go_roundw
         case rel => exact ⟨k + 1, by go_num, by omega, ⟨by rw [HE.out]; exact n0_.out⟩⟩
         case measure => simp [intOf]; omega
     ·obtain rfl : k = l.length := by omega
      have e0 : ((l.length : Int) < (l.length : Int)) = False := eq_false (by omega)
      have HM := Aside0.mk HM2.out.take
      clear HM2
      go_wp2_with (first | (go_at_call 52; (with_reducible refine (empty_call l A cp _ _ _ _ hl HM.out.sg HM.out.blk).mono ?_); rintro e w3 ⟨rfl, rfl⟩; have n0_ := Aside0.mk (MW.row HM.out (by decide) (emS l (nxS l (stS l a1 i) cb l.length) l.length)); clear HM; have HM := n0_; clear n0_))
      go_roundw
      case rel => exact ⟨i + 1, gb, by first | rfl | go_num, by first | rfl | go_num, by omega, ⟨by rw [stS_succ, hcb]; exact HM.out⟩⟩
      case measure => simp [intOf]; omega
   ·obtain rfl : i = a1.size := by omega
    have d0 : ((a1.size : Int) < (a1.size : Int)) = False := eq_false (by omega)
    have e1 : ((l.length : Int) < ((l.length : Int) + 1)) = True := eq_true (by omega)
    have hat := (blk_cell HM.out.blk l.length).trans (bA_get _ _ l.length (by omega))
    go_wp2
    go_ret
    exact ⟨rfl, HM.out.below⟩
end Go.Proofs.YtioehkeocddniaaDoor.PA
namespace Go.Proofs.YtioehkeocddniaaDoor.PA
open Go.RowKit Go.Proofs.YtioehkeocddniaaDoorW.PrintWords Go.Proofs.YtioehkeocddniaaDoorW.PrintLast Go.Proofs.YtioehkeocddniaaDoorW.PrintMore
attribute [local go_sem] max2_int min2_int max_two min_two max_three min_three max_four min_four
set_option linter.unusedVariables false
set_option linter.unusedSimpArgs false
def patO (s : ByteArray) : Option (List Tok) := if s.size ≤ 100 then parse (s.size + 1) (gL s) else none
def hdL : List Tok → List Int
 | .lit c :: r => c :: hdL r
 | _ => []
def litAll : List Tok → Bool
 | [] => true
 | .lit _ :: r => litAll r
 | _ => false
structure HRow (T U : Nat) (w0 wr : World) (A : Option Addr) (L : List Sg) (v : Value) (out : List Int) : Prop where
 below : Below w0.heap.size w0 wr
 sg : SgVal T wr A L
 row_ : (Kd.int .u8).R U wr w0.heap.size (fun k => w0.heap.size ≤ k) v out
theorem HRow.start {T U : Nat} {w0 wr : World} {A : Option Addr} {L : List Sg} {v : Value} (h : SgRow T w0 wr v L) (hS : SgVal T wr A L) : HRow T U w0 wr A L (.slice none 0 0) [] := ⟨h.1, hS, Kd.R_nil _ _ _ _ _⟩
theorem HRow.cell {T U : Nat} {w0 wr : World} {A : Option Addr} {v : Value} {out : List Int} {l : List Tok} {f : Tok → Sg} {k : Nat} {t : Tok} (h : HRow T U w0 wr A (l.map f) v out) (hk : l[k]? = some t) : ∃ g, A = some ⟨g, 0, none⟩ ∧ wr.cell? ⟨g, k * 259, none⟩ = some (.int .i64 (f t).k) ∧ wr.cell? ⟨g, k * 259 + 1, none⟩ = some (.int .u8 (f t).c) := by
 obtain ⟨g, hg, hh⟩ := h.sg.has k (f t) (by rw [List.getElem?_map, hk]; rfl)
 have h0 := hh 0 (.int .i64 (f t).k) rfl
 rw [Nat.add_zero] at h0
 exact ⟨g, hg, h0, hh 1 (.int .u8 (f t).c) rfl⟩
def HInv (l : List Tok) (k : Nat) (out : List Int) : Prop := k ≤ l.length ∧ out.length ≤ k ∧ hdL l = out ++ hdL (l.drop k) ∧ litAll l = litAll (l.drop k)
theorem HInv.start (l : List Tok) : HInv l 0 [] := ⟨Nat.zero_le _, Nat.le_refl _, rfl, rfl⟩
theorem drop_at {l : List Tok} {k : Nat} {t : Tok} (h : l[k]? = some t) : l.drop k = t :: l.drop (k + 1) := by
 obtain ⟨hl, hg⟩ := List.getElem?_eq_some_iff.1 h
 rw [List.drop_eq_getElem_cons hl, hg]
theorem HInv.next {l : List Tok} {k : Nat} {out : List Int} {c : Int} (h : HInv l k out) (hk : l[k]? = some (.lit c)) : HInv l (k + 1) (out ++ [c]) := by
 obtain ⟨h1, h2, h3, h4⟩ := h
 rw [drop_at hk] at h3 h4
 have := (List.getElem?_eq_some_iff.1 hk).1
 exact ⟨this, by simp; omega, by rw [h3]; simp [hdL], by rw [h4]; rfl⟩
theorem HInv.done {l : List Tok} {out : List Int} (h : HInv l l.length out) : hdL l = out ∧ litAll l = true := by
 obtain ⟨h1, h2, h3, h4⟩ := h
 rw [List.drop_length] at h3 h4
 exact ⟨by rw [h3]; simp [hdL], by rw [h4]; rfl⟩
theorem HInv.stop {l : List Tok} {k : Nat} {out : List Int} {t : Tok} (h : HInv l k out) (hk : l[k]? = some t) (ht : ∀ c, t ≠ .lit c) : hdL l = out ∧ litAll l = false := by
 obtain ⟨h1, h2, h3, h4⟩ := h
 rw [drop_at hk] at h3 h4
 cases t with
 | lit c => exact absurd rfl (ht c)
 | star2 => exact ⟨by rw [h3]; simp [hdL], by rw [h4]; rfl⟩
 | star => exact ⟨by rw [h3]; simp [hdL], by rw [h4]; rfl⟩
 | one => exact ⟨by rw [h3]; simp [hdL], by rw [h4]; rfl⟩
 | cls n s => exact ⟨by rw [h3]; simp [hdL], by rw [h4]; rfl⟩
end Go.Proofs.YtioehkeocddniaaDoor.PA
