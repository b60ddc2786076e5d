/- The walk of the reference's function that reads a class. -/
import Derived.Great.BuildSlice
import Derived.Laws.CopyOwn
import Derived.Outline
import Derived.Test.YtiigjnccoeadlaaPAfremoraref14member
import Derived.Test.YtiigjnccoeadlaaPAx0
import Derived.Test.YtiigjnccoeadlaaXB1
import Derived.Test.YtiigjnccoeadlaaXClassW
import Derived.Test.YtiigjnccoeadlaaXGlobBase
import Derived.Test.YtiigjnccoeadlaaXGlobSpec
namespace Go.Proofs.Ytiigjnccoeadlaa.PA
open Go.RowKit Go.Proofs.YtiigjnccoeadlaaW.PrintWords Go.Proofs.YtiigjnccoeadlaaW.PrintLast Go.Proofs.YtiigjnccoeadlaaW.PrintMore
attribute [local go_sem] max2_int min2_int max_two min_two max_three min_three max_four min_four
set_option linter.unusedVariables false
set_option linter.unusedSimpArgs false
theorem sg4_class_call : Try.prog.built 34 [(0, .int .i64 4)] = some (sgA ⟨4, 0, false, noS⟩) := by kernel_rfl
set_option maxHeartbeats 8000000 in
set_option maxRecDepth 100000 in
theorem class_call (a0 : ByteArray) (i1 : Nat) (hs : a0.size < 1000000) (hi1 : i1 ≤ a0.size) (w : World) :
    Calls Try.prog 26 #[.string a0, .int .i64 i1] w (ClsPost a0 (cls0 (dropL a0 i1)) w) := by
  have hu1 := Try.underlying34
  have sgS := sgSize2
  have ha := sgAlloc2
  have HD := Aside0.mk (B2.start 34 34 w (sgA sgz) (sgA sgz))
  by_cases h33 : i1 < a0.size ∧ bt a0 (i1 : Int) = 33
  · have e0 : ((i1 : Int) < (a0.size : Int)) = True := eq_true (by omega)
    have e1 : i1 < a0.size := h33.1
    have e2 : ∀ h : i1 < a0.size, ((a0[i1]'h).toNat : Int) = 33 := fun h => by rw [← h33.2]; exact bt_at a0 i1 h
    obtain ⟨i0, hi0⟩ : ∃ x, x = i1 + 1 := ⟨_, rfl⟩
    have hR := clsR_start a0 i1 h33
    have hi0s : i0 ≤ a0.size := by omega
    clear h33 
    go_enter Try.func26, Try.ntmps26
    go_wp2_with (first | ((with_reducible refine gate_dst (N := 14) rfl ?_); refine wpList_buildTo rfl 34 #[(0, .const (.int .i64 4))] rfl (some 14) rfl (sgA ⟨4, 0, false, noS⟩) ?hf ?_; (case hf => (simp only [List.map_toArray, List.map_cons, List.map_nil]; exact sg4_class_call))) | ((with_reducible refine gate_store (t := 34) (p := 7) rfl ?_); refine wpList_store_rowTo rfl 34 (.tmp 7) (.tmp 14) rfl rfl (w.heap.size + 1) (sgA ⟨4, 0, false, noS⟩) rfl rfl 34 (sgA sgz) HD.out.2.2 (sgS _) (sgA_same _ _) (sgA_one _) ?_; have n0_ := Aside0.mk (B2.row HD.out (sgA ⟨4, 0, false, noS⟩)); clear HD; have HD := n0_; clear n0_; have hc2 := b2_cell HD.out 2; have hf2 := blk_frozen HD.out.2.2 2; change _ = some (Value.bool false) at hc2))
    clear e2
    have n0_ := Aside0.mk (B2.put HD.out 2 (.bool true))
    rw [sg_not] at n0_
    clear HD hc2 hf2
    have HD := n0_
    clear n0_ e0 e1
    go_loopw [1, 8] (fun v1 v8 wr => ∃ (i m : Nat) (s : Nat → Bool), v1 = .int .i64 i ∧ v8 = .int .i64 m ∧ Aside0 (CInv a0 i0 i s) ∧ Aside0 (m ≤ i ∧ (0 < m ↔ i0 < i)) ∧ Aside0 (B2 34 34 w wr (sgA sgz) (sgA ⟨4, 0, true, s⟩))) (fun v1 _ _ => a0.size - (intOf v1).toNat)
    case atStart => exact ⟨i0, 0, noS, by rw [hi0]; go_num, rfl, ⟨CInv.start a0 i0 hi0s⟩, ⟨by omega⟩, ⟨HD.out⟩⟩
    case round =>
      clear HD
      obtain ⟨i, m, s, rfl, rfl, HC, HM, HD⟩ := hrel
      have hmb : m ≤ i := HM.out.1
      have hib := HC.out.2.1
      by_cases hk : i < a0.size
      · have d0 : ((i : Int) < (a0.size : Int)) = True := eq_true (by omega)
        have d1 : ∀ h : i < a0.size, ((a0[i]'h).toNat : Int) = bt a0 (i : Int) := fun h => bt_at a0 i h
        have b1 := bt_range a0 (i : Int)
        by_cases h93 : bt a0 (i : Int) = 93
        · rw [h93] at d1
          have hm0 := HM.out
          by_cases hfi : i0 < i
          · have f1 : ((0 : Int) < (m : Int)) = True := eq_true (by omega)
            have f2 : (0 < m) = True := eq_true (by omega)
            clear hm0
            go_wp2_with (first | (go_at_call 31; (with_reducible first | refine (remoraref14_member.calls 5 _ _ _ _ _ _ hm1).mono ?_ | refine (remoraref14_member.calls 5 _ _ _ _ _ _ hm2).mono ?_); rintro e w2 ⟨rfl, hb⟩; have n0_ := Aside0.mk (B2.step HD.out (dr_below hb)); clear HD; have HD := n0_; clear n0_; clear hb) | ((with_reducible refine gate_dst (N := 97) rfl ?_); refine wpList_load_row rfl 34 (.tmp 7) rfl (w.heap.size + 1) rfl 34 (sgA ⟨4, 0, true, s⟩) (0, 0) _ HD.out.2.2 hu1 rfl (sgS _) ?_) | ((with_reducible refine gate_store (t := 34) (p := 4) rfl ?_); refine wpList_store_rowTo rfl 34 (.tmp 4) (.tmp 97) rfl rfl w.heap.size (sgA ⟨4, 0, true, s⟩) rfl rfl 34 (sgA sgz) HD.out.2.1 (sgS _) (sgA_same _ _) (sgA_one _) ?_))
            refine bodyPost_ret (results_ctt rfl _ _ w.heap.size 34 (sgA ⟨4, 0, true, s⟩) (0, 0) _ rfl (setRow_heap _ _ (sgA sgz) _ 34 (0, 0) HD.out.2.1) hu1 rfl (sgS _)) rfl ?_
            exact ClsPost.good (below_setRow HD.out.1 (Nat.le_refl _) _) (hR.trans (by rw [← hi0]; exact HC.out.close hk h93 hfi)) (by omega) (by go_num)
          · have f1 : ((0 : Int) < (m : Int)) = False := eq_false (by omega)
            have f2 : (0 < m) = False := eq_false (by omega)
            clear hm0
            go_wp2_with (first | (go_at_call 31; (with_reducible first | refine (remoraref14_member.calls 5 _ _ _ _ _ _ hm1).mono ?_ | refine (remoraref14_member.calls 5 _ _ _ _ _ _ hm2).mono ?_); rintro e w2 ⟨rfl, hb⟩; have n0_ := Aside0.mk (B2.step HD.out (dr_below hb)); clear HD; have HD := n0_; clear n0_; clear hb) | ((with_reducible refine gate_dst (N := 97) rfl ?_); refine wpList_load_row rfl 34 (.tmp 7) rfl (w.heap.size + 1) rfl 34 (sgA ⟨4, 0, true, s⟩) (0, 0) _ HD.out.2.2 hu1 rfl (sgS _) ?_) | ((with_reducible refine gate_store (t := 34) (p := 4) rfl ?_); refine wpList_store_rowTo rfl 34 (.tmp 4) (.tmp 97) rfl rfl w.heap.size (sgA ⟨4, 0, true, s⟩) rfl rfl 34 (sgA sgz) HD.out.2.1 (sgS _) (sgA_same _ _) (sgA_one _) ?_))
            refine bodyPost_ret (results_ctt rfl _ _ w.heap.size 34 (sgA ⟨4, 0, true, s⟩) (0, 0) _ rfl (setRow_heap _ _ (sgA sgz) _ 34 (0, 0) HD.out.2.1) hu1 rfl (sgS _)) rfl ?_
            exact ClsPost.bad (below_setRow HD.out.1 (Nat.le_refl _) _) (hR.trans (by rw [← hi0]; exact HC.out.empty hk h93 hfi)) _ _
        · have d2 : (bt a0 (i : Int) != 93) = true := bne_iff_ne.2 h93
          rcases rmember_at a0 i hs (by omega) with ⟨lo', j, hm, hij, hj, hb', hm1⟩ | ⟨hm, hm1⟩
          · obtain ⟨lo, rfl⟩ : ∃ x : Nat, lo' = x := ⟨lo'.toNat, by rw [hb']; have := bt_range a0 ((j - 1 : Nat) : Int); omega⟩
            have hlo : lo < 256 := by have := bt_range a0 ((j - 1 : Nat) : Int); omega
            clear hb'
            have g1 : ∀ h : j < a0.size, ((a0[j]'h).toNat : Int) = bt a0 (j : Int) := fun h => bt_at a0 j h
            have g2 : ∀ h : j + 1 < a0.size, ((a0[j + 1]'h).toNat : Int) = bt a0 ((j : Int) + 1) := fun h => bt_at a0 ((j + 1 : Nat) : Int) h
            have b2 := bt_range a0 (j : Int)
            have b3 := bt_range a0 ((j + 1 : Nat) : Int)
            by_cases hd : j + 1 < a0.size ∧ bt a0 (j : Int) = 45 ∧ bt a0 ((j + 1 : Nat) : Int) ≠ 93
            · obtain ⟨q1, q2, q3⟩ := hd
              have q4 : (((j : Int) + 1) < (a0.size : Int)) = True := eq_true (by omega)
              have q5 : j < a0.size := by omega
              have q6 : (bt a0 ((j : Int) + 1) != 93) = true := bne_iff_ne.2 q3
              rw [q2] at g1
              rcases rmember_at a0 (j + 1) hs (by omega) with ⟨hi', j2, hm', hij2, hj2, hb2, hm2⟩ | ⟨hm', hm2⟩
              · obtain ⟨hi, rfl⟩ : ∃ x : Nat, hi' = x := ⟨hi'.toNat, by rw [hb2]; have := bt_range a0 ((j2 - 1 : Nat) : Int); omega⟩
                have hhi : hi < 256 := by have := bt_range a0 ((j2 - 1 : Nat) : Int); omega
                clear hb2
                change remoraref14_member.f 5 a0 ((j : Int) + 1) = _ at hm2
                by_cases hlt : hi < lo
                · have r1 : ((hi : Int) < (lo : Int)) = True := eq_true (by omega)
                  go_wp2_with (first | (go_at_call 31; (with_reducible first | refine (remoraref14_member.calls 5 _ _ _ _ _ _ hm1).mono ?_ | refine (remoraref14_member.calls 5 _ _ _ _ _ _ hm2).mono ?_); rintro e w2 ⟨rfl, hb⟩; have n0_ := Aside0.mk (B2.step HD.out (dr_below hb)); clear HD; have HD := n0_; clear n0_; clear hb) | ((with_reducible refine gate_dst (N := 82) rfl ?_); refine wpList_load_row rfl 34 (.tmp 7) rfl (w.heap.size + 1) rfl 34 (sgA ⟨4, 0, true, s⟩) (0, 0) _ HD.out.2.2 hu1 rfl (sgS _) ?_) | ((with_reducible refine gate_store (t := 34) (p := 4) rfl ?_); refine wpList_store_rowTo rfl 34 (.tmp 4) (.tmp 82) rfl rfl w.heap.size (sgA ⟨4, 0, true, s⟩) rfl rfl 34 (sgA sgz) HD.out.2.1 (sgS _) (sgA_same _ _) (sgA_one _) ?_))
                  refine bodyPost_ret (results_ctt rfl _ _ w.heap.size 34 (sgA ⟨4, 0, true, s⟩) (0, 0) _ rfl (setRow_heap _ _ (sgA sgz) _ 34 (0, 0) HD.out.2.1) hu1 rfl (sgS _)) rfl ?_
                  exact ClsPost.bad (below_setRow HD.out.1 (Nat.le_refl _) _) (hR.trans (by rw [← hi0]; exact HC.out.low hk h93 hm q1 q2 q3 hm' (by omega))) _ _
                · have r1 : ((hi : Int) < (lo : Int)) = False := eq_false (by omega)
                  go_wp2_with (first | (go_at_call 31; (with_reducible first | refine (remoraref14_member.calls 5 _ _ _ _ _ _ hm1).mono ?_ | refine (remoraref14_member.calls 5 _ _ _ _ _ _ hm2).mono ?_); rintro e w2 ⟨rfl, hb⟩; have n0_ := Aside0.mk (B2.step HD.out (dr_below hb)); clear HD; have HD := n0_; clear n0_; clear hb))
                  go_loopw [13] (fun v13 wi => ∃ q : Nat, v13 = .int .i64 q ∧ lo ≤ q ∧ q ≤ hi + 1 ∧ Aside0 (B2 34 34 w wi (sgA sgz) (sgA ⟨4, 0, true, rngS s lo ((q : Int) - 1)⟩))) (fun v13 _ => hi + 1 - (intOf v13).toNat)
                  case atStart => exact ⟨lo, rfl, Nat.le_refl _, by omega, ⟨by rw [rng_none]; exact HD.out⟩⟩
                  case round =>
                    clear HD
                    obtain ⟨q, rfl, hq1, hq2, HD⟩ := hrel
                    by_cases hq : q ≤ hi
                    · have hc3 := b2_at HD.out q (by omega)
                      have hf3 := blk_frozen HD.out.2.2 (3 + q)
                      have e1 : ((q : Int) ≤ (hi : Int)) = True := eq_true (by omega)
                      have e2 : q < 256 := by omega
                      have e3 : ((q : Int) < 256) = True := eq_true (by omega)
                      go_wp2
                      have n0_ := Aside0.mk (b2_put HD.out q (by omega))
                      clear HD
                      go_roundw
                      case rel => exact ⟨q + 1, by go_num, by omega, by omega, ⟨by rw [rng_next s lo q (by omega)] at n0_; exact n0_.out⟩⟩
                      case measure => simp [intOf]; omega
                    · have e1 : ((q : Int) ≤ (hi : Int)) = False := eq_false (by omega)
                      obtain rfl : q = hi + 1 := by omega
                      go_wp2
                      go_roundw
                      case rel => exact ⟨j2, m + 1, rngS s lo hi, rfl, by go_num, ⟨HC.out.next hm hk h93 (.inl ⟨q1, q2, q3, hm', by omega⟩) (by omega) (by omega)⟩, ⟨by have := HM.out; have := HC.out.1; omega⟩, ⟨by rw [show ((hi + 1 : Nat) : Int) - 1 = (hi : Int) by omega] at HD; exact HD.out⟩⟩
                      case measure => simp [intOf]; omega
              · change remoraref14_member.f 5 a0 ((j : Int) + 1) = _ at hm2
                go_wp2_with (first | (go_at_call 31; (with_reducible first | refine (remoraref14_member.calls 5 _ _ _ _ _ _ hm1).mono ?_ | refine (remoraref14_member.calls 5 _ _ _ _ _ _ hm2).mono ?_); rintro e w2 ⟨rfl, hb⟩; have n0_ := Aside0.mk (B2.step HD.out (dr_below hb)); clear HD; have HD := n0_; clear n0_; clear hb) | ((with_reducible refine gate_dst (N := 82) rfl ?_); refine wpList_load_row rfl 34 (.tmp 7) rfl (w.heap.size + 1) rfl 34 (sgA ⟨4, 0, true, s⟩) (0, 0) _ HD.out.2.2 hu1 rfl (sgS _) ?_) | ((with_reducible refine gate_store (t := 34) (p := 4) rfl ?_); refine wpList_store_rowTo rfl 34 (.tmp 4) (.tmp 82) rfl rfl w.heap.size (sgA ⟨4, 0, true, s⟩) rfl rfl 34 (sgA sgz) HD.out.2.1 (sgS _) (sgA_same _ _) (sgA_one _) ?_))
                refine bodyPost_ret (results_ctt rfl _ _ w.heap.size 34 (sgA ⟨4, 0, true, s⟩) (0, 0) _ rfl (setRow_heap _ _ (sgA sgz) _ 34 (0, 0) HD.out.2.1) hu1 rfl (sgS _)) rfl ?_
                exact ClsPost.bad (below_setRow HD.out.1 (Nat.le_refl _) _) (hR.trans (by rw [← hi0]; exact HC.out.cut hk h93 hm q1 q2 q3 hm')) _ _
            · have hm2 := hm1
              by_cases q1 : j + 1 < a0.size
              · have q4 : (((j : Int) + 1) < (a0.size : Int)) = True := eq_true (by omega)
                have q5 : j < a0.size := by omega
                by_cases q2 : bt a0 (j : Int) = 45
                · rw [q2] at g1
                  have q3 : bt a0 ((j + 1 : Nat) : Int) = 93 := Classical.not_not.1 (fun h => hd ⟨q1, q2, h⟩)
                  have q3_ : bt a0 ((j : Int) + 1) = 93 := q3
                  rw [q3_] at g2
                  go_wp2_with (first | (go_at_call 31; (with_reducible first | refine (remoraref14_member.calls 5 _ _ _ _ _ _ hm1).mono ?_ | refine (remoraref14_member.calls 5 _ _ _ _ _ _ hm2).mono ?_); rintro e w2 ⟨rfl, hb⟩; have n0_ := Aside0.mk (B2.step HD.out (dr_below hb)); clear HD; have HD := n0_; clear n0_; clear hb))
                  go_loopw [13] (fun v13 wi => ∃ q : Nat, v13 = .int .i64 q ∧ lo ≤ q ∧ q ≤ lo + 1 ∧ Aside0 (B2 34 34 w wi (sgA sgz) (sgA ⟨4, 0, true, rngS s lo ((q : Int) - 1)⟩))) (fun v13 _ => lo + 1 - (intOf v13).toNat)
                  case atStart => exact ⟨lo, rfl, Nat.le_refl _, by omega, ⟨by rw [rng_none]; exact HD.out⟩⟩
                  case round =>
                    clear HD
                    obtain ⟨q, rfl, hq1, hq2, HD⟩ := hrel
                    by_cases hq : q ≤ lo
                    · have hc3 := b2_at HD.out q (by omega)
                      have hf3 := blk_frozen HD.out.2.2 (3 + q)
                      have e1 : ((q : Int) ≤ (lo : Int)) = True := eq_true (by omega)
                      have e2 : q < 256 := by omega
                      have e3 : ((q : Int) < 256) = True := eq_true (by omega)
                      go_wp2
                      have n0_ := Aside0.mk (b2_put HD.out q (by omega))
                      clear HD
                      go_roundw
                      case rel => exact ⟨q + 1, by go_num, by omega, by omega, ⟨by rw [rng_next s lo q (by omega)] at n0_; exact n0_.out⟩⟩
                      case measure => simp [intOf]; omega
                    · have e1 : ((q : Int) ≤ (lo : Int)) = False := eq_false (by omega)
                      obtain rfl : q = lo + 1 := by omega
                      go_wp2
                      go_roundw
                      case rel => exact ⟨j, m + 1, rngS s lo lo, rfl, by go_num, ⟨HC.out.next hm hk h93 (.inr ⟨hd, rfl, rfl⟩) (by omega) (by omega)⟩, ⟨by have := HM.out; have := HC.out.1; omega⟩, ⟨by rw [show ((lo + 1 : Nat) : Int) - 1 = (lo : Int) by omega] at HD; exact HD.out⟩⟩
                      case measure => simp [intOf]; omega
                · have q3 : (bt a0 (j : Int) == 45) = false := beq_eq_false_iff_ne.2 q2
                  go_wp2_with (first | (go_at_call 31; (with_reducible first | refine (remoraref14_member.calls 5 _ _ _ _ _ _ hm1).mono ?_ | refine (remoraref14_member.calls 5 _ _ _ _ _ _ hm2).mono ?_); rintro e w2 ⟨rfl, hb⟩; have n0_ := Aside0.mk (B2.step HD.out (dr_below hb)); clear HD; have HD := n0_; clear n0_; clear hb))
                  go_loopw [13] (fun v13 wi => ∃ q : Nat, v13 = .int .i64 q ∧ lo ≤ q ∧ q ≤ lo + 1 ∧ Aside0 (B2 34 34 w wi (sgA sgz) (sgA ⟨4, 0, true, rngS s lo ((q : Int) - 1)⟩))) (fun v13 _ => lo + 1 - (intOf v13).toNat)
                  case atStart => exact ⟨lo, rfl, Nat.le_refl _, by omega, ⟨by rw [rng_none]; exact HD.out⟩⟩
                  case round =>
                    clear HD
                    obtain ⟨q, rfl, hq1, hq2, HD⟩ := hrel
                    by_cases hq : q ≤ lo
                    · have hc3 := b2_at HD.out q (by omega)
                      have hf3 := blk_frozen HD.out.2.2 (3 + q)
                      have e1 : ((q : Int) ≤ (lo : Int)) = True := eq_true (by omega)
                      have e2 : q < 256 := by omega
                      have e3 : ((q : Int) < 256) = True := eq_true (by omega)
                      go_wp2
                      have n0_ := Aside0.mk (b2_put HD.out q (by omega))
                      clear HD
                      go_roundw
                      case rel => exact ⟨q + 1, by go_num, by omega, by omega, ⟨by rw [rng_next s lo q (by omega)] at n0_; exact n0_.out⟩⟩
                      case measure => simp [intOf]; omega
                    · have e1 : ((q : Int) ≤ (lo : Int)) = False := eq_false (by omega)
                      obtain rfl : q = lo + 1 := by omega
                      go_wp2
                      go_roundw
                      case rel => exact ⟨j, m + 1, rngS s lo lo, rfl, by go_num, ⟨HC.out.next hm hk h93 (.inr ⟨hd, rfl, rfl⟩) (by omega) (by omega)⟩, ⟨by have := HM.out; have := HC.out.1; omega⟩, ⟨by rw [show ((lo + 1 : Nat) : Int) - 1 = (lo : Int) by omega] at HD; exact HD.out⟩⟩
                      case measure => simp [intOf]; omega
              · have q4 : (((j : Int) + 1) < (a0.size : Int)) = False := eq_false (by omega)
                go_wp2_with (first | (go_at_call 31; (with_reducible first | refine (remoraref14_member.calls 5 _ _ _ _ _ _ hm1).mono ?_ | refine (remoraref14_member.calls 5 _ _ _ _ _ _ hm2).mono ?_); rintro e w2 ⟨rfl, hb⟩; have n0_ := Aside0.mk (B2.step HD.out (dr_below hb)); clear HD; have HD := n0_; clear n0_; clear hb))
                go_loopw [13] (fun v13 wi => ∃ q : Nat, v13 = .int .i64 q ∧ lo ≤ q ∧ q ≤ lo + 1 ∧ Aside0 (B2 34 34 w wi (sgA sgz) (sgA ⟨4, 0, true, rngS s lo ((q : Int) - 1)⟩))) (fun v13 _ => lo + 1 - (intOf v13).toNat)
                case atStart => exact ⟨lo, rfl, Nat.le_refl _, by omega, ⟨by rw [rng_none]; exact HD.out⟩⟩
                case round =>
                  clear HD
                  obtain ⟨q, rfl, hq1, hq2, HD⟩ := hrel
                  by_cases hq : q ≤ lo
                  · have hc3 := b2_at HD.out q (by omega)
                    have hf3 := blk_frozen HD.out.2.2 (3 + q)
                    have e1 : ((q : Int) ≤ (lo : Int)) = True := eq_true (by omega)
                    have e2 : q < 256 := by omega
                    have e3 : ((q : Int) < 256) = True := eq_true (by omega)
                    go_wp2
                    have n0_ := Aside0.mk (b2_put HD.out q (by omega))
                    clear HD
                    go_roundw
                    case rel => exact ⟨q + 1, by go_num, by omega, by omega, ⟨by rw [rng_next s lo q (by omega)] at n0_; exact n0_.out⟩⟩
                    case measure => simp [intOf]; omega
                  · have e1 : ((q : Int) ≤ (lo : Int)) = False := eq_false (by omega)
                    obtain rfl : q = lo + 1 := by omega
                    go_wp2
                    go_roundw
                    case rel => exact ⟨j, m + 1, rngS s lo lo, rfl, by go_num, ⟨HC.out.next hm hk h93 (.inr ⟨hd, rfl, rfl⟩) (by omega) (by omega)⟩, ⟨by have := HM.out; have := HC.out.1; omega⟩, ⟨by rw [show ((lo + 1 : Nat) : Int) - 1 = (lo : Int) by omega] at HD; exact HD.out⟩⟩
                    case measure => simp [intOf]; omega
          · have hm2 := hm1
            go_wp2_with (first | (go_at_call 31; (with_reducible first | refine (remoraref14_member.calls 5 _ _ _ _ _ _ hm1).mono ?_ | refine (remoraref14_member.calls 5 _ _ _ _ _ _ hm2).mono ?_); rintro e w2 ⟨rfl, hb⟩; have n0_ := Aside0.mk (B2.step HD.out (dr_below hb)); clear HD; have HD := n0_; clear n0_; clear hb) | ((with_reducible refine gate_dst (N := 47) rfl ?_); refine wpList_load_row rfl 34 (.tmp 7) rfl (w.heap.size + 1) rfl 34 (sgA ⟨4, 0, true, s⟩) (0, 0) _ HD.out.2.2 hu1 rfl (sgS _) ?_) | ((with_reducible refine gate_store (t := 34) (p := 4) rfl ?_); refine wpList_store_rowTo rfl 34 (.tmp 4) (.tmp 47) rfl rfl w.heap.size (sgA ⟨4, 0, true, s⟩) rfl rfl 34 (sgA sgz) HD.out.2.1 (sgS _) (sgA_same _ _) (sgA_one _) ?_))
            refine bodyPost_ret (results_ctt rfl _ _ w.heap.size 34 (sgA ⟨4, 0, true, s⟩) (0, 0) _ rfl (setRow_heap _ _ (sgA sgz) _ 34 (0, 0) HD.out.2.1) hu1 rfl (sgS _)) rfl ?_
            exact ClsPost.bad (below_setRow HD.out.1 (Nat.le_refl _) _) (hR.trans (by rw [← hi0]; exact HC.out.stop hk h93 hm)) _ _
      · have d0 : ((i : Int) < (a0.size : Int)) = False := eq_false (by omega)
        go_wp2_with (first | (go_at_call 31; (with_reducible first | refine (remoraref14_member.calls 5 _ _ _ _ _ _ hm1).mono ?_ | refine (remoraref14_member.calls 5 _ _ _ _ _ _ hm2).mono ?_); rintro e w2 ⟨rfl, hb⟩; have n0_ := Aside0.mk (B2.step HD.out (dr_below hb)); clear HD; have HD := n0_; clear n0_; clear hb) | ((with_reducible refine gate_dst (N := 97) rfl ?_); refine wpList_load_row rfl 34 (.tmp 7) rfl (w.heap.size + 1) rfl 34 (sgA ⟨4, 0, true, s⟩) (0, 0) _ HD.out.2.2 hu1 rfl (sgS _) ?_) | ((with_reducible refine gate_store (t := 34) (p := 4) rfl ?_); refine wpList_store_rowTo rfl 34 (.tmp 4) (.tmp 97) rfl rfl w.heap.size (sgA ⟨4, 0, true, s⟩) rfl rfl 34 (sgA sgz) HD.out.2.1 (sgS _) (sgA_same _ _) (sgA_one _) ?_))
        refine bodyPost_ret (results_ctt rfl _ _ w.heap.size 34 (sgA ⟨4, 0, true, s⟩) (0, 0) _ rfl (setRow_heap _ _ (sgA sgz) _ 34 (0, 0) HD.out.2.1) hu1 rfl (sgS _)) rfl ?_
        exact ClsPost.bad (below_setRow HD.out.1 (Nat.le_refl _) _) (hR.trans (by rw [← hi0]; exact HC.out.over hk)) _ _
  · have e2 : ∀ h : i1 < a0.size, (((a0[i1]'h).toNat : Int) == 33) = false := fun h => beq_eq_false_iff_ne.2 (fun he => h33 ⟨h, by rw [← he]; exact (bt_at a0 i1 h).symm⟩)
    have e3 : (i1 < a0.size ∧ ((i1 : Int) < (a0.size : Int)) = True) ∨ (((i1 : Int) < (a0.size : Int)) = False) := by
      by_cases hl : i1 < a0.size
      · exact .inl ⟨hl, eq_true (by omega)⟩
      · exact .inr (eq_false (by omega))
    rcases e3 with ⟨e4, e3⟩ | e3
    all_goals
      obtain ⟨i0, hi0⟩ : ∃ x, x = i1 := ⟨_, rfl⟩
      have hR := clsR_start2 a0 i1 h33
      have hi0s : i0 ≤ a0.size := by omega
      clear h33 
      go_enter Try.func26, Try.ntmps26
      go_wp2_with (first | ((with_reducible refine gate_dst (N := 14) rfl ?_); refine wpList_buildTo rfl 34 #[(0, .const (.int .i64 4))] rfl (some 14) rfl (sgA ⟨4, 0, false, noS⟩) ?hf ?_; (case hf => (simp only [List.map_toArray, List.map_cons, List.map_nil]; exact sg4_class_call))) | ((with_reducible refine gate_store (t := 34) (p := 7) rfl ?_); refine wpList_store_rowTo rfl 34 (.tmp 7) (.tmp 14) rfl rfl (w.heap.size + 1) (sgA ⟨4, 0, false, noS⟩) rfl rfl 34 (sgA sgz) HD.out.2.2 (sgS _) (sgA_same _ _) (sgA_one _) ?_; have n0_ := Aside0.mk (B2.row HD.out (sgA ⟨4, 0, false, noS⟩)); clear HD; have HD := n0_; clear n0_; have hc2 := b2_cell HD.out 2; have hf2 := blk_frozen HD.out.2.2 2; change _ = some (Value.bool false) at hc2))
      clear e2
      clear hc2 hf2
      go_loopw [1, 8] (fun v1 v8 wr => ∃ (i m : Nat) (s : Nat → Bool), v1 = .int .i64 i ∧ v8 = .int .i64 m ∧ Aside0 (CInv a0 i0 i s) ∧ Aside0 (m ≤ i ∧ (0 < m ↔ i0 < i)) ∧ Aside0 (B2 34 34 w wr (sgA sgz) (sgA ⟨4, 0, false, s⟩))) (fun v1 _ _ => a0.size - (intOf v1).toNat)
      case atStart => exact ⟨i0, 0, noS, by rw [hi0], rfl, ⟨CInv.start a0 i0 hi0s⟩, ⟨by omega⟩, ⟨HD.out⟩⟩
      case round =>
        clear HD
        obtain ⟨i, m, s, rfl, rfl, HC, HM, HD⟩ := hrel
        have hmb : m ≤ i := HM.out.1
        have hib := HC.out.2.1
        by_cases hk : i < a0.size
        · have d0 : ((i : Int) < (a0.size : Int)) = True := eq_true (by omega)
          have d1 : ∀ h : i < a0.size, ((a0[i]'h).toNat : Int) = bt a0 (i : Int) := fun h => bt_at a0 i h
          have b1 := bt_range a0 (i : Int)
          by_cases h93 : bt a0 (i : Int) = 93
          · rw [h93] at d1
            have hm0 := HM.out
            by_cases hfi : i0 < i
            · have f1 : ((0 : Int) < (m : Int)) = True := eq_true (by omega)
              have f2 : (0 < m) = True := eq_true (by omega)
              clear hm0
              go_wp2_with (first | (go_at_call 31; (with_reducible first | refine (remoraref14_member.calls 5 _ _ _ _ _ _ hm1).mono ?_ | refine (remoraref14_member.calls 5 _ _ _ _ _ _ hm2).mono ?_); rintro e w2 ⟨rfl, hb⟩; have n0_ := Aside0.mk (B2.step HD.out (dr_below hb)); clear HD; have HD := n0_; clear n0_; clear hb) | ((with_reducible refine gate_dst (N := 97) rfl ?_); refine wpList_load_row rfl 34 (.tmp 7) rfl (w.heap.size + 1) rfl 34 (sgA ⟨4, 0, false, s⟩) (0, 0) _ HD.out.2.2 hu1 rfl (sgS _) ?_) | ((with_reducible refine gate_store (t := 34) (p := 4) rfl ?_); refine wpList_store_rowTo rfl 34 (.tmp 4) (.tmp 97) rfl rfl w.heap.size (sgA ⟨4, 0, false, s⟩) rfl rfl 34 (sgA sgz) HD.out.2.1 (sgS _) (sgA_same _ _) (sgA_one _) ?_))
              refine bodyPost_ret (results_ctt rfl _ _ w.heap.size 34 (sgA ⟨4, 0, false, s⟩) (0, 0) _ rfl (setRow_heap _ _ (sgA sgz) _ 34 (0, 0) HD.out.2.1) hu1 rfl (sgS _)) rfl ?_
              exact ClsPost.good (below_setRow HD.out.1 (Nat.le_refl _) _) (hR.trans (by rw [← hi0]; exact HC.out.close hk h93 hfi)) (by omega) (by go_num)
            · have f1 : ((0 : Int) < (m : Int)) = False := eq_false (by omega)
              have f2 : (0 < m) = False := eq_false (by omega)
              clear hm0
              go_wp2_with (first | (go_at_call 31; (with_reducible first | refine (remoraref14_member.calls 5 _ _ _ _ _ _ hm1).mono ?_ | refine (remoraref14_member.calls 5 _ _ _ _ _ _ hm2).mono ?_); rintro e w2 ⟨rfl, hb⟩; have n0_ := Aside0.mk (B2.step HD.out (dr_below hb)); clear HD; have HD := n0_; clear n0_; clear hb) | ((with_reducible refine gate_dst (N := 97) rfl ?_); refine wpList_load_row rfl 34 (.tmp 7) rfl (w.heap.size + 1) rfl 34 (sgA ⟨4, 0, false, s⟩) (0, 0) _ HD.out.2.2 hu1 rfl (sgS _) ?_) | ((with_reducible refine gate_store (t := 34) (p := 4) rfl ?_); refine wpList_store_rowTo rfl 34 (.tmp 4) (.tmp 97) rfl rfl w.heap.size (sgA ⟨4, 0, false, s⟩) rfl rfl 34 (sgA sgz) HD.out.2.1 (sgS _) (sgA_same _ _) (sgA_one _) ?_))
              refine bodyPost_ret (results_ctt rfl _ _ w.heap.size 34 (sgA ⟨4, 0, false, s⟩) (0, 0) _ rfl (setRow_heap _ _ (sgA sgz) _ 34 (0, 0) HD.out.2.1) hu1 rfl (sgS _)) rfl ?_
              exact ClsPost.bad (below_setRow HD.out.1 (Nat.le_refl _) _) (hR.trans (by rw [← hi0]; exact HC.out.empty hk h93 hfi)) _ _
          · have d2 : (bt a0 (i : Int) != 93) = true := bne_iff_ne.2 h93
            rcases rmember_at a0 i hs (by omega) with ⟨lo', j, hm, hij, hj, hb', hm1⟩ | ⟨hm, hm1⟩
            · obtain ⟨lo, rfl⟩ : ∃ x : Nat, lo' = x := ⟨lo'.toNat, by rw [hb']; have := bt_range a0 ((j - 1 : Nat) : Int); omega⟩
              have hlo : lo < 256 := by have := bt_range a0 ((j - 1 : Nat) : Int); omega
              clear hb'
              have g1 : ∀ h : j < a0.size, ((a0[j]'h).toNat : Int) = bt a0 (j : Int) := fun h => bt_at a0 j h
              have g2 : ∀ h : j + 1 < a0.size, ((a0[j + 1]'h).toNat : Int) = bt a0 ((j : Int) + 1) := fun h => bt_at a0 ((j + 1 : Nat) : Int) h
              have b2 := bt_range a0 (j : Int)
              have b3 := bt_range a0 ((j + 1 : Nat) : Int)
              by_cases hd : j + 1 < a0.size ∧ bt a0 (j : Int) = 45 ∧ bt a0 ((j + 1 : Nat) : Int) ≠ 93
              · obtain ⟨q1, q2, q3⟩ := hd
                have q4 : (((j : Int) + 1) < (a0.size : Int)) = True := eq_true (by omega)
                have q5 : j < a0.size := by omega
                have q6 : (bt a0 ((j : Int) + 1) != 93) = true := bne_iff_ne.2 q3
                rw [q2] at g1
                rcases rmember_at a0 (j + 1) hs (by omega) with ⟨hi', j2, hm', hij2, hj2, hb2, hm2⟩ | ⟨hm', hm2⟩
                · obtain ⟨hi, rfl⟩ : ∃ x : Nat, hi' = x := ⟨hi'.toNat, by rw [hb2]; have := bt_range a0 ((j2 - 1 : Nat) : Int); omega⟩
                  have hhi : hi < 256 := by have := bt_range a0 ((j2 - 1 : Nat) : Int); omega
                  clear hb2
                  change remoraref14_member.f 5 a0 ((j : Int) + 1) = _ at hm2
                  by_cases hlt : hi < lo
                  · have r1 : ((hi : Int) < (lo : Int)) = True := eq_true (by omega)
                    go_wp2_with (first | (go_at_call 31; (with_reducible first | refine (remoraref14_member.calls 5 _ _ _ _ _ _ hm1).mono ?_ | refine (remoraref14_member.calls 5 _ _ _ _ _ _ hm2).mono ?_); rintro e w2 ⟨rfl, hb⟩; have n0_ := Aside0.mk (B2.step HD.out (dr_below hb)); clear HD; have HD := n0_; clear n0_; clear hb) | ((with_reducible refine gate_dst (N := 82) rfl ?_); refine wpList_load_row rfl 34 (.tmp 7) rfl (w.heap.size + 1) rfl 34 (sgA ⟨4, 0, false, s⟩) (0, 0) _ HD.out.2.2 hu1 rfl (sgS _) ?_) | ((with_reducible refine gate_store (t := 34) (p := 4) rfl ?_); refine wpList_store_rowTo rfl 34 (.tmp 4) (.tmp 82) rfl rfl w.heap.size (sgA ⟨4, 0, false, s⟩) rfl rfl 34 (sgA sgz) HD.out.2.1 (sgS _) (sgA_same _ _) (sgA_one _) ?_))
                    refine bodyPost_ret (results_ctt rfl _ _ w.heap.size 34 (sgA ⟨4, 0, false, s⟩) (0, 0) _ rfl (setRow_heap _ _ (sgA sgz) _ 34 (0, 0) HD.out.2.1) hu1 rfl (sgS _)) rfl ?_
                    exact ClsPost.bad (below_setRow HD.out.1 (Nat.le_refl _) _) (hR.trans (by rw [← hi0]; exact HC.out.low hk h93 hm q1 q2 q3 hm' (by omega))) _ _
                  · have r1 : ((hi : Int) < (lo : Int)) = False := eq_false (by omega)
                    go_wp2_with (first | (go_at_call 31; (with_reducible first | refine (remoraref14_member.calls 5 _ _ _ _ _ _ hm1).mono ?_ | refine (remoraref14_member.calls 5 _ _ _ _ _ _ hm2).mono ?_); rintro e w2 ⟨rfl, hb⟩; have n0_ := Aside0.mk (B2.step HD.out (dr_below hb)); clear HD; have HD := n0_; clear n0_; clear hb))
                    go_loopw [13] (fun v13 wi => ∃ q : Nat, v13 = .int .i64 q ∧ lo ≤ q ∧ q ≤ hi + 1 ∧ Aside0 (B2 34 34 w wi (sgA sgz) (sgA ⟨4, 0, false, rngS s lo ((q : Int) - 1)⟩))) (fun v13 _ => hi + 1 - (intOf v13).toNat)
                    case atStart => exact ⟨lo, rfl, Nat.le_refl _, by omega, ⟨by rw [rng_none]; exact HD.out⟩⟩
                    case round =>
                      clear HD
                      obtain ⟨q, rfl, hq1, hq2, HD⟩ := hrel
                      by_cases hq : q ≤ hi
                      · have hc3 := b2_at HD.out q (by omega)
                        have hf3 := blk_frozen HD.out.2.2 (3 + q)
                        have e1 : ((q : Int) ≤ (hi : Int)) = True := eq_true (by omega)
                        have e2 : q < 256 := by omega
                        have e3 : ((q : Int) < 256) = True := eq_true (by omega)
                        go_wp2
                        have n0_ := Aside0.mk (b2_put HD.out q (by omega))
                        clear HD
                        go_roundw
                        case rel => exact ⟨q + 1, by go_num, by omega, by omega, ⟨by rw [rng_next s lo q (by omega)] at n0_; exact n0_.out⟩⟩
                        case measure => simp [intOf]; omega
                      · have e1 : ((q : Int) ≤ (hi : Int)) = False := eq_false (by omega)
                        obtain rfl : q = hi + 1 := by omega
                        go_wp2
                        go_roundw
                        case rel => exact ⟨j2, m + 1, rngS s lo hi, rfl, by go_num, ⟨HC.out.next hm hk h93 (.inl ⟨q1, q2, q3, hm', by omega⟩) (by omega) (by omega)⟩, ⟨by have := HM.out; have := HC.out.1; omega⟩, ⟨by rw [show ((hi + 1 : Nat) : Int) - 1 = (hi : Int) by omega] at HD; exact HD.out⟩⟩
                        case measure => simp [intOf]; omega
                · change remoraref14_member.f 5 a0 ((j : Int) + 1) = _ at hm2
                  go_wp2_with (first | (go_at_call 31; (with_reducible first | refine (remoraref14_member.calls 5 _ _ _ _ _ _ hm1).mono ?_ | refine (remoraref14_member.calls 5 _ _ _ _ _ _ hm2).mono ?_); rintro e w2 ⟨rfl, hb⟩; have n0_ := Aside0.mk (B2.step HD.out (dr_below hb)); clear HD; have HD := n0_; clear n0_; clear hb) | ((with_reducible refine gate_dst (N := 82) rfl ?_); refine wpList_load_row rfl 34 (.tmp 7) rfl (w.heap.size + 1) rfl 34 (sgA ⟨4, 0, false, s⟩) (0, 0) _ HD.out.2.2 hu1 rfl (sgS _) ?_) | ((with_reducible refine gate_store (t := 34) (p := 4) rfl ?_); refine wpList_store_rowTo rfl 34 (.tmp 4) (.tmp 82) rfl rfl w.heap.size (sgA ⟨4, 0, false, s⟩) rfl rfl 34 (sgA sgz) HD.out.2.1 (sgS _) (sgA_same _ _) (sgA_one _) ?_))
                  refine bodyPost_ret (results_ctt rfl _ _ w.heap.size 34 (sgA ⟨4, 0, false, s⟩) (0, 0) _ rfl (setRow_heap _ _ (sgA sgz) _ 34 (0, 0) HD.out.2.1) hu1 rfl (sgS _)) rfl ?_
                  exact ClsPost.bad (below_setRow HD.out.1 (Nat.le_refl _) _) (hR.trans (by rw [← hi0]; exact HC.out.cut hk h93 hm q1 q2 q3 hm')) _ _
              · have hm2 := hm1
                by_cases q1 : j + 1 < a0.size
                · have q4 : (((j : Int) + 1) < (a0.size : Int)) = True := eq_true (by omega)
                  have q5 : j < a0.size := by omega
                  by_cases q2 : bt a0 (j : Int) = 45
                  · rw [q2] at g1
                    have q3 : bt a0 ((j + 1 : Nat) : Int) = 93 := Classical.not_not.1 (fun h => hd ⟨q1, q2, h⟩)
                    have q3_ : bt a0 ((j : Int) + 1) = 93 := q3
                    rw [q3_] at g2
                    go_wp2_with (first | (go_at_call 31; (with_reducible first | refine (remoraref14_member.calls 5 _ _ _ _ _ _ hm1).mono ?_ | refine (remoraref14_member.calls 5 _ _ _ _ _ _ hm2).mono ?_); rintro e w2 ⟨rfl, hb⟩; have n0_ := Aside0.mk (B2.step HD.out (dr_below hb)); clear HD; have HD := n0_; clear n0_; clear hb))
                    go_loopw [13] (fun v13 wi => ∃ q : Nat, v13 = .int .i64 q ∧ lo ≤ q ∧ q ≤ lo + 1 ∧ Aside0 (B2 34 34 w wi (sgA sgz) (sgA ⟨4, 0, false, rngS s lo ((q : Int) - 1)⟩))) (fun v13 _ => lo + 1 - (intOf v13).toNat)
                    case atStart => exact ⟨lo, rfl, Nat.le_refl _, by omega, ⟨by rw [rng_none]; exact HD.out⟩⟩
                    case round =>
                      clear HD
                      obtain ⟨q, rfl, hq1, hq2, HD⟩ := hrel
                      by_cases hq : q ≤ lo
                      · have hc3 := b2_at HD.out q (by omega)
                        have hf3 := blk_frozen HD.out.2.2 (3 + q)
                        have e1 : ((q : Int) ≤ (lo : Int)) = True := eq_true (by omega)
                        have e2 : q < 256 := by omega
                        have e3 : ((q : Int) < 256) = True := eq_true (by omega)
                        go_wp2
                        have n0_ := Aside0.mk (b2_put HD.out q (by omega))
                        clear HD
                        go_roundw
                        case rel => exact ⟨q + 1, by go_num, by omega, by omega, ⟨by rw [rng_next s lo q (by omega)] at n0_; exact n0_.out⟩⟩
                        case measure => simp [intOf]; omega
                      · have e1 : ((q : Int) ≤ (lo : Int)) = False := eq_false (by omega)
                        obtain rfl : q = lo + 1 := by omega
                        go_wp2
                        go_roundw
                        case rel => exact ⟨j, m + 1, rngS s lo lo, rfl, by go_num, ⟨HC.out.next hm hk h93 (.inr ⟨hd, rfl, rfl⟩) (by omega) (by omega)⟩, ⟨by have := HM.out; have := HC.out.1; omega⟩, ⟨by rw [show ((lo + 1 : Nat) : Int) - 1 = (lo : Int) by omega] at HD; exact HD.out⟩⟩
                        case measure => simp [intOf]; omega
                  · have q3 : (bt a0 (j : Int) == 45) = false := beq_eq_false_iff_ne.2 q2
                    go_wp2_with (first | (go_at_call 31; (with_reducible first | refine (remoraref14_member.calls 5 _ _ _ _ _ _ hm1).mono ?_ | refine (remoraref14_member.calls 5 _ _ _ _ _ _ hm2).mono ?_); rintro e w2 ⟨rfl, hb⟩; have n0_ := Aside0.mk (B2.step HD.out (dr_below hb)); clear HD; have HD := n0_; clear n0_; clear hb))
                    go_loopw [13] (fun v13 wi => ∃ q : Nat, v13 = .int .i64 q ∧ lo ≤ q ∧ q ≤ lo + 1 ∧ Aside0 (B2 34 34 w wi (sgA sgz) (sgA ⟨4, 0, false, rngS s lo ((q : Int) - 1)⟩))) (fun v13 _ => lo + 1 - (intOf v13).toNat)
                    case atStart => exact ⟨lo, rfl, Nat.le_refl _, by omega, ⟨by rw [rng_none]; exact HD.out⟩⟩
                    case round =>
                      clear HD
                      obtain ⟨q, rfl, hq1, hq2, HD⟩ := hrel
                      by_cases hq : q ≤ lo
                      · have hc3 := b2_at HD.out q (by omega)
                        have hf3 := blk_frozen HD.out.2.2 (3 + q)
                        have e1 : ((q : Int) ≤ (lo : Int)) = True := eq_true (by omega)
                        have e2 : q < 256 := by omega
                        have e3 : ((q : Int) < 256) = True := eq_true (by omega)
                        go_wp2
                        have n0_ := Aside0.mk (b2_put HD.out q (by omega))
                        clear HD
                        go_roundw
                        case rel => exact ⟨q + 1, by go_num, by omega, by omega, ⟨by rw [rng_next s lo q (by omega)] at n0_; exact n0_.out⟩⟩
                        case measure => simp [intOf]; omega
                      · have e1 : ((q : Int) ≤ (lo : Int)) = False := eq_false (by omega)
                        obtain rfl : q = lo + 1 := by omega
                        go_wp2
                        go_roundw
                        case rel => exact ⟨j, m + 1, rngS s lo lo, rfl, by go_num, ⟨HC.out.next hm hk h93 (.inr ⟨hd, rfl, rfl⟩) (by omega) (by omega)⟩, ⟨by have := HM.out; have := HC.out.1; omega⟩, ⟨by rw [show ((lo + 1 : Nat) : Int) - 1 = (lo : Int) by omega] at HD; exact HD.out⟩⟩
                        case measure => simp [intOf]; omega
                · have q4 : (((j : Int) + 1) < (a0.size : Int)) = False := eq_false (by omega)
                  go_wp2_with (first | (go_at_call 31; (with_reducible first | refine (remoraref14_member.calls 5 _ _ _ _ _ _ hm1).mono ?_ | refine (remoraref14_member.calls 5 _ _ _ _ _ _ hm2).mono ?_); rintro e w2 ⟨rfl, hb⟩; have n0_ := Aside0.mk (B2.step HD.out (dr_below hb)); clear HD; have HD := n0_; clear n0_; clear hb))
                  go_loopw [13] (fun v13 wi => ∃ q : Nat, v13 = .int .i64 q ∧ lo ≤ q ∧ q ≤ lo + 1 ∧ Aside0 (B2 34 34 w wi (sgA sgz) (sgA ⟨4, 0, false, rngS s lo ((q : Int) - 1)⟩))) (fun v13 _ => lo + 1 - (intOf v13).toNat)
                  case atStart => exact ⟨lo, rfl, Nat.le_refl _, by omega, ⟨by rw [rng_none]; exact HD.out⟩⟩
                  case round =>
                    clear HD
                    obtain ⟨q, rfl, hq1, hq2, HD⟩ := hrel
                    by_cases hq : q ≤ lo
                    · have hc3 := b2_at HD.out q (by omega)
                      have hf3 := blk_frozen HD.out.2.2 (3 + q)
                      have e1 : ((q : Int) ≤ (lo : Int)) = True := eq_true (by omega)
                      have e2 : q < 256 := by omega
                      have e3 : ((q : Int) < 256) = True := eq_true (by omega)
                      go_wp2
                      have n0_ := Aside0.mk (b2_put HD.out q (by omega))
                      clear HD
                      go_roundw
                      case rel => exact ⟨q + 1, by go_num, by omega, by omega, ⟨by rw [rng_next s lo q (by omega)] at n0_; exact n0_.out⟩⟩
                      case measure => simp [intOf]; omega
                    · have e1 : ((q : Int) ≤ (lo : Int)) = False := eq_false (by omega)
                      obtain rfl : q = lo + 1 := by omega
                      go_wp2
                      go_roundw
                      case rel => exact ⟨j, m + 1, rngS s lo lo, rfl, by go_num, ⟨HC.out.next hm hk h93 (.inr ⟨hd, rfl, rfl⟩) (by omega) (by omega)⟩, ⟨by have := HM.out; have := HC.out.1; omega⟩, ⟨by rw [show ((lo + 1 : Nat) : Int) - 1 = (lo : Int) by omega] at HD; exact HD.out⟩⟩
                      case measure => simp [intOf]; omega
            · have hm2 := hm1
              go_wp2_with (first | (go_at_call 31; (with_reducible first | refine (remoraref14_member.calls 5 _ _ _ _ _ _ hm1).mono ?_ | refine (remoraref14_member.calls 5 _ _ _ _ _ _ hm2).mono ?_); rintro e w2 ⟨rfl, hb⟩; have n0_ := Aside0.mk (B2.step HD.out (dr_below hb)); clear HD; have HD := n0_; clear n0_; clear hb) | ((with_reducible refine gate_dst (N := 47) rfl ?_); refine wpList_load_row rfl 34 (.tmp 7) rfl (w.heap.size + 1) rfl 34 (sgA ⟨4, 0, false, s⟩) (0, 0) _ HD.out.2.2 hu1 rfl (sgS _) ?_) | ((with_reducible refine gate_store (t := 34) (p := 4) rfl ?_); refine wpList_store_rowTo rfl 34 (.tmp 4) (.tmp 47) rfl rfl w.heap.size (sgA ⟨4, 0, false, s⟩) rfl rfl 34 (sgA sgz) HD.out.2.1 (sgS _) (sgA_same _ _) (sgA_one _) ?_))
              refine bodyPost_ret (results_ctt rfl _ _ w.heap.size 34 (sgA ⟨4, 0, false, s⟩) (0, 0) _ rfl (setRow_heap _ _ (sgA sgz) _ 34 (0, 0) HD.out.2.1) hu1 rfl (sgS _)) rfl ?_
              exact ClsPost.bad (below_setRow HD.out.1 (Nat.le_refl _) _) (hR.trans (by rw [← hi0]; exact HC.out.stop hk h93 hm)) _ _
        · have d0 : ((i : Int) < (a0.size : Int)) = False := eq_false (by omega)
          go_wp2_with (first | (go_at_call 31; (with_reducible first | refine (remoraref14_member.calls 5 _ _ _ _ _ _ hm1).mono ?_ | refine (remoraref14_member.calls 5 _ _ _ _ _ _ hm2).mono ?_); rintro e w2 ⟨rfl, hb⟩; have n0_ := Aside0.mk (B2.step HD.out (dr_below hb)); clear HD; have HD := n0_; clear n0_; clear hb) | ((with_reducible refine gate_dst (N := 97) rfl ?_); refine wpList_load_row rfl 34 (.tmp 7) rfl (w.heap.size + 1) rfl 34 (sgA ⟨4, 0, false, s⟩) (0, 0) _ HD.out.2.2 hu1 rfl (sgS _) ?_) | ((with_reducible refine gate_store (t := 34) (p := 4) rfl ?_); refine wpList_store_rowTo rfl 34 (.tmp 4) (.tmp 97) rfl rfl w.heap.size (sgA ⟨4, 0, false, s⟩) rfl rfl 34 (sgA sgz) HD.out.2.1 (sgS _) (sgA_same _ _) (sgA_one _) ?_))
          refine bodyPost_ret (results_ctt rfl _ _ w.heap.size 34 (sgA ⟨4, 0, false, s⟩) (0, 0) _ rfl (setRow_heap _ _ (sgA sgz) _ 34 (0, 0) HD.out.2.1) hu1 rfl (sgS _)) rfl ?_
          exact ClsPost.bad (below_setRow HD.out.1 (Nat.le_refl _) _) (hR.trans (by rw [← hi0]; exact HC.out.over hk)) _ _
end Go.Proofs.Ytiigjnccoeadlaa.PA
