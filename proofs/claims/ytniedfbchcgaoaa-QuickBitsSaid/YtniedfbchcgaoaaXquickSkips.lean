/- quick.Skips by its contract: whether an entry is passed over, by the three options. -/
import Derived.Test.YtniedfbchcgaoaaPAfquicklater
import Derived.Test.YtniedfbchcgaoaaPAfquicknear
import Derived.Test.YtniedfbchcgaoaaPAx0
import Derived.Test.YtniedfbchcgaoaaXB3
namespace Go.Proofs.Ytniedfbchcgaoaa.PA
open Go.RowKit Go.Proofs.YtniedfbchcgaoaaW.PrintWords Go.Proofs.YtniedfbchcgaoaaW.PrintLast Go.Proofs.YtniedfbchcgaoaaW.PrintMore
attribute [local go_sem] max2_int min2_int max_two min_two max_three min_three max_four min_four
set_option linter.unusedVariables false
set_option linter.unusedSimpArgs false
/-- there, both directories, both files, later, near, and the options Existing, NewOnly, Update -/
def skipsB (there dirs files late near ex nw up : Bool) : Bool := (ex && !there) || ((nw && there && !dirs) || (up && there && files && late && !near))
def quick_Skips.f (a0_0 : ByteArray) (a0_1 : Int) (a0_2 : Int) (a0_3 : Int) (a0_4 : Int) (a0_5 : Int) (a0_6 : Int) (a0_7 : Int) (a0_8 : ByteArray) (a0_9 : ByteArray) (a0_10 : Int) (a1_0 : ByteArray) (a1_1 : Int) (a1_2 : Int) (a1_3 : Int) (a1_4 : Int) (a1_5 : Int) (a1_6 : Int) (a1_7 : Int) (a1_8 : ByteArray) (a1_9 : ByteArray) (a1_10 : Int) (a2 : Bool) (a3_0 : Int) (a3_1 : Int) (a3_2 : Bool) (a3_3 : Bool) (a3_4 : Bool) (a3_5 : Bool) (a3_6 : Bool) (a3_7 : Bool) (a3_8 : Bool) (a3_9 : Bool) (a3_10 : Bool) (a3_11 : Bool) (a3_12 : Bool) (a3_13 : Bool) (a3_14 : Bool) (a3_15 : Bool) (a3_16 : Bool) (a3_17 : Bool) (a3_18 : Int) (a3_19 : Int) (a3_20 : Int) : Option Bool := (quick_later.f a1_3 a1_4 a1_5 a1_6 a1_7 a0_3 a0_4 a0_5 a0_6 a0_7).bind fun l => (quick_near.f 100 a0_0 a0_1 a0_2 a0_3 a0_4 a0_5 a0_6 a0_7 a0_8 a0_9 a0_10 a1_0 a1_1 a1_2 a1_3 a1_4 a1_5 a1_6 a1_7 a1_8 a1_9 a1_10 a3_0 a3_1 a3_2 a3_3 a3_4 a3_5 a3_6 a3_7 a3_8 a3_9 a3_10 a3_11 a3_12 a3_13 a3_14 a3_15 a3_16 a3_17 a3_18 a3_19 a3_20).bind fun t => some (skipsB a2 (a0_1 == 2 && a1_1 == 2) (a0_1 == 1 && a1_1 == 1) l t a3_5 a3_6 a3_4)
set_option maxHeartbeats 4000000 in
set_option maxRecDepth 100000 in
theorem skips_any (S D O : Array Value) (hS : S.size = 11) (hD : D.size = 11) (hO : O.size = 21) (k1 k2 a0 a1 a2 a3 a4 b0 b1 b2 b3 b4 : Int) (up ex nw there : Bool) (hS1 : S[1]'(by omega) = .int .i64 k1) (hS3 : S[3]'(by omega) = .int .i64 a0) (hS4 : S[4]'(by omega) = .int .i64 a1) (hS5 : S[5]'(by omega) = .int .i64 a2) (hS6 : S[6]'(by omega) = .int .i64 a3) (hS7 : S[7]'(by omega) = .int .i64 a4) (hD1 : D[1]'(by omega) = .int .i64 k2) (hD3 : D[3]'(by omega) = .int .i64 b0) (hD4 : D[4]'(by omega) = .int .i64 b1) (hD5 : D[5]'(by omega) = .int .i64 b2) (hD6 : D[6]'(by omega) = .int .i64 b3) (hD7 : D[7]'(by omega) = .int .i64 b4) (hO4 : O[4]'(by omega) = .bool up) (hO5 : O[5]'(by omega) = .bool ex) (hO6 : O[6]'(by omega) = .bool nw) (l t : Bool)
    (hlater : Aside0 (∀ w, Calls Try.prog 25 #[.agg #[.int .i64 b0, .int .i64 b1, .int .i64 b2, .int .i64 b3, .int .i64 b4], .agg #[.int .i64 a0, .int .i64 a1, .int .i64 a2, .int .i64 a3, .int .i64 a4]] w fun e w' => e = .returned (.bool l) ∧ Below w.heap.size w w'))
    (hnear : Aside0 (∀ w, Calls Try.prog 26 #[.agg S, .agg D, .agg O] w fun e w' => e = .returned (.bool t) ∧ Below w.heap.size w w')) (w : World) :
    Calls Try.prog 17 #[.agg S, .agg D, .bool there, .agg O] w fun e w' => e = .returned (.bool (skipsB there (k1 == 2 && k2 == 2) (k1 == 1 && k2 == 1) l t ex nw up)) ∧ Below w.heap.size w w' := by
  have hu1 := Try.underlying25
  have hu2 := Try.underlying27
  have hu3 := Try.underlying23
  have i1 := Aside0.mk (show (Try.prog.info? 25).map (·.size) = some S.size by rw [hS]; kernel_rfl)
  have i2 := Aside0.mk (show (Try.prog.info? 25).map (·.size) = some D.size by rw [hD]; kernel_rfl)
  have i3 := Aside0.mk (show (Try.prog.info? 27).map (·.size) = some O.size by rw [hO]; kernel_rfl)
  have hDS := Aside0.mk (B3.start 25 25 27 w S D O)
  generalize hrr : skipsB there (k1 == 2 && k2 == 2) (k1 == 1 && k2 == 1) l t ex nw up = rr
  have HR := Aside0.mk hrr
  clear hrr
  go_enter Try.func17, Try.ntmps17
  go_upto_region 1 with (fail)
  go_cut [9, 10] (fun v9 v10 wr => v9 = .bool (k1 == 2 && k2 == 2) ∧ v10 = .bool (k1 == 1 && k2 == 1) ∧ Aside0 (B3 25 25 27 w wr S D O))
  case first =>
    by_cases e2 : k1 = 2
    · have e2b : (k1 == 2) = true := beq_iff_eq.mpr e2
      have e1b : (k1 == 1) = false := beq_eq_false_iff_ne.mpr (by omega)
      have G1 := Aside0.mk e2b
      have G2 := Aside0.mk e1b
      clear e2
      go_quiet (fail)
      go_wp2
      go_meet
      case rel => exact ⟨by rw [G1.out]; rfl, by rw [G2.out]; rfl, ⟨B3.step hDS.out (pw_below_drewN (Below.refl _ _) _)⟩⟩
    · have e2b : (k1 == 2) = false := beq_eq_false_iff_ne.mpr e2
      by_cases e1 : k1 = 1
      · have e1b : (k1 == 1) = true := beq_iff_eq.mpr e1
        have G1 := Aside0.mk e2b
        have G2 := Aside0.mk e1b
        clear e2 e1
        go_quiet (fail)
        go_wp2
        go_meet
        case rel => exact ⟨by rw [G1.out]; rfl, by rw [G2.out]; rfl, ⟨B3.step hDS.out (pw_below_drewN (Below.refl _ _) _)⟩⟩
      · have e1b : (k1 == 1) = false := beq_eq_false_iff_ne.mpr e1
        have G1 := Aside0.mk e2b
        have G2 := Aside0.mk e1b
        clear e2 e1
        go_quiet (fail)
        go_wp2
        go_meet
        case rel => exact ⟨by rw [G1.out]; rfl, by rw [G2.out]; rfl, ⟨B3.step hDS.out (pw_below_drewN (Below.refl _ _) _)⟩⟩
  case rest =>
    clear hDS
    obtain ⟨rfl, rfl, HD⟩ := hcut
    generalize hdr : (k1 == 2 && k2 == 2) = dirs at HR ⊢
    generalize hfl : (k1 == 1 && k2 == 1) = files at HR ⊢
    clear hdr hfl
    obtain ⟨wr, rfl⟩ : ∃ wr, wr = wc := ⟨_, rfl⟩
    have qS1 : wr.cell? ⟨w.heap.size, 1, none⟩ = some (.int .i64 k1) := (blk_cell HD.out.2.1 1).trans ((Array.getElem?_eq_getElem (by omega)).trans (congrArg some hS1))
    have qS3 : wr.cell? ⟨w.heap.size, 3, none⟩ = some (.int .i64 a0) := (blk_cell HD.out.2.1 3).trans ((Array.getElem?_eq_getElem (by omega)).trans (congrArg some hS3))
    have qS4 : wr.cell? ⟨w.heap.size, 4, none⟩ = some (.int .i64 a1) := (blk_cell HD.out.2.1 4).trans ((Array.getElem?_eq_getElem (by omega)).trans (congrArg some hS4))
    have qS5 : wr.cell? ⟨w.heap.size, 5, none⟩ = some (.int .i64 a2) := (blk_cell HD.out.2.1 5).trans ((Array.getElem?_eq_getElem (by omega)).trans (congrArg some hS5))
    have qS6 : wr.cell? ⟨w.heap.size, 6, none⟩ = some (.int .i64 a3) := (blk_cell HD.out.2.1 6).trans ((Array.getElem?_eq_getElem (by omega)).trans (congrArg some hS6))
    have qS7 : wr.cell? ⟨w.heap.size, 7, none⟩ = some (.int .i64 a4) := (blk_cell HD.out.2.1 7).trans ((Array.getElem?_eq_getElem (by omega)).trans (congrArg some hS7))
    have qD1 : wr.cell? ⟨w.heap.size + 1, 1, none⟩ = some (.int .i64 k2) := (blk_cell HD.out.2.2.1 1).trans ((Array.getElem?_eq_getElem (by omega)).trans (congrArg some hD1))
    have qD3 : wr.cell? ⟨w.heap.size + 1, 3, none⟩ = some (.int .i64 b0) := (blk_cell HD.out.2.2.1 3).trans ((Array.getElem?_eq_getElem (by omega)).trans (congrArg some hD3))
    have qD4 : wr.cell? ⟨w.heap.size + 1, 4, none⟩ = some (.int .i64 b1) := (blk_cell HD.out.2.2.1 4).trans ((Array.getElem?_eq_getElem (by omega)).trans (congrArg some hD4))
    have qD5 : wr.cell? ⟨w.heap.size + 1, 5, none⟩ = some (.int .i64 b2) := (blk_cell HD.out.2.2.1 5).trans ((Array.getElem?_eq_getElem (by omega)).trans (congrArg some hD5))
    have qD6 : wr.cell? ⟨w.heap.size + 1, 6, none⟩ = some (.int .i64 b3) := (blk_cell HD.out.2.2.1 6).trans ((Array.getElem?_eq_getElem (by omega)).trans (congrArg some hD6))
    have qD7 : wr.cell? ⟨w.heap.size + 1, 7, none⟩ = some (.int .i64 b4) := (blk_cell HD.out.2.2.1 7).trans ((Array.getElem?_eq_getElem (by omega)).trans (congrArg some hD7))
    have qO4 : wr.cell? ⟨w.heap.size + 1 + 1, 4, none⟩ = some (.bool up) := (blk_cell HD.out.2.2.2 4).trans ((Array.getElem?_eq_getElem (by omega)).trans (congrArg some hO4))
    have qO5 : wr.cell? ⟨w.heap.size + 1 + 1, 5, none⟩ = some (.bool ex) := (blk_cell HD.out.2.2.2 5).trans ((Array.getElem?_eq_getElem (by omega)).trans (congrArg some hO5))
    have qO6 : wr.cell? ⟨w.heap.size + 1 + 1, 6, none⟩ = some (.bool nw) := (blk_cell HD.out.2.2.2 6).trans ((Array.getElem?_eq_getElem (by omega)).trans (congrArg some hO6))
    cases there with
    | false =>
      cases ex with
      | false =>
        cases nw with
        | false =>
          cases up with
          | false =>
            have HK := Aside0.mk (show rr = false by rw [← HR.out]; simp [skipsB])
            clear HR
            go_wp2_with (first | (go_at_call 25; refine (hlater.out _).mono ?_; rintro e w' ⟨rfl, hb⟩; have HB1 := Aside0.mk (B3.step HD.out hb); clear HD; have HD := HB1; clear HB1 hb) | ((with_reducible refine gate_dst (N := 61) rfl ?_); refine gate_guard (by rfl) ?_; dsimp only; refine wpList_load_row rfl 25 (.tmp 4) rfl (w.heap.size) rfl 25 S (0, 0) _ HD.out.2.1 hu1 rfl i1.out ?_) | ((with_reducible refine gate_dst (N := 62) rfl ?_); refine gate_guard (by rfl) ?_; dsimp only; refine wpList_load_row rfl 25 (.tmp 5) rfl (w.heap.size + 1) rfl 25 D (0, 0) _ HD.out.2.2.1 hu1 rfl i2.out ?_) | ((with_reducible refine gate_dst (N := 63) rfl ?_); refine gate_guard (by rfl) ?_; dsimp only; refine wpList_load_row rfl 27 (.tmp 7) rfl (w.heap.size + 1 + 1) rfl 27 O (0, 0) _ HD.out.2.2.2 hu2 rfl i3.out ?_) | (go_at_call 26; refine (hnear.out _).mono ?_; rintro e w' ⟨rfl, hb⟩; have HB1 := Aside0.mk (B3.step HD.out hb); clear HD; have HD := HB1; clear HB1 hb))
            go_ret
            exact ⟨by rw [HK.out]; rfl, HD.out.1⟩
          | true =>
            have HK := Aside0.mk (show rr = false by rw [← HR.out]; simp [skipsB])
            clear HR
            go_wp2_with (first | (go_at_call 25; refine (hlater.out _).mono ?_; rintro e w' ⟨rfl, hb⟩; have HB1 := Aside0.mk (B3.step HD.out hb); clear HD; have HD := HB1; clear HB1 hb) | ((with_reducible refine gate_dst (N := 61) rfl ?_); refine gate_guard (by rfl) ?_; dsimp only; refine wpList_load_row rfl 25 (.tmp 4) rfl (w.heap.size) rfl 25 S (0, 0) _ HD.out.2.1 hu1 rfl i1.out ?_) | ((with_reducible refine gate_dst (N := 62) rfl ?_); refine gate_guard (by rfl) ?_; dsimp only; refine wpList_load_row rfl 25 (.tmp 5) rfl (w.heap.size + 1) rfl 25 D (0, 0) _ HD.out.2.2.1 hu1 rfl i2.out ?_) | ((with_reducible refine gate_dst (N := 63) rfl ?_); refine gate_guard (by rfl) ?_; dsimp only; refine wpList_load_row rfl 27 (.tmp 7) rfl (w.heap.size + 1 + 1) rfl 27 O (0, 0) _ HD.out.2.2.2 hu2 rfl i3.out ?_) | (go_at_call 26; refine (hnear.out _).mono ?_; rintro e w' ⟨rfl, hb⟩; have HB1 := Aside0.mk (B3.step HD.out hb); clear HD; have HD := HB1; clear HB1 hb))
            go_ret
            exact ⟨by rw [HK.out]; rfl, HD.out.1⟩
        | true =>
          cases up with
          | false =>
            have HK := Aside0.mk (show rr = false by rw [← HR.out]; simp [skipsB])
            clear HR
            go_wp2_with (first | (go_at_call 25; refine (hlater.out _).mono ?_; rintro e w' ⟨rfl, hb⟩; have HB1 := Aside0.mk (B3.step HD.out hb); clear HD; have HD := HB1; clear HB1 hb) | ((with_reducible refine gate_dst (N := 61) rfl ?_); refine gate_guard (by rfl) ?_; dsimp only; refine wpList_load_row rfl 25 (.tmp 4) rfl (w.heap.size) rfl 25 S (0, 0) _ HD.out.2.1 hu1 rfl i1.out ?_) | ((with_reducible refine gate_dst (N := 62) rfl ?_); refine gate_guard (by rfl) ?_; dsimp only; refine wpList_load_row rfl 25 (.tmp 5) rfl (w.heap.size + 1) rfl 25 D (0, 0) _ HD.out.2.2.1 hu1 rfl i2.out ?_) | ((with_reducible refine gate_dst (N := 63) rfl ?_); refine gate_guard (by rfl) ?_; dsimp only; refine wpList_load_row rfl 27 (.tmp 7) rfl (w.heap.size + 1 + 1) rfl 27 O (0, 0) _ HD.out.2.2.2 hu2 rfl i3.out ?_) | (go_at_call 26; refine (hnear.out _).mono ?_; rintro e w' ⟨rfl, hb⟩; have HB1 := Aside0.mk (B3.step HD.out hb); clear HD; have HD := HB1; clear HB1 hb))
            go_ret
            exact ⟨by rw [HK.out]; rfl, HD.out.1⟩
          | true =>
            have HK := Aside0.mk (show rr = false by rw [← HR.out]; simp [skipsB])
            clear HR
            go_wp2_with (first | (go_at_call 25; refine (hlater.out _).mono ?_; rintro e w' ⟨rfl, hb⟩; have HB1 := Aside0.mk (B3.step HD.out hb); clear HD; have HD := HB1; clear HB1 hb) | ((with_reducible refine gate_dst (N := 61) rfl ?_); refine gate_guard (by rfl) ?_; dsimp only; refine wpList_load_row rfl 25 (.tmp 4) rfl (w.heap.size) rfl 25 S (0, 0) _ HD.out.2.1 hu1 rfl i1.out ?_) | ((with_reducible refine gate_dst (N := 62) rfl ?_); refine gate_guard (by rfl) ?_; dsimp only; refine wpList_load_row rfl 25 (.tmp 5) rfl (w.heap.size + 1) rfl 25 D (0, 0) _ HD.out.2.2.1 hu1 rfl i2.out ?_) | ((with_reducible refine gate_dst (N := 63) rfl ?_); refine gate_guard (by rfl) ?_; dsimp only; refine wpList_load_row rfl 27 (.tmp 7) rfl (w.heap.size + 1 + 1) rfl 27 O (0, 0) _ HD.out.2.2.2 hu2 rfl i3.out ?_) | (go_at_call 26; refine (hnear.out _).mono ?_; rintro e w' ⟨rfl, hb⟩; have HB1 := Aside0.mk (B3.step HD.out hb); clear HD; have HD := HB1; clear HB1 hb))
            go_ret
            exact ⟨by rw [HK.out]; rfl, HD.out.1⟩
      | true =>
        have HK := Aside0.mk (show rr = true by rw [← HR.out]; simp [skipsB])
        clear HR
        go_wp2_with (first | (go_at_call 25; refine (hlater.out _).mono ?_; rintro e w' ⟨rfl, hb⟩; have HB1 := Aside0.mk (B3.step HD.out hb); clear HD; have HD := HB1; clear HB1 hb) | ((with_reducible refine gate_dst (N := 61) rfl ?_); refine gate_guard (by rfl) ?_; dsimp only; refine wpList_load_row rfl 25 (.tmp 4) rfl (w.heap.size) rfl 25 S (0, 0) _ HD.out.2.1 hu1 rfl i1.out ?_) | ((with_reducible refine gate_dst (N := 62) rfl ?_); refine gate_guard (by rfl) ?_; dsimp only; refine wpList_load_row rfl 25 (.tmp 5) rfl (w.heap.size + 1) rfl 25 D (0, 0) _ HD.out.2.2.1 hu1 rfl i2.out ?_) | ((with_reducible refine gate_dst (N := 63) rfl ?_); refine gate_guard (by rfl) ?_; dsimp only; refine wpList_load_row rfl 27 (.tmp 7) rfl (w.heap.size + 1 + 1) rfl 27 O (0, 0) _ HD.out.2.2.2 hu2 rfl i3.out ?_) | (go_at_call 26; refine (hnear.out _).mono ?_; rintro e w' ⟨rfl, hb⟩; have HB1 := Aside0.mk (B3.step HD.out hb); clear HD; have HD := HB1; clear HB1 hb))
        go_ret
        exact ⟨by rw [HK.out]; rfl, HD.out.1⟩
    | true =>
      cases ex with
      | false =>
        cases nw with
        | false =>
          cases up with
          | false =>
            have HK := Aside0.mk (show rr = false by rw [← HR.out]; simp [skipsB])
            clear HR
            go_wp2_with (first | (go_at_call 25; refine (hlater.out _).mono ?_; rintro e w' ⟨rfl, hb⟩; have HB1 := Aside0.mk (B3.step HD.out hb); clear HD; have HD := HB1; clear HB1 hb) | ((with_reducible refine gate_dst (N := 61) rfl ?_); refine gate_guard (by rfl) ?_; dsimp only; refine wpList_load_row rfl 25 (.tmp 4) rfl (w.heap.size) rfl 25 S (0, 0) _ HD.out.2.1 hu1 rfl i1.out ?_) | ((with_reducible refine gate_dst (N := 62) rfl ?_); refine gate_guard (by rfl) ?_; dsimp only; refine wpList_load_row rfl 25 (.tmp 5) rfl (w.heap.size + 1) rfl 25 D (0, 0) _ HD.out.2.2.1 hu1 rfl i2.out ?_) | ((with_reducible refine gate_dst (N := 63) rfl ?_); refine gate_guard (by rfl) ?_; dsimp only; refine wpList_load_row rfl 27 (.tmp 7) rfl (w.heap.size + 1 + 1) rfl 27 O (0, 0) _ HD.out.2.2.2 hu2 rfl i3.out ?_) | (go_at_call 26; refine (hnear.out _).mono ?_; rintro e w' ⟨rfl, hb⟩; have HB1 := Aside0.mk (B3.step HD.out hb); clear HD; have HD := HB1; clear HB1 hb))
            go_ret
            exact ⟨by rw [HK.out]; rfl, HD.out.1⟩
          | true =>
            cases files with
            | false =>
              have HK := Aside0.mk (show rr = false by rw [← HR.out]; simp [skipsB])
              clear HR
              go_wp2_with (first | (go_at_call 25; refine (hlater.out _).mono ?_; rintro e w' ⟨rfl, hb⟩; have HB1 := Aside0.mk (B3.step HD.out hb); clear HD; have HD := HB1; clear HB1 hb) | ((with_reducible refine gate_dst (N := 61) rfl ?_); refine gate_guard (by rfl) ?_; dsimp only; refine wpList_load_row rfl 25 (.tmp 4) rfl (w.heap.size) rfl 25 S (0, 0) _ HD.out.2.1 hu1 rfl i1.out ?_) | ((with_reducible refine gate_dst (N := 62) rfl ?_); refine gate_guard (by rfl) ?_; dsimp only; refine wpList_load_row rfl 25 (.tmp 5) rfl (w.heap.size + 1) rfl 25 D (0, 0) _ HD.out.2.2.1 hu1 rfl i2.out ?_) | ((with_reducible refine gate_dst (N := 63) rfl ?_); refine gate_guard (by rfl) ?_; dsimp only; refine wpList_load_row rfl 27 (.tmp 7) rfl (w.heap.size + 1 + 1) rfl 27 O (0, 0) _ HD.out.2.2.2 hu2 rfl i3.out ?_) | (go_at_call 26; refine (hnear.out _).mono ?_; rintro e w' ⟨rfl, hb⟩; have HB1 := Aside0.mk (B3.step HD.out hb); clear HD; have HD := HB1; clear HB1 hb))
              go_ret
              exact ⟨by rw [HK.out]; rfl, HD.out.1⟩
            | true =>
              cases l with
              | false =>
                have HK := Aside0.mk (show rr = false by rw [← HR.out]; simp [skipsB])
                clear HR
                go_wp2_with (first | (go_at_call 25; refine (hlater.out _).mono ?_; rintro e w' ⟨rfl, hb⟩; have HB1 := Aside0.mk (B3.step HD.out hb); clear HD; have HD := HB1; clear HB1 hb) | ((with_reducible refine gate_dst (N := 61) rfl ?_); refine gate_guard (by rfl) ?_; dsimp only; refine wpList_load_row rfl 25 (.tmp 4) rfl (w.heap.size) rfl 25 S (0, 0) _ HD.out.2.1 hu1 rfl i1.out ?_) | ((with_reducible refine gate_dst (N := 62) rfl ?_); refine gate_guard (by rfl) ?_; dsimp only; refine wpList_load_row rfl 25 (.tmp 5) rfl (w.heap.size + 1) rfl 25 D (0, 0) _ HD.out.2.2.1 hu1 rfl i2.out ?_) | ((with_reducible refine gate_dst (N := 63) rfl ?_); refine gate_guard (by rfl) ?_; dsimp only; refine wpList_load_row rfl 27 (.tmp 7) rfl (w.heap.size + 1 + 1) rfl 27 O (0, 0) _ HD.out.2.2.2 hu2 rfl i3.out ?_) | (go_at_call 26; refine (hnear.out _).mono ?_; rintro e w' ⟨rfl, hb⟩; have HB1 := Aside0.mk (B3.step HD.out hb); clear HD; have HD := HB1; clear HB1 hb))
                go_ret
                exact ⟨by rw [HK.out]; rfl, HD.out.1⟩
              | true =>
                cases t with
                | false =>
                  have HK := Aside0.mk (show rr = true by rw [← HR.out]; simp [skipsB])
                  clear HR
                  go_wp2_with (first | (go_at_call 25; refine (hlater.out _).mono ?_; rintro e w' ⟨rfl, hb⟩; have HB1 := Aside0.mk (B3.step HD.out hb); clear HD; have HD := HB1; clear HB1 hb) | ((with_reducible refine gate_dst (N := 61) rfl ?_); refine gate_guard (by rfl) ?_; dsimp only; refine wpList_load_row rfl 25 (.tmp 4) rfl (w.heap.size) rfl 25 S (0, 0) _ HD.out.2.1 hu1 rfl i1.out ?_) | ((with_reducible refine gate_dst (N := 62) rfl ?_); refine gate_guard (by rfl) ?_; dsimp only; refine wpList_load_row rfl 25 (.tmp 5) rfl (w.heap.size + 1) rfl 25 D (0, 0) _ HD.out.2.2.1 hu1 rfl i2.out ?_) | ((with_reducible refine gate_dst (N := 63) rfl ?_); refine gate_guard (by rfl) ?_; dsimp only; refine wpList_load_row rfl 27 (.tmp 7) rfl (w.heap.size + 1 + 1) rfl 27 O (0, 0) _ HD.out.2.2.2 hu2 rfl i3.out ?_) | (go_at_call 26; refine (hnear.out _).mono ?_; rintro e w' ⟨rfl, hb⟩; have HB1 := Aside0.mk (B3.step HD.out hb); clear HD; have HD := HB1; clear HB1 hb))
                  go_ret
                  exact ⟨by rw [HK.out]; rfl, HD.out.1⟩
                | true =>
                  have HK := Aside0.mk (show rr = false by rw [← HR.out]; simp [skipsB])
                  clear HR
                  go_wp2_with (first | (go_at_call 25; refine (hlater.out _).mono ?_; rintro e w' ⟨rfl, hb⟩; have HB1 := Aside0.mk (B3.step HD.out hb); clear HD; have HD := HB1; clear HB1 hb) | ((with_reducible refine gate_dst (N := 61) rfl ?_); refine gate_guard (by rfl) ?_; dsimp only; refine wpList_load_row rfl 25 (.tmp 4) rfl (w.heap.size) rfl 25 S (0, 0) _ HD.out.2.1 hu1 rfl i1.out ?_) | ((with_reducible refine gate_dst (N := 62) rfl ?_); refine gate_guard (by rfl) ?_; dsimp only; refine wpList_load_row rfl 25 (.tmp 5) rfl (w.heap.size + 1) rfl 25 D (0, 0) _ HD.out.2.2.1 hu1 rfl i2.out ?_) | ((with_reducible refine gate_dst (N := 63) rfl ?_); refine gate_guard (by rfl) ?_; dsimp only; refine wpList_load_row rfl 27 (.tmp 7) rfl (w.heap.size + 1 + 1) rfl 27 O (0, 0) _ HD.out.2.2.2 hu2 rfl i3.out ?_) | (go_at_call 26; refine (hnear.out _).mono ?_; rintro e w' ⟨rfl, hb⟩; have HB1 := Aside0.mk (B3.step HD.out hb); clear HD; have HD := HB1; clear HB1 hb))
                  go_ret
                  exact ⟨by rw [HK.out]; rfl, HD.out.1⟩
        | true =>
          cases dirs with
          | false =>
            have HK := Aside0.mk (show rr = true by rw [← HR.out]; simp [skipsB])
            clear HR
            go_wp2_with (first | (go_at_call 25; refine (hlater.out _).mono ?_; rintro e w' ⟨rfl, hb⟩; have HB1 := Aside0.mk (B3.step HD.out hb); clear HD; have HD := HB1; clear HB1 hb) | ((with_reducible refine gate_dst (N := 61) rfl ?_); refine gate_guard (by rfl) ?_; dsimp only; refine wpList_load_row rfl 25 (.tmp 4) rfl (w.heap.size) rfl 25 S (0, 0) _ HD.out.2.1 hu1 rfl i1.out ?_) | ((with_reducible refine gate_dst (N := 62) rfl ?_); refine gate_guard (by rfl) ?_; dsimp only; refine wpList_load_row rfl 25 (.tmp 5) rfl (w.heap.size + 1) rfl 25 D (0, 0) _ HD.out.2.2.1 hu1 rfl i2.out ?_) | ((with_reducible refine gate_dst (N := 63) rfl ?_); refine gate_guard (by rfl) ?_; dsimp only; refine wpList_load_row rfl 27 (.tmp 7) rfl (w.heap.size + 1 + 1) rfl 27 O (0, 0) _ HD.out.2.2.2 hu2 rfl i3.out ?_) | (go_at_call 26; refine (hnear.out _).mono ?_; rintro e w' ⟨rfl, hb⟩; have HB1 := Aside0.mk (B3.step HD.out hb); clear HD; have HD := HB1; clear HB1 hb))
            go_ret
            exact ⟨by rw [HK.out]; rfl, HD.out.1⟩
          | true =>
            cases up with
            | false =>
              have HK := Aside0.mk (show rr = false by rw [← HR.out]; simp [skipsB])
              clear HR
              go_wp2_with (first | (go_at_call 25; refine (hlater.out _).mono ?_; rintro e w' ⟨rfl, hb⟩; have HB1 := Aside0.mk (B3.step HD.out hb); clear HD; have HD := HB1; clear HB1 hb) | ((with_reducible refine gate_dst (N := 61) rfl ?_); refine gate_guard (by rfl) ?_; dsimp only; refine wpList_load_row rfl 25 (.tmp 4) rfl (w.heap.size) rfl 25 S (0, 0) _ HD.out.2.1 hu1 rfl i1.out ?_) | ((with_reducible refine gate_dst (N := 62) rfl ?_); refine gate_guard (by rfl) ?_; dsimp only; refine wpList_load_row rfl 25 (.tmp 5) rfl (w.heap.size + 1) rfl 25 D (0, 0) _ HD.out.2.2.1 hu1 rfl i2.out ?_) | ((with_reducible refine gate_dst (N := 63) rfl ?_); refine gate_guard (by rfl) ?_; dsimp only; refine wpList_load_row rfl 27 (.tmp 7) rfl (w.heap.size + 1 + 1) rfl 27 O (0, 0) _ HD.out.2.2.2 hu2 rfl i3.out ?_) | (go_at_call 26; refine (hnear.out _).mono ?_; rintro e w' ⟨rfl, hb⟩; have HB1 := Aside0.mk (B3.step HD.out hb); clear HD; have HD := HB1; clear HB1 hb))
              go_ret
              exact ⟨by rw [HK.out]; rfl, HD.out.1⟩
            | true =>
              cases files with
              | false =>
                have HK := Aside0.mk (show rr = false by rw [← HR.out]; simp [skipsB])
                clear HR
                go_wp2_with (first | (go_at_call 25; refine (hlater.out _).mono ?_; rintro e w' ⟨rfl, hb⟩; have HB1 := Aside0.mk (B3.step HD.out hb); clear HD; have HD := HB1; clear HB1 hb) | ((with_reducible refine gate_dst (N := 61) rfl ?_); refine gate_guard (by rfl) ?_; dsimp only; refine wpList_load_row rfl 25 (.tmp 4) rfl (w.heap.size) rfl 25 S (0, 0) _ HD.out.2.1 hu1 rfl i1.out ?_) | ((with_reducible refine gate_dst (N := 62) rfl ?_); refine gate_guard (by rfl) ?_; dsimp only; refine wpList_load_row rfl 25 (.tmp 5) rfl (w.heap.size + 1) rfl 25 D (0, 0) _ HD.out.2.2.1 hu1 rfl i2.out ?_) | ((with_reducible refine gate_dst (N := 63) rfl ?_); refine gate_guard (by rfl) ?_; dsimp only; refine wpList_load_row rfl 27 (.tmp 7) rfl (w.heap.size + 1 + 1) rfl 27 O (0, 0) _ HD.out.2.2.2 hu2 rfl i3.out ?_) | (go_at_call 26; refine (hnear.out _).mono ?_; rintro e w' ⟨rfl, hb⟩; have HB1 := Aside0.mk (B3.step HD.out hb); clear HD; have HD := HB1; clear HB1 hb))
                go_ret
                exact ⟨by rw [HK.out]; rfl, HD.out.1⟩
              | true =>
                cases l with
                | false =>
                  have HK := Aside0.mk (show rr = false by rw [← HR.out]; simp [skipsB])
                  clear HR
                  go_wp2_with (first | (go_at_call 25; refine (hlater.out _).mono ?_; rintro e w' ⟨rfl, hb⟩; have HB1 := Aside0.mk (B3.step HD.out hb); clear HD; have HD := HB1; clear HB1 hb) | ((with_reducible refine gate_dst (N := 61) rfl ?_); refine gate_guard (by rfl) ?_; dsimp only; refine wpList_load_row rfl 25 (.tmp 4) rfl (w.heap.size) rfl 25 S (0, 0) _ HD.out.2.1 hu1 rfl i1.out ?_) | ((with_reducible refine gate_dst (N := 62) rfl ?_); refine gate_guard (by rfl) ?_; dsimp only; refine wpList_load_row rfl 25 (.tmp 5) rfl (w.heap.size + 1) rfl 25 D (0, 0) _ HD.out.2.2.1 hu1 rfl i2.out ?_) | ((with_reducible refine gate_dst (N := 63) rfl ?_); refine gate_guard (by rfl) ?_; dsimp only; refine wpList_load_row rfl 27 (.tmp 7) rfl (w.heap.size + 1 + 1) rfl 27 O (0, 0) _ HD.out.2.2.2 hu2 rfl i3.out ?_) | (go_at_call 26; refine (hnear.out _).mono ?_; rintro e w' ⟨rfl, hb⟩; have HB1 := Aside0.mk (B3.step HD.out hb); clear HD; have HD := HB1; clear HB1 hb))
                  go_ret
                  exact ⟨by rw [HK.out]; rfl, HD.out.1⟩
                | true =>
                  cases t with
                  | false =>
                    have HK := Aside0.mk (show rr = true by rw [← HR.out]; simp [skipsB])
                    clear HR
                    go_wp2_with (first | (go_at_call 25; refine (hlater.out _).mono ?_; rintro e w' ⟨rfl, hb⟩; have HB1 := Aside0.mk (B3.step HD.out hb); clear HD; have HD := HB1; clear HB1 hb) | ((with_reducible refine gate_dst (N := 61) rfl ?_); refine gate_guard (by rfl) ?_; dsimp only; refine wpList_load_row rfl 25 (.tmp 4) rfl (w.heap.size) rfl 25 S (0, 0) _ HD.out.2.1 hu1 rfl i1.out ?_) | ((with_reducible refine gate_dst (N := 62) rfl ?_); refine gate_guard (by rfl) ?_; dsimp only; refine wpList_load_row rfl 25 (.tmp 5) rfl (w.heap.size + 1) rfl 25 D (0, 0) _ HD.out.2.2.1 hu1 rfl i2.out ?_) | ((with_reducible refine gate_dst (N := 63) rfl ?_); refine gate_guard (by rfl) ?_; dsimp only; refine wpList_load_row rfl 27 (.tmp 7) rfl (w.heap.size + 1 + 1) rfl 27 O (0, 0) _ HD.out.2.2.2 hu2 rfl i3.out ?_) | (go_at_call 26; refine (hnear.out _).mono ?_; rintro e w' ⟨rfl, hb⟩; have HB1 := Aside0.mk (B3.step HD.out hb); clear HD; have HD := HB1; clear HB1 hb))
                    go_ret
                    exact ⟨by rw [HK.out]; rfl, HD.out.1⟩
                  | true =>
                    have HK := Aside0.mk (show rr = false by rw [← HR.out]; simp [skipsB])
                    clear HR
                    go_wp2_with (first | (go_at_call 25; refine (hlater.out _).mono ?_; rintro e w' ⟨rfl, hb⟩; have HB1 := Aside0.mk (B3.step HD.out hb); clear HD; have HD := HB1; clear HB1 hb) | ((with_reducible refine gate_dst (N := 61) rfl ?_); refine gate_guard (by rfl) ?_; dsimp only; refine wpList_load_row rfl 25 (.tmp 4) rfl (w.heap.size) rfl 25 S (0, 0) _ HD.out.2.1 hu1 rfl i1.out ?_) | ((with_reducible refine gate_dst (N := 62) rfl ?_); refine gate_guard (by rfl) ?_; dsimp only; refine wpList_load_row rfl 25 (.tmp 5) rfl (w.heap.size + 1) rfl 25 D (0, 0) _ HD.out.2.2.1 hu1 rfl i2.out ?_) | ((with_reducible refine gate_dst (N := 63) rfl ?_); refine gate_guard (by rfl) ?_; dsimp only; refine wpList_load_row rfl 27 (.tmp 7) rfl (w.heap.size + 1 + 1) rfl 27 O (0, 0) _ HD.out.2.2.2 hu2 rfl i3.out ?_) | (go_at_call 26; refine (hnear.out _).mono ?_; rintro e w' ⟨rfl, hb⟩; have HB1 := Aside0.mk (B3.step HD.out hb); clear HD; have HD := HB1; clear HB1 hb))
                    go_ret
                    exact ⟨by rw [HK.out]; rfl, HD.out.1⟩
      | true =>
        cases nw with
        | false =>
          cases up with
          | false =>
            have HK := Aside0.mk (show rr = false by rw [← HR.out]; simp [skipsB])
            clear HR
            go_wp2_with (first | (go_at_call 25; refine (hlater.out _).mono ?_; rintro e w' ⟨rfl, hb⟩; have HB1 := Aside0.mk (B3.step HD.out hb); clear HD; have HD := HB1; clear HB1 hb) | ((with_reducible refine gate_dst (N := 61) rfl ?_); refine gate_guard (by rfl) ?_; dsimp only; refine wpList_load_row rfl 25 (.tmp 4) rfl (w.heap.size) rfl 25 S (0, 0) _ HD.out.2.1 hu1 rfl i1.out ?_) | ((with_reducible refine gate_dst (N := 62) rfl ?_); refine gate_guard (by rfl) ?_; dsimp only; refine wpList_load_row rfl 25 (.tmp 5) rfl (w.heap.size + 1) rfl 25 D (0, 0) _ HD.out.2.2.1 hu1 rfl i2.out ?_) | ((with_reducible refine gate_dst (N := 63) rfl ?_); refine gate_guard (by rfl) ?_; dsimp only; refine wpList_load_row rfl 27 (.tmp 7) rfl (w.heap.size + 1 + 1) rfl 27 O (0, 0) _ HD.out.2.2.2 hu2 rfl i3.out ?_) | (go_at_call 26; refine (hnear.out _).mono ?_; rintro e w' ⟨rfl, hb⟩; have HB1 := Aside0.mk (B3.step HD.out hb); clear HD; have HD := HB1; clear HB1 hb))
            go_ret
            exact ⟨by rw [HK.out]; rfl, HD.out.1⟩
          | true =>
            cases files with
            | false =>
              have HK := Aside0.mk (show rr = false by rw [← HR.out]; simp [skipsB])
              clear HR
              go_wp2_with (first | (go_at_call 25; refine (hlater.out _).mono ?_; rintro e w' ⟨rfl, hb⟩; have HB1 := Aside0.mk (B3.step HD.out hb); clear HD; have HD := HB1; clear HB1 hb) | ((with_reducible refine gate_dst (N := 61) rfl ?_); refine gate_guard (by rfl) ?_; dsimp only; refine wpList_load_row rfl 25 (.tmp 4) rfl (w.heap.size) rfl 25 S (0, 0) _ HD.out.2.1 hu1 rfl i1.out ?_) | ((with_reducible refine gate_dst (N := 62) rfl ?_); refine gate_guard (by rfl) ?_; dsimp only; refine wpList_load_row rfl 25 (.tmp 5) rfl (w.heap.size + 1) rfl 25 D (0, 0) _ HD.out.2.2.1 hu1 rfl i2.out ?_) | ((with_reducible refine gate_dst (N := 63) rfl ?_); refine gate_guard (by rfl) ?_; dsimp only; refine wpList_load_row rfl 27 (.tmp 7) rfl (w.heap.size + 1 + 1) rfl 27 O (0, 0) _ HD.out.2.2.2 hu2 rfl i3.out ?_) | (go_at_call 26; refine (hnear.out _).mono ?_; rintro e w' ⟨rfl, hb⟩; have HB1 := Aside0.mk (B3.step HD.out hb); clear HD; have HD := HB1; clear HB1 hb))
              go_ret
              exact ⟨by rw [HK.out]; rfl, HD.out.1⟩
            | true =>
              cases l with
              | false =>
                have HK := Aside0.mk (show rr = false by rw [← HR.out]; simp [skipsB])
                clear HR
                go_wp2_with (first | (go_at_call 25; refine (hlater.out _).mono ?_; rintro e w' ⟨rfl, hb⟩; have HB1 := Aside0.mk (B3.step HD.out hb); clear HD; have HD := HB1; clear HB1 hb) | ((with_reducible refine gate_dst (N := 61) rfl ?_); refine gate_guard (by rfl) ?_; dsimp only; refine wpList_load_row rfl 25 (.tmp 4) rfl (w.heap.size) rfl 25 S (0, 0) _ HD.out.2.1 hu1 rfl i1.out ?_) | ((with_reducible refine gate_dst (N := 62) rfl ?_); refine gate_guard (by rfl) ?_; dsimp only; refine wpList_load_row rfl 25 (.tmp 5) rfl (w.heap.size + 1) rfl 25 D (0, 0) _ HD.out.2.2.1 hu1 rfl i2.out ?_) | ((with_reducible refine gate_dst (N := 63) rfl ?_); refine gate_guard (by rfl) ?_; dsimp only; refine wpList_load_row rfl 27 (.tmp 7) rfl (w.heap.size + 1 + 1) rfl 27 O (0, 0) _ HD.out.2.2.2 hu2 rfl i3.out ?_) | (go_at_call 26; refine (hnear.out _).mono ?_; rintro e w' ⟨rfl, hb⟩; have HB1 := Aside0.mk (B3.step HD.out hb); clear HD; have HD := HB1; clear HB1 hb))
                go_ret
                exact ⟨by rw [HK.out]; rfl, HD.out.1⟩
              | true =>
                cases t with
                | false =>
                  have HK := Aside0.mk (show rr = true by rw [← HR.out]; simp [skipsB])
                  clear HR
                  go_wp2_with (first | (go_at_call 25; refine (hlater.out _).mono ?_; rintro e w' ⟨rfl, hb⟩; have HB1 := Aside0.mk (B3.step HD.out hb); clear HD; have HD := HB1; clear HB1 hb) | ((with_reducible refine gate_dst (N := 61) rfl ?_); refine gate_guard (by rfl) ?_; dsimp only; refine wpList_load_row rfl 25 (.tmp 4) rfl (w.heap.size) rfl 25 S (0, 0) _ HD.out.2.1 hu1 rfl i1.out ?_) | ((with_reducible refine gate_dst (N := 62) rfl ?_); refine gate_guard (by rfl) ?_; dsimp only; refine wpList_load_row rfl 25 (.tmp 5) rfl (w.heap.size + 1) rfl 25 D (0, 0) _ HD.out.2.2.1 hu1 rfl i2.out ?_) | ((with_reducible refine gate_dst (N := 63) rfl ?_); refine gate_guard (by rfl) ?_; dsimp only; refine wpList_load_row rfl 27 (.tmp 7) rfl (w.heap.size + 1 + 1) rfl 27 O (0, 0) _ HD.out.2.2.2 hu2 rfl i3.out ?_) | (go_at_call 26; refine (hnear.out _).mono ?_; rintro e w' ⟨rfl, hb⟩; have HB1 := Aside0.mk (B3.step HD.out hb); clear HD; have HD := HB1; clear HB1 hb))
                  go_ret
                  exact ⟨by rw [HK.out]; rfl, HD.out.1⟩
                | true =>
                  have HK := Aside0.mk (show rr = false by rw [← HR.out]; simp [skipsB])
                  clear HR
                  go_wp2_with (first | (go_at_call 25; refine (hlater.out _).mono ?_; rintro e w' ⟨rfl, hb⟩; have HB1 := Aside0.mk (B3.step HD.out hb); clear HD; have HD := HB1; clear HB1 hb) | ((with_reducible refine gate_dst (N := 61) rfl ?_); refine gate_guard (by rfl) ?_; dsimp only; refine wpList_load_row rfl 25 (.tmp 4) rfl (w.heap.size) rfl 25 S (0, 0) _ HD.out.2.1 hu1 rfl i1.out ?_) | ((with_reducible refine gate_dst (N := 62) rfl ?_); refine gate_guard (by rfl) ?_; dsimp only; refine wpList_load_row rfl 25 (.tmp 5) rfl (w.heap.size + 1) rfl 25 D (0, 0) _ HD.out.2.2.1 hu1 rfl i2.out ?_) | ((with_reducible refine gate_dst (N := 63) rfl ?_); refine gate_guard (by rfl) ?_; dsimp only; refine wpList_load_row rfl 27 (.tmp 7) rfl (w.heap.size + 1 + 1) rfl 27 O (0, 0) _ HD.out.2.2.2 hu2 rfl i3.out ?_) | (go_at_call 26; refine (hnear.out _).mono ?_; rintro e w' ⟨rfl, hb⟩; have HB1 := Aside0.mk (B3.step HD.out hb); clear HD; have HD := HB1; clear HB1 hb))
                  go_ret
                  exact ⟨by rw [HK.out]; rfl, HD.out.1⟩
        | true =>
          cases dirs with
          | false =>
            have HK := Aside0.mk (show rr = true by rw [← HR.out]; simp [skipsB])
            clear HR
            go_wp2_with (first | (go_at_call 25; refine (hlater.out _).mono ?_; rintro e w' ⟨rfl, hb⟩; have HB1 := Aside0.mk (B3.step HD.out hb); clear HD; have HD := HB1; clear HB1 hb) | ((with_reducible refine gate_dst (N := 61) rfl ?_); refine gate_guard (by rfl) ?_; dsimp only; refine wpList_load_row rfl 25 (.tmp 4) rfl (w.heap.size) rfl 25 S (0, 0) _ HD.out.2.1 hu1 rfl i1.out ?_) | ((with_reducible refine gate_dst (N := 62) rfl ?_); refine gate_guard (by rfl) ?_; dsimp only; refine wpList_load_row rfl 25 (.tmp 5) rfl (w.heap.size + 1) rfl 25 D (0, 0) _ HD.out.2.2.1 hu1 rfl i2.out ?_) | ((with_reducible refine gate_dst (N := 63) rfl ?_); refine gate_guard (by rfl) ?_; dsimp only; refine wpList_load_row rfl 27 (.tmp 7) rfl (w.heap.size + 1 + 1) rfl 27 O (0, 0) _ HD.out.2.2.2 hu2 rfl i3.out ?_) | (go_at_call 26; refine (hnear.out _).mono ?_; rintro e w' ⟨rfl, hb⟩; have HB1 := Aside0.mk (B3.step HD.out hb); clear HD; have HD := HB1; clear HB1 hb))
            go_ret
            exact ⟨by rw [HK.out]; rfl, HD.out.1⟩
          | true =>
            cases up with
            | false =>
              have HK := Aside0.mk (show rr = false by rw [← HR.out]; simp [skipsB])
              clear HR
              go_wp2_with (first | (go_at_call 25; refine (hlater.out _).mono ?_; rintro e w' ⟨rfl, hb⟩; have HB1 := Aside0.mk (B3.step HD.out hb); clear HD; have HD := HB1; clear HB1 hb) | ((with_reducible refine gate_dst (N := 61) rfl ?_); refine gate_guard (by rfl) ?_; dsimp only; refine wpList_load_row rfl 25 (.tmp 4) rfl (w.heap.size) rfl 25 S (0, 0) _ HD.out.2.1 hu1 rfl i1.out ?_) | ((with_reducible refine gate_dst (N := 62) rfl ?_); refine gate_guard (by rfl) ?_; dsimp only; refine wpList_load_row rfl 25 (.tmp 5) rfl (w.heap.size + 1) rfl 25 D (0, 0) _ HD.out.2.2.1 hu1 rfl i2.out ?_) | ((with_reducible refine gate_dst (N := 63) rfl ?_); refine gate_guard (by rfl) ?_; dsimp only; refine wpList_load_row rfl 27 (.tmp 7) rfl (w.heap.size + 1 + 1) rfl 27 O (0, 0) _ HD.out.2.2.2 hu2 rfl i3.out ?_) | (go_at_call 26; refine (hnear.out _).mono ?_; rintro e w' ⟨rfl, hb⟩; have HB1 := Aside0.mk (B3.step HD.out hb); clear HD; have HD := HB1; clear HB1 hb))
              go_ret
              exact ⟨by rw [HK.out]; rfl, HD.out.1⟩
            | true =>
              cases files with
              | false =>
                have HK := Aside0.mk (show rr = false by rw [← HR.out]; simp [skipsB])
                clear HR
                go_wp2_with (first | (go_at_call 25; refine (hlater.out _).mono ?_; rintro e w' ⟨rfl, hb⟩; have HB1 := Aside0.mk (B3.step HD.out hb); clear HD; have HD := HB1; clear HB1 hb) | ((with_reducible refine gate_dst (N := 61) rfl ?_); refine gate_guard (by rfl) ?_; dsimp only; refine wpList_load_row rfl 25 (.tmp 4) rfl (w.heap.size) rfl 25 S (0, 0) _ HD.out.2.1 hu1 rfl i1.out ?_) | ((with_reducible refine gate_dst (N := 62) rfl ?_); refine gate_guard (by rfl) ?_; dsimp only; refine wpList_load_row rfl 25 (.tmp 5) rfl (w.heap.size + 1) rfl 25 D (0, 0) _ HD.out.2.2.1 hu1 rfl i2.out ?_) | ((with_reducible refine gate_dst (N := 63) rfl ?_); refine gate_guard (by rfl) ?_; dsimp only; refine wpList_load_row rfl 27 (.tmp 7) rfl (w.heap.size + 1 + 1) rfl 27 O (0, 0) _ HD.out.2.2.2 hu2 rfl i3.out ?_) | (go_at_call 26; refine (hnear.out _).mono ?_; rintro e w' ⟨rfl, hb⟩; have HB1 := Aside0.mk (B3.step HD.out hb); clear HD; have HD := HB1; clear HB1 hb))
                go_ret
                exact ⟨by rw [HK.out]; rfl, HD.out.1⟩
              | true =>
                cases l with
                | false =>
                  have HK := Aside0.mk (show rr = false by rw [← HR.out]; simp [skipsB])
                  clear HR
                  go_wp2_with (first | (go_at_call 25; refine (hlater.out _).mono ?_; rintro e w' ⟨rfl, hb⟩; have HB1 := Aside0.mk (B3.step HD.out hb); clear HD; have HD := HB1; clear HB1 hb) | ((with_reducible refine gate_dst (N := 61) rfl ?_); refine gate_guard (by rfl) ?_; dsimp only; refine wpList_load_row rfl 25 (.tmp 4) rfl (w.heap.size) rfl 25 S (0, 0) _ HD.out.2.1 hu1 rfl i1.out ?_) | ((with_reducible refine gate_dst (N := 62) rfl ?_); refine gate_guard (by rfl) ?_; dsimp only; refine wpList_load_row rfl 25 (.tmp 5) rfl (w.heap.size + 1) rfl 25 D (0, 0) _ HD.out.2.2.1 hu1 rfl i2.out ?_) | ((with_reducible refine gate_dst (N := 63) rfl ?_); refine gate_guard (by rfl) ?_; dsimp only; refine wpList_load_row rfl 27 (.tmp 7) rfl (w.heap.size + 1 + 1) rfl 27 O (0, 0) _ HD.out.2.2.2 hu2 rfl i3.out ?_) | (go_at_call 26; refine (hnear.out _).mono ?_; rintro e w' ⟨rfl, hb⟩; have HB1 := Aside0.mk (B3.step HD.out hb); clear HD; have HD := HB1; clear HB1 hb))
                  go_ret
                  exact ⟨by rw [HK.out]; rfl, HD.out.1⟩
                | true =>
                  cases t with
                  | false =>
                    have HK := Aside0.mk (show rr = true by rw [← HR.out]; simp [skipsB])
                    clear HR
                    go_wp2_with (first | (go_at_call 25; refine (hlater.out _).mono ?_; rintro e w' ⟨rfl, hb⟩; have HB1 := Aside0.mk (B3.step HD.out hb); clear HD; have HD := HB1; clear HB1 hb) | ((with_reducible refine gate_dst (N := 61) rfl ?_); refine gate_guard (by rfl) ?_; dsimp only; refine wpList_load_row rfl 25 (.tmp 4) rfl (w.heap.size) rfl 25 S (0, 0) _ HD.out.2.1 hu1 rfl i1.out ?_) | ((with_reducible refine gate_dst (N := 62) rfl ?_); refine gate_guard (by rfl) ?_; dsimp only; refine wpList_load_row rfl 25 (.tmp 5) rfl (w.heap.size + 1) rfl 25 D (0, 0) _ HD.out.2.2.1 hu1 rfl i2.out ?_) | ((with_reducible refine gate_dst (N := 63) rfl ?_); refine gate_guard (by rfl) ?_; dsimp only; refine wpList_load_row rfl 27 (.tmp 7) rfl (w.heap.size + 1 + 1) rfl 27 O (0, 0) _ HD.out.2.2.2 hu2 rfl i3.out ?_) | (go_at_call 26; refine (hnear.out _).mono ?_; rintro e w' ⟨rfl, hb⟩; have HB1 := Aside0.mk (B3.step HD.out hb); clear HD; have HD := HB1; clear HB1 hb))
                    go_ret
                    exact ⟨by rw [HK.out]; rfl, HD.out.1⟩
                  | true =>
                    have HK := Aside0.mk (show rr = false by rw [← HR.out]; simp [skipsB])
                    clear HR
                    go_wp2_with (first | (go_at_call 25; refine (hlater.out _).mono ?_; rintro e w' ⟨rfl, hb⟩; have HB1 := Aside0.mk (B3.step HD.out hb); clear HD; have HD := HB1; clear HB1 hb) | ((with_reducible refine gate_dst (N := 61) rfl ?_); refine gate_guard (by rfl) ?_; dsimp only; refine wpList_load_row rfl 25 (.tmp 4) rfl (w.heap.size) rfl 25 S (0, 0) _ HD.out.2.1 hu1 rfl i1.out ?_) | ((with_reducible refine gate_dst (N := 62) rfl ?_); refine gate_guard (by rfl) ?_; dsimp only; refine wpList_load_row rfl 25 (.tmp 5) rfl (w.heap.size + 1) rfl 25 D (0, 0) _ HD.out.2.2.1 hu1 rfl i2.out ?_) | ((with_reducible refine gate_dst (N := 63) rfl ?_); refine gate_guard (by rfl) ?_; dsimp only; refine wpList_load_row rfl 27 (.tmp 7) rfl (w.heap.size + 1 + 1) rfl 27 O (0, 0) _ HD.out.2.2.2 hu2 rfl i3.out ?_) | (go_at_call 26; refine (hnear.out _).mono ?_; rintro e w' ⟨rfl, hb⟩; have HB1 := Aside0.mk (B3.step HD.out hb); clear HD; have HD := HB1; clear HB1 hb))
                    go_ret
                    exact ⟨by rw [HK.out]; rfl, HD.out.1⟩
theorem quick_Skips.calls (a0_0 : ByteArray) (a0_1 : Int) (a0_2 : Int) (a0_3 : Int) (a0_4 : Int) (a0_5 : Int) (a0_6 : Int) (a0_7 : Int) (a0_8 : ByteArray) (a0_9 : ByteArray) (a0_10 : Int) (a1_0 : ByteArray) (a1_1 : Int) (a1_2 : Int) (a1_3 : Int) (a1_4 : Int) (a1_5 : Int) (a1_6 : Int) (a1_7 : Int) (a1_8 : ByteArray) (a1_9 : ByteArray) (a1_10 : Int) (a2 : Bool) (a3_0 : Int) (a3_1 : Int) (a3_2 : Bool) (a3_3 : Bool) (a3_4 : Bool) (a3_5 : Bool) (a3_6 : Bool) (a3_7 : Bool) (a3_8 : Bool) (a3_9 : Bool) (a3_10 : Bool) (a3_11 : Bool) (a3_12 : Bool) (a3_13 : Bool) (a3_14 : Bool) (a3_15 : Bool) (a3_16 : Bool) (a3_17 : Bool) (a3_18 : Int) (a3_19 : Int) (a3_20 : Int) (r : Bool) (w : World) (h : quick_Skips.f a0_0 a0_1 a0_2 a0_3 a0_4 a0_5 a0_6 a0_7 a0_8 a0_9 a0_10 a1_0 a1_1 a1_2 a1_3 a1_4 a1_5 a1_6 a1_7 a1_8 a1_9 a1_10 a2 a3_0 a3_1 a3_2 a3_3 a3_4 a3_5 a3_6 a3_7 a3_8 a3_9 a3_10 a3_11 a3_12 a3_13 a3_14 a3_15 a3_16 a3_17 a3_18 a3_19 a3_20 = some r) :
    Calls Try.prog 17 #[.agg #[.string a0_0, .int .i64 a0_1, .int .i64 a0_2, .int .i64 a0_3, .int .i64 a0_4, .int .i64 a0_5, .int .i64 a0_6, .int .i64 a0_7, .string a0_8, .string a0_9, .int .i64 a0_10], .agg #[.string a1_0, .int .i64 a1_1, .int .i64 a1_2, .int .i64 a1_3, .int .i64 a1_4, .int .i64 a1_5, .int .i64 a1_6, .int .i64 a1_7, .string a1_8, .string a1_9, .int .i64 a1_10], .bool a2, .agg #[.int .i64 a3_0, .int .i64 a3_1, .bool a3_2, .bool a3_3, .bool a3_4, .bool a3_5, .bool a3_6, .bool a3_7, .bool a3_8, .bool a3_9, .bool a3_10, .bool a3_11, .bool a3_12, .bool a3_13, .bool a3_14, .bool a3_15, .bool a3_16, .bool a3_17, .int .i64 a3_18, .int .i64 a3_19, .int .i64 a3_20]] w fun e w' => e = .returned (.bool r) ∧ Below w.heap.size w w' := by
  unfold quick_Skips.f at h
  obtain ⟨l, e1, h⟩ := Option.bind_eq_some_iff.mp h
  obtain ⟨t, e2, h⟩ := Option.bind_eq_some_iff.mp h
  obtain rfl := Option.some.inj h
  exact skips_any _ _ _ rfl rfl rfl a0_1 a1_1 a0_3 a0_4 a0_5 a0_6 a0_7 a1_3 a1_4 a1_5 a1_6 a1_7 a3_4 a3_5 a3_6 a2 rfl rfl rfl rfl rfl rfl rfl rfl rfl rfl rfl rfl rfl rfl rfl l t ⟨fun w => quick_later.calls _ _ _ _ _ _ _ _ _ _ l w e1⟩ ⟨fun w => quick_near.calls 100 _ _ _ _ _ _ _ _ _ _ _ _ _ _ _ _ _ _ _ _ _ _ _ _ _ _ _ _ _ _ _ _ _ _ _ _ _ _ _ _ _ _ _ t w e2⟩ w
end Go.Proofs.Ytniedfbchcgaoaa.PA
