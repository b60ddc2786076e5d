/- remoraref21.Diff by its contract: 2 where the kinds differ, else the sum of the bits that differ. -/
import Derived.Test.YtniedfbchcgaoaaPAfremoraref16Near
import Derived.Test.YtniedfbchcgaoaaPAx0
import Derived.Test.YtniedfbchcgaoaaXquickdifferences2
namespace Go.Proofs.Ytniedfbchcgaoaa.PA
open Go.RowKit Go.Proofs.YtniedfbchcgaoaaW.PrintWords Go.Proofs.YtniedfbchcgaoaaW.PrintLast Go.Proofs.YtniedfbchcgaoaaW.PrintMore
attribute [local go_sem] max2_int min2_int max_two min_two max_three min_three max_four min_four
set_option linter.unusedVariables false
set_option linter.unusedSimpArgs false
def bitI (n : Int) (b : Bool) : Int := if b = true then n else 0
theorem bitI_bd (n : Int) (b : Bool) (h : 0 ≤ n) : 0 ≤ bitI n b ∧ bitI n b ≤ n := by unfold bitI; split <;> omega
def rDiff (near : Bool) (k s1 s2 m1 m2 u1 u2 g1 g2 : Int) (t1 t2 c1 c2 : ByteArray) (chk perms times owner : Bool) : Int :=
  bitI 16 (perms && m1 != m2) + bitI 32 (owner && (u1 != u2 || g1 != g2)) + (if k = 1 then bitI 4 (s1 != s2) + bitI 8 (!near) + bitI 128 (chk && !(c1.toList == c2.toList)) else if k = 2 then bitI 8 (times && !near) else if k = 3 then bitI 8 (times && !near) + bitI 64 (!(t1.toList == t2.toList)) else 0)
def remoraref21_Diff.f (a0_0 : ByteArray) (a0_1 : Int) (a0_2 : Int) (a0_3 : Int) (a0_4 : Int) (a0_5 : Int) (a0_6 : Int) (a0_7 : Int) (a0_8 : ByteArray) (a0_9 : ByteArray) (a0_10 : Int) (a1_0 : ByteArray) (a1_1 : Int) (a1_2 : Int) (a1_3 : Int) (a1_4 : Int) (a1_5 : Int) (a1_6 : Int) (a1_7 : Int) (a1_8 : ByteArray) (a1_9 : ByteArray) (a1_10 : Int) (a2_0 : Int) (a2_1 : Int) (a2_2 : Bool) (a2_3 : Bool) (a2_4 : Bool) (a2_5 : Bool) (a2_6 : Bool) (a2_7 : Bool) (a2_8 : Bool) (a2_9 : Bool) (a2_10 : Bool) (a2_11 : Bool) (a2_12 : Bool) (a2_13 : Bool) (a2_14 : Bool) (a2_15 : Bool) (a2_16 : Bool) (a2_17 : Bool) (a2_18 : Int) (a2_19 : Int) (a2_20 : Int) : Option Int := if a0_1 = a1_1 then (remoraref16_Near.f 100 a0_3 a0_4 a0_5 a0_6 a0_7 a1_3 a1_4 a1_5 a1_6 a1_7 a2_18).bind fun t => some (rDiff t a0_1 a0_2 a1_2 a0_3 a1_3 a0_6 a1_6 a0_7 a1_7 a0_8 a1_8 a0_9 a1_9 a2_2 a2_7 a2_8 a2_9) else some 2
def DBlk3 (w0 wr : World) (S D O : Array Value) : Prop := Below w0.heap.size w0 wr ∧ wr.heap[w0.heap.size]? = some (.cells S 25 (0, 0)) ∧ wr.heap[w0.heap.size + 1]? = some (.cells D 25 (0, 0)) ∧ wr.heap[w0.heap.size + 1 + 1]? = some (.cells O 27 (0, 0))
theorem DBlk3.start (w : World) (S D O : Array Value) : DBlk3 w (((w.alloc (.cells S 25)).alloc (.cells D 25)).alloc (.cells O 27)) S D O := ⟨below_alloc (below_alloc (below_alloc (Below.refl _ _) _) _) _, blks3 w S D O 25 25 27⟩
theorem DBlk3.step {w0 wr w2 : World} {S D O : Array Value} (h : DBlk3 w0 wr S D O) (hb : Below wr.heap.size wr w2) : DBlk3 w0 w2 S D O :=
  ⟨below_step h.1 hb, blk_below h.2.1 hb, blk_below h.2.2.1 hb, blk_below h.2.2.2 hb⟩
theorem rbit_call (n : Int) (b : Bool) (w : World) : Calls Try.prog 23 #[.int .i64 n, .bool b] w fun e w' => e = .returned (.int .i64 (bitI n b)) ∧ w' = w := by
  cases b with
  | false =>
    have HR := Aside0.mk (show bitI n false = 0 from rfl)
    go_enter Try.func23, Try.ntmps23
    go_wp2
    go_ret
    exact ⟨by rw [HR.out]; rfl, rfl⟩
  | true =>
    have HR := Aside0.mk (show bitI n true = n from rfl)
    go_enter Try.func23, Try.ntmps23
    go_wp2
    go_ret
    exact ⟨by rw [HR.out]; rfl, rfl⟩
set_option maxHeartbeats 2000000 in
set_option maxRecDepth 100000 in
theorem rdiff_eq (S D O : Array Value) (hS : S.size = 11) (hD : D.size = 11) (hO : O.size = 21) (k s1 s2 m1 m2 x1 x2 n1 n2 u1 u2 g1 g2 win : Int) (t1 t2 c1 c2 : ByteArray) (chk perms times owner : Bool) (hS1 : S[1]'(by omega) = .int .i64 k) (hS2 : S[2]'(by omega) = .int .i64 s1) (hS3 : S[3]'(by omega) = .int .i64 m1) (hS4 : S[4]'(by omega) = .int .i64 x1) (hS5 : S[5]'(by omega) = .int .i64 n1) (hS6 : S[6]'(by omega) = .int .i64 u1) (hS7 : S[7]'(by omega) = .int .i64 g1) (hS8 : S[8]'(by omega) = .string t1) (hS9 : S[9]'(by omega) = .string c1) (hD1 : D[1]'(by omega) = .int .i64 k) (hD2 : D[2]'(by omega) = .int .i64 s2) (hD3 : D[3]'(by omega) = .int .i64 m2) (hD4 : D[4]'(by omega) = .int .i64 x2) (hD5 : D[5]'(by omega) = .int .i64 n2) (hD6 : D[6]'(by omega) = .int .i64 u2) (hD7 : D[7]'(by omega) = .int .i64 g2) (hD8 : D[8]'(by omega) = .string t2) (hD9 : D[9]'(by omega) = .string c2) (hO2 : O[2]'(by omega) = .bool chk) (hO7 : O[7]'(by omega) = .bool perms) (hO8 : O[8]'(by omega) = .bool times) (hO9 : O[9]'(by omega) = .bool owner) (hO18 : O[18]'(by omega) = .int .i64 win) (t : Bool)
    (hnear : Aside0 (∀ w, Calls Try.prog 22 #[.agg #[.int .i64 m1, .int .i64 x1, .int .i64 n1, .int .i64 u1, .int .i64 g1], .agg #[.int .i64 m2, .int .i64 x2, .int .i64 n2, .int .i64 u2, .int .i64 g2], .int .i64 win] w fun e w' => e = .returned (.bool t) ∧ Below w.heap.size w w')) (w : World) :
    Calls Try.prog 11 #[.agg S, .agg D, .agg O] w fun e w' => e = .returned (.int .i64 (rDiff t k s1 s2 m1 m2 u1 u2 g1 g2 t1 t2 c1 c2 chk perms times owner)) ∧ Below w.heap.size w w' := by
  have hu1 := Try.underlying25
  have hu2 := Try.underlying27
  have hu3 := Try.underlying23
  have hDS := Aside0.mk (DBlk3.start w S D O)
  generalize hrr : rDiff t k s1 s2 m1 m2 u1 u2 g1 g2 t1 t2 c1 c2 chk perms times owner = rr
  have HR := Aside0.mk hrr
  clear hrr
  go_enter Try.func11, Try.ntmps11
  go_upto_region 4 with (first | (go_at_call 22; refine (hnear.out _).mono ?_; rintro e w' ⟨rfl, hb⟩; have HD := Aside0.mk (DBlk3.step hDS.out hb); clear hb))
  go_cut [8] (fun v8 wr => v8 = .int .i64 (bitI 16 (perms && m1 != m2)) ∧ Aside0 (DBlk3 w wr S D O))
  case first =>
    obtain ⟨wr, rfl⟩ : ∃ wr, wr = w' := ⟨_, rfl⟩
    have qS3 : wr.cell? ⟨w.heap.size, 3, none⟩ = some (.int .i64 m1) := (blk_cell HD.out.2.1 3).trans ((Array.getElem?_eq_getElem (by omega)).trans (congrArg some hS3))
    have qD3 : wr.cell? ⟨w.heap.size + 1, 3, none⟩ = some (.int .i64 m2) := (blk_cell HD.out.2.2.1 3).trans ((Array.getElem?_eq_getElem (by omega)).trans (congrArg some hD3))
    have qO7 : wr.cell? ⟨w.heap.size + 1 + 1, 7, none⟩ = some (.bool perms) := (blk_cell HD.out.2.2.2 7).trans ((Array.getElem?_eq_getElem (by omega)).trans (congrArg some hO7))
    cases perms with
    | false =>
      go_wp2_with (first | (go_at_call 23; refine (rbit_call _ _ _).mono ?_; rintro e w' ⟨rfl, rfl⟩))
      go_meet
      case rel => exact ⟨by rfl, HD⟩
    | true =>
      go_wp2_with (first | (go_at_call 23; refine (rbit_call _ _ _).mono ?_; rintro e w' ⟨rfl, rfl⟩))
      go_meet
      case rel => exact ⟨by first | rfl | (simp only [Bool.true_and]), HD⟩
  case rest =>
    clear hDS
    obtain ⟨rfl, HD⟩ := hcut
    obtain ⟨wr, rfl⟩ : ∃ wr, wr = wc := ⟨_, rfl⟩
    have hb16 := bitI_bd 16 (perms && m1 != m2) (by omega)
    generalize hd0 : bitI 16 (perms && m1 != m2) = d0 at hb16 ⊢
    have HD0 := Aside0.mk hd0
    clear hd0
    obtain ⟨l0, l1⟩ := hb16
    go_upto_region 5 with (fail)
    go_cut [8] (fun v8 wr => ∃ d1 : Int, v8 = .int .i64 d1 ∧ Aside0 (d1 = d0 + bitI 32 (owner && (u1 != u2 || g1 != g2))) ∧ Aside0 (0 ≤ d1 ∧ d1 ≤ 48) ∧ Aside0 (DBlk3 w wr S D O))
    case first =>
      have qS6 : wr.cell? ⟨w.heap.size, 6, none⟩ = some (.int .i64 u1) := (blk_cell HD.out.2.1 6).trans ((Array.getElem?_eq_getElem (by omega)).trans (congrArg some hS6))
      have qS7 : wr.cell? ⟨w.heap.size, 7, none⟩ = some (.int .i64 g1) := (blk_cell HD.out.2.1 7).trans ((Array.getElem?_eq_getElem (by omega)).trans (congrArg some hS7))
      have qD6 : wr.cell? ⟨w.heap.size + 1, 6, none⟩ = some (.int .i64 u2) := (blk_cell HD.out.2.2.1 6).trans ((Array.getElem?_eq_getElem (by omega)).trans (congrArg some hD6))
      have qD7 : wr.cell? ⟨w.heap.size + 1, 7, none⟩ = some (.int .i64 g2) := (blk_cell HD.out.2.2.1 7).trans ((Array.getElem?_eq_getElem (by omega)).trans (congrArg some hD7))
      have qO9 : wr.cell? ⟨w.heap.size + 1 + 1, 9, none⟩ = some (.bool owner) := (blk_cell HD.out.2.2.2 9).trans ((Array.getElem?_eq_getElem (by omega)).trans (congrArg some hO9))
      have hb32 := fun b => bitI_bd 32 b (by omega)
      cases owner with
      | false =>
        have z := hb32 false
        obtain ⟨z0, z1⟩ := z
        clear hb32
        go_wp2_with (first | (go_at_call 23; refine (rbit_call _ _ _).mono ?_; rintro e w' ⟨rfl, rfl⟩))
        go_meet
        case rel => exact ⟨_, rfl, ⟨by rfl⟩, ⟨by omega⟩, HD⟩
      | true =>
        cases hu : (u1 != u2) with
        | false =>
          have z := hb32 (g1 != g2)
          obtain ⟨z0, z1⟩ := z
          have HU := Aside0.mk hu
          clear hb32
          go_wp2_with (first | (go_at_call 23; refine (rbit_call _ _ _).mono ?_; rintro e w' ⟨rfl, rfl⟩))
          go_meet
          case rel => exact ⟨_, rfl, ⟨by rw [HU.out]; rfl⟩, ⟨by omega⟩, HD⟩
        | true =>
          have z := hb32 true
          obtain ⟨z0, z1⟩ := z
          have HU := Aside0.mk hu
          clear hb32
          go_wp2_with (first | (go_at_call 23; refine (rbit_call _ _ _).mono ?_; rintro e w' ⟨rfl, rfl⟩))
          go_meet
          case rel => exact ⟨_, rfl, ⟨by rw [HU.out]; rfl⟩, ⟨by omega⟩, HD⟩
    case rest =>
      clear HD
      obtain ⟨d1, rfl, HD1, ⟨e0, e1⟩, HD⟩ := hcut
      obtain ⟨wr, rfl⟩ : ∃ wr, wr = wc := ⟨_, rfl⟩
      have qS1 : wr.cell? ⟨w.heap.size, 1, none⟩ = some (.int .i64 k) := (blk_cell HD.out.2.1 1).trans ((Array.getElem?_eq_getElem (by omega)).trans (congrArg some hS1))
      have qS2 : wr.cell? ⟨w.heap.size, 2, none⟩ = some (.int .i64 s1) := (blk_cell HD.out.2.1 2).trans ((Array.getElem?_eq_getElem (by omega)).trans (congrArg some hS2))
      have qS8 : wr.cell? ⟨w.heap.size, 8, none⟩ = some (.string t1) := (blk_cell HD.out.2.1 8).trans ((Array.getElem?_eq_getElem (by omega)).trans (congrArg some hS8))
      have qS9 : wr.cell? ⟨w.heap.size, 9, none⟩ = some (.string c1) := (blk_cell HD.out.2.1 9).trans ((Array.getElem?_eq_getElem (by omega)).trans (congrArg some hS9))
      have qD2 : wr.cell? ⟨w.heap.size + 1, 2, none⟩ = some (.int .i64 s2) := (blk_cell HD.out.2.2.1 2).trans ((Array.getElem?_eq_getElem (by omega)).trans (congrArg some hD2))
      have qD8 : wr.cell? ⟨w.heap.size + 1, 8, none⟩ = some (.string t2) := (blk_cell HD.out.2.2.1 8).trans ((Array.getElem?_eq_getElem (by omega)).trans (congrArg some hD8))
      have qD9 : wr.cell? ⟨w.heap.size + 1, 9, none⟩ = some (.string c2) := (blk_cell HD.out.2.2.1 9).trans ((Array.getElem?_eq_getElem (by omega)).trans (congrArg some hD9))
      have qO2 : wr.cell? ⟨w.heap.size + 1 + 1, 2, none⟩ = some (.bool chk) := (blk_cell HD.out.2.2.2 2).trans ((Array.getElem?_eq_getElem (by omega)).trans (congrArg some hO2))
      have qO8 : wr.cell? ⟨w.heap.size + 1 + 1, 8, none⟩ = some (.bool times) := (blk_cell HD.out.2.2.2 8).trans ((Array.getElem?_eq_getElem (by omega)).trans (congrArg some hO8))
      by_cases k1 : k = 1
      · have b1 : (k == 1) = true := beq_iff_eq.mpr k1
        have HK := Aside0.mk (show rr = d1 + (bitI 4 (s1 != s2) + bitI 8 (!t) + bitI 128 (chk && !(c1.toList == c2.toList))) by rw [← HR.out, HD1.out, ← HD0.out]; unfold rDiff; rw [if_pos k1])
        clear k1
        obtain ⟨y0, y1⟩ := bitI_bd 4 (s1 != s2) (by omega)
        obtain ⟨y2, y3⟩ := bitI_bd 8 (!t) (by omega)
        cases chk with
        | false =>
          obtain ⟨y4, y5⟩ := bitI_bd 128 false (by omega)
          go_wp2
          go_quiet ((go_at_call 23; exact Calls.quiet_of_same (rbit_call _ _ _)))
          go_wp2
          go_ret
          exact ⟨by rw [HK.out, Bool.false_and]; rfl, by repeat (first | exact HD.out.1 | apply pw_below_drewN)⟩
        | true =>
          obtain ⟨y4, y5⟩ := bitI_bd 128 (!(c1.toList == c2.toList)) (by omega)
          go_wp2
          go_quiet ((go_at_call 23; exact Calls.quiet_of_same (rbit_call _ _ _)))
          go_wp2
          go_ret
          exact ⟨by rw [HK.out, Bool.true_and]; rfl, by repeat (first | exact HD.out.1 | apply pw_below_drewN)⟩
      · have b1 : (k == 1) = false := beq_eq_false_iff_ne.mpr k1
        by_cases k2 : k = 2
        · have b2 : (k == 2) = true := beq_iff_eq.mpr k2
          have HK := Aside0.mk (show rr = d1 + bitI 8 (times && !t) by rw [← HR.out, HD1.out, ← HD0.out]; unfold rDiff; rw [if_neg k1, if_pos k2])
          clear k1 k2
          cases times with
          | false =>
            obtain ⟨y4, y5⟩ := bitI_bd 8 false (by omega)
            go_wp2_with (first | (go_at_call 23; refine (rbit_call _ _ _).mono ?_; rintro e w' ⟨rfl, rfl⟩))
            go_ret
            exact ⟨by rw [HK.out, Bool.false_and]; rfl, HD.out.1⟩
          | true =>
            obtain ⟨y4, y5⟩ := bitI_bd 8 (!t) (by omega)
            go_wp2_with (first | (go_at_call 23; refine (rbit_call _ _ _).mono ?_; rintro e w' ⟨rfl, rfl⟩))
            go_ret
            exact ⟨by rw [HK.out, Bool.true_and]; rfl, HD.out.1⟩
        · have b2 : (k == 2) = false := beq_eq_false_iff_ne.mpr k2
          by_cases k3 : k = 3
          · have b3 : (k == 3) = true := beq_iff_eq.mpr k3
            have HK := Aside0.mk (show rr = d1 + (bitI 8 (times && !t) + bitI 64 (!(t1.toList == t2.toList))) by rw [← HR.out, HD1.out, ← HD0.out]; unfold rDiff; rw [if_neg k1, if_neg k2, if_pos k3])
            clear k1 k2 k3
            obtain ⟨y0, y1⟩ := bitI_bd 64 (!(t1.toList == t2.toList)) (by omega)
            cases times with
            | false =>
              obtain ⟨y4, y5⟩ := bitI_bd 8 false (by omega)
              go_wp2
              go_quiet ((go_at_call 23; exact Calls.quiet_of_same (rbit_call _ _ _)))
              go_wp2
              go_ret
              exact ⟨by rw [HK.out, Bool.false_and]; rfl, by repeat (first | exact HD.out.1 | apply pw_below_drewN)⟩
            | true =>
              obtain ⟨y4, y5⟩ := bitI_bd 8 (!t) (by omega)
              go_wp2
              go_quiet ((go_at_call 23; exact Calls.quiet_of_same (rbit_call _ _ _)))
              go_wp2
              go_ret
              exact ⟨by rw [HK.out, Bool.true_and]; rfl, by repeat (first | exact HD.out.1 | apply pw_below_drewN)⟩
          · have b3 : (k == 3) = false := beq_eq_false_iff_ne.mpr k3
            have HK := Aside0.mk (show rr = d1 + 0 by rw [← HR.out, HD1.out, ← HD0.out]; unfold rDiff; rw [if_neg k1, if_neg k2, if_neg k3])
            clear k1 k2 k3
            go_wp2
            go_ret
            exact ⟨by rw [HK.out, Int.add_zero]; rfl, HD.out.1⟩
set_option maxHeartbeats 1000000 in
set_option maxRecDepth 100000 in
theorem rdiff_ne (S D O : Array Value) (hS : S.size = 11) (hD : D.size = 11) (hO : O.size = 21) (a : Int) (hks : S[1]'(by omega) = .int .i64 a) (kd : Int) (hkd : D[1]'(by omega) = .int .i64 kd) (hne : (a != kd) = true) (w : World) :
    Calls Try.prog 11 #[.agg S, .agg D, .agg O] w fun e w' => e = .returned (.int .i64 2) ∧ Below w.heap.size w w' := by
  have hu1 := Try.underlying25
  have hu2 := Try.underlying27
  go_enter Try.func11, Try.ntmps11
  go_wp2
  go_ret
  exact ⟨rfl, below_alloc (below_alloc (below_alloc (Below.refl _ _) _) _) _⟩
theorem remoraref21_Diff.calls (a0_0 : ByteArray) (a0_1 : Int) (a0_2 : Int) (a0_3 : Int) (a0_4 : Int) (a0_5 : Int) (a0_6 : Int) (a0_7 : Int) (a0_8 : ByteArray) (a0_9 : ByteArray) (a0_10 : Int) (a1_0 : ByteArray) (a1_1 : Int) (a1_2 : Int) (a1_3 : Int) (a1_4 : Int) (a1_5 : Int) (a1_6 : Int) (a1_7 : Int) (a1_8 : ByteArray) (a1_9 : ByteArray) (a1_10 : Int) (a2_0 : Int) (a2_1 : Int) (a2_2 : Bool) (a2_3 : Bool) (a2_4 : Bool) (a2_5 : Bool) (a2_6 : Bool) (a2_7 : Bool) (a2_8 : Bool) (a2_9 : Bool) (a2_10 : Bool) (a2_11 : Bool) (a2_12 : Bool) (a2_13 : Bool) (a2_14 : Bool) (a2_15 : Bool) (a2_16 : Bool) (a2_17 : Bool) (a2_18 : Int) (a2_19 : Int) (a2_20 : Int) (r : Int) (w : World) (h : remoraref21_Diff.f a0_0 a0_1 a0_2 a0_3 a0_4 a0_5 a0_6 a0_7 a0_8 a0_9 a0_10 a1_0 a1_1 a1_2 a1_3 a1_4 a1_5 a1_6 a1_7 a1_8 a1_9 a1_10 a2_0 a2_1 a2_2 a2_3 a2_4 a2_5 a2_6 a2_7 a2_8 a2_9 a2_10 a2_11 a2_12 a2_13 a2_14 a2_15 a2_16 a2_17 a2_18 a2_19 a2_20 = some r) :
    Calls Try.prog 11 #[.agg #[.string a0_0, .int .i64 a0_1, .int .i64 a0_2, .int .i64 a0_3, .int .i64 a0_4, .int .i64 a0_5, .int .i64 a0_6, .int .i64 a0_7, .string a0_8, .string a0_9, .int .i64 a0_10], .agg #[.string a1_0, .int .i64 a1_1, .int .i64 a1_2, .int .i64 a1_3, .int .i64 a1_4, .int .i64 a1_5, .int .i64 a1_6, .int .i64 a1_7, .string a1_8, .string a1_9, .int .i64 a1_10], .agg #[.int .i64 a2_0, .int .i64 a2_1, .bool a2_2, .bool a2_3, .bool a2_4, .bool a2_5, .bool a2_6, .bool a2_7, .bool a2_8, .bool a2_9, .bool a2_10, .bool a2_11, .bool a2_12, .bool a2_13, .bool a2_14, .bool a2_15, .bool a2_16, .bool a2_17, .int .i64 a2_18, .int .i64 a2_19, .int .i64 a2_20]] w fun e w' => e = .returned (.int .i64 r) ∧ Below w.heap.size w w' := by
  unfold remoraref21_Diff.f at h
  by_cases hk : a0_1 = a1_1
  · rw [if_pos hk] at h
    subst hk
    obtain ⟨t, e1, h⟩ := Option.bind_eq_some_iff.mp h
    obtain rfl := Option.some.inj h
    exact rdiff_eq _ _ _ rfl rfl rfl a0_1 a0_2 a1_2 a0_3 a1_3 a0_4 a1_4 a0_5 a1_5 a0_6 a1_6 a0_7 a1_7 a2_18 a0_8 a1_8 a0_9 a1_9 a2_2 a2_7 a2_8 a2_9 rfl rfl rfl rfl rfl rfl rfl rfl rfl rfl rfl rfl rfl rfl rfl rfl rfl rfl rfl rfl rfl rfl rfl t ⟨fun w => remoraref16_Near.calls 100 _ _ _ _ _ _ _ _ _ _ _ t w e1⟩ w
  · rw [if_neg hk] at h
    obtain rfl := Option.some.inj h
    exact rdiff_ne _ _ _ rfl rfl rfl _ rfl _ rfl (bne_iff_ne.mpr hk) w
end Go.Proofs.Ytniedfbchcgaoaa.PA
