/- The walk of the law QuickBits, out of the contracts of what it calls. -/
import Derived.Test.YtniedfbchcgaoaaPAx0
import Derived.Test.YtniedfbchcgaoaaXB1
import Derived.Test.YtniedfbchcgaoaaXBitPure
import Derived.Test.YtniedfbchcgaoaaXBitsPure
import Derived.Test.YtniedfbchcgaoaaXNearPure
import Derived.Test.YtniedfbchcgaoaaXquickText
namespace Go.Proofs.Ytniedfbchcgaoaa.PA
open Go.RowKit Go.Proofs.YtniedfbchcgaoaaW.PrintWords Go.Proofs.YtniedfbchcgaoaaW.PrintLast Go.Proofs.YtniedfbchcgaoaaW.PrintMore
attribute [local go_sem] max2_int min2_int max_two min_two max_three min_three max_four min_four
set_option linter.unusedVariables false
set_option linter.unusedSimpArgs false
theorem pow9 (j : Nat) (h : j < 9) : (2 : Int) ^ j ≤ 256 := by
  have : j = 0 ∨ j = 1 ∨ j = 2 ∨ j = 3 ∨ j = 4 ∨ j = 5 ∨ j = 6 ∨ j = 7 ∨ j = 8 := by omega
  rcases this with rfl | rfl | rfl | rfl | rfl | rfl | rfl | rfl | rfl <;> decide
theorem bit_one (d : Int) (k : Nat) : (bits BinOp.and IntKind.i64 (d / 2 ^ k) 1 == 1) = bitSet d k := by
  unfold bitSet
  rw [and_one]
  have : d / 2 ^ k % 2 = 0 ∨ d / 2 ^ k % 2 = 1 := by omega
  rcases this with h | h <;> rw [h] <;> rfl
set_option maxHeartbeats 4000000 in
set_option maxRecDepth 100000 in
theorem quickBits_walk (O : Array Value) (hO : O.size = 21) (d i : Int) (hi0 : 0 ≤ i) (hi1 : i < 18446744073709551616) (b1 b2 : Bool) (e : Int) (he : e = bits BinOp.or IntKind.i64 d (wrap64 (2 ^ (i % 9).toNat))) (hbb : b1 = true → b2 = true)
    (hd : Aside0 (∀ w, Calls Try.prog 13 #[.int .i64 d, .agg O] w fun e w' => e = .returned (.bool b1) ∧ Below w.heap.size w w'))
    (hde : Aside0 (∀ w, Calls Try.prog 13 #[.int .i64 e, .agg O] w fun e w' => e = .returned (.bool b2) ∧ Below w.heap.size w w'))
    (ha : Aside0 (∀ w, Calls Try.prog 12 #[] w fun e w' => e = .returned (.bool true) ∧ Below w.heap.size w w')) (w : World) :
    Calls Try.prog 5 #[.int .i64 d, .int .u64 i, .agg O] w fun e w' => e = .returned (.bool true) ∧ Below w.heap.size w w' := by
  have hu1 := Try.underlying27
  have i1 := Aside0.mk (show (Try.prog.info? 27).map (·.size) = some O.size by rw [hO]; kernel_rfl)
  have hj0 : 0 ≤ i % 9 := by omega
  have hj1 : i % 9 < 9 := by omega
  go_enter Try.func5, Try.ntmps5
  go_wp2_with fail
  refine (quick_Text.calls _ _ _ rfl).mono ?_
  rintro e w1 ⟨rfl, hb⟩
  go_wp2_with fail
  refine (quick_Text.calls _ _ _ rfl).mono ?_
  rintro e w2 ⟨rfl, hb2⟩
  have HD := Aside0.mk (B1.step (B1.step (B1.start 27 w O) hb) hb2)
  clear hb hb2
  rw [← he]
  have HE := Aside0.mk he
  clear he
  obtain ⟨s, hs⟩ : ∃ s, s = textSpec d := ⟨_, rfl⟩
  obtain ⟨t, ht⟩ : ∃ t, t = textSpec e := ⟨_, rfl⟩
  rw [← hs, ← ht]
  have hs9 : ((s.size : Int) != 9) = false := by rw [hs, textSpec_size]; rfl
  have ht9 : ((t.size : Int) != 9) = false := by rw [ht, textSpec_size]; rfl
  have HS := Aside0.mk hs
  have HT := Aside0.mk ht
  clear hs ht
  go_wp2
  go_loopw [28] (fun v28 wr => ∃ k : Nat, k ≤ 9 ∧ v28 = .int .i64 k ∧ Aside0 (B1 27 w wr O)) (fun v28 _ => 9 - (intOf v28).toNat)
  case atStart => exact ⟨0, by omega, rfl, HD⟩
  case round =>
    clear HD
    obtain ⟨k, hk9, rfl, HD⟩ := hrel
    by_cases hk : k < 9
    · have ls : k < s.size := by rw [HS.out, textSpec_size]; exact hk
      have lt : k < t.size := by rw [HT.out, textSpec_size]; exact hk
      have hks : (k : Int) < (s.size : Int) := by omega
      have hkt : (k : Int) < (t.size : Int) := by omega
      have HL := letter_ne k hk
      have hL := HL.1
      have hL2 := HL.2
      have LA := letter_at k hk
      have SA := textSpec_at d k hk
      have TA := textSpec_at e k hk
      have he2 : bitSet e k = (bitSet d k || decide ((i % 9).toNat = k)) := by
        rw [HE.out, w64 (by have : (2 : Int) ^ (i % 9).toNat ≤ 256 := pow9 _ (by omega); have : (0 : Int) < 2 ^ (i % 9).toNat := Int.pow_pos (by decide); omega) (by have : (2 : Int) ^ (i % 9).toNat ≤ 256 := pow9 _ (by omega); omega)]
        exact bitSet_or d _ k (by omega) (by omega)
      rw [← HS.out] at SA
      rw [← HT.out] at TA
      rw [he2] at TA
      clear he2 HL
      generalize signL.getD k 0 = L at LA SA TA hL hL2
      have hset : (bits BinOp.and IntKind.i64 (d / 2 ^ k) 1 == 1) = bitSet d k := bit_one d k
      cases hb : bitSet d k with
      | true =>
        rw [hb] at hset SA TA
        rw [if_neg (by decide)] at SA
        rw [Bool.true_or, if_neg (by decide)] at TA
        clear hb
        go_wp2
        go_quiet (fail)
        go_wp2
        go_roundw
        case rel => exact ⟨k + 1, by omega, by go_num, ⟨B1.step HD.out (pw_below_drewN (Below.refl _ _) _)⟩⟩
        case measure => simp [intOf]; omega
      | false =>
        rw [hb] at hset SA TA
        rw [if_pos rfl] at SA
        rw [Bool.false_or] at TA
        by_cases hki : i % 9 = k
        · have hkb : ((k : Int) == i % 9) = true := beq_iff_eq.mpr hki.symm
          rw [decide_eq_true (by omega), if_neg (by decide)] at TA
          clear hb hki
          go_wp2
          go_quiet (fail)
          go_wp2
          go_roundw
          case rel => exact ⟨k + 1, by omega, by go_num, ⟨B1.step HD.out (pw_below_drewN (Below.refl _ _) _)⟩⟩
          case measure => simp [intOf]; omega
        · have hkb : ((k : Int) == i % 9) = false := beq_eq_false_iff_ne.mpr (fun h => hki h.symm)
          rw [decide_eq_false (by omega), if_pos rfl] at TA
          clear hb hki
          go_wp2
          go_quiet (fail)
          go_wp2
          go_roundw
          case rel => exact ⟨k + 1, by omega, by go_num, ⟨B1.step HD.out (pw_below_drewN (Below.refl _ _) _)⟩⟩
          case measure => simp [intOf]; omega
    · obtain rfl : k = 9 := by omega
      go_wp2_with (first | ((with_reducible refine gate_dst (N := 87) rfl ?_); (try (refine gate_guard (by rfl) ?_; dsimp only)); refine wpList_load_row rfl 27 (.tmp 5) rfl (w.heap.size) rfl 27 O (0, 0) _ HD.out.2 hu1 rfl i1.out ?_))
      refine (hd.out _).mono ?_
      rintro e' w1 ⟨rfl, hb⟩
      have HB1 := Aside0.mk (B1.step HD.out hb)
      clear HD hb
      have HD := HB1
      clear HB1
      cases b1 with
      | false =>
        go_wp2_with fail
        refine (ha.out _).mono ?_
        rintro e' w1 ⟨rfl, hb⟩
        have HB1 := Aside0.mk (B1.step HD.out hb)
        clear HD hb
        have HD := HB1
        clear HB1
        go_wp2
        go_ret
        exact ⟨rfl, HD.out.1⟩
      | true =>
        have hb2 := hbb rfl
        subst hb2
        go_wp2_with (first | ((with_reducible refine gate_dst (N := 95) rfl ?_); (try (refine gate_guard (by rfl) ?_; dsimp only)); refine wpList_load_row rfl 27 (.tmp 5) rfl (w.heap.size) rfl 27 O (0, 0) _ HD.out.2 hu1 rfl i1.out ?_))
        rw [← HE.out]
        refine (hde.out _).mono ?_
        rintro e' w1 ⟨rfl, hb⟩
        have HB1 := Aside0.mk (B1.step HD.out hb)
        clear HD hb
        have HD := HB1
        clear HB1
        go_wp2_with fail
        refine (ha.out _).mono ?_
        rintro e' w1 ⟨rfl, hb⟩
        have HB1 := Aside0.mk (B1.step HD.out hb)
        clear HD hb
        have HD := HB1
        clear HB1
        go_wp2
        go_ret
        exact ⟨rfl, HD.out.1⟩
end Go.Proofs.Ytniedfbchcgaoaa.PA
