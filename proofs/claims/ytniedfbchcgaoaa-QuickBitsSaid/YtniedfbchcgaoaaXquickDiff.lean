/- quick.Diff by its contract: 2 where the kinds differ, else the bits of the six differences. -/
import Derived.Laws.EntriesVeiled
import Derived.Test.YtniedfbchcgaoaaPAfquickdifferences1
import Derived.Test.YtniedfbchcgaoaaPAfquickdifferences3
import Derived.Test.YtniedfbchcgaoaaPAfquickdifferences4
import Derived.Test.YtniedfbchcgaoaaPAfquickdifferences5
import Derived.Test.YtniedfbchcgaoaaPAfquickdifferences6
import Derived.Test.YtniedfbchcgaoaaPAx0
import Derived.Test.YtniedfbchcgaoaaXquickdifferences2
namespace Go.Proofs.Ytniedfbchcgaoaa.PA
open Go.RowKit Go.Proofs.YtniedfbchcgaoaaW.PrintWords Go.Proofs.YtniedfbchcgaoaaW.PrintLast Go.Proofs.YtniedfbchcgaoaaW.PrintMore
attribute [local go_sem] max2_int min2_int max_two min_two max_three min_three max_four min_four
set_option linter.unusedVariables false
set_option linter.unusedSimpArgs false
def accD (b : Bool) (x bit : Int) : Int := if b = true then Go.bits .or .i64 x bit else x
def quick_Diff.f (a0_0 : ByteArray) (a0_1 : Int) (a0_2 : Int) (a0_3 : Int) (a0_4 : Int) (a0_5 : Int) (a0_6 : Int) (a0_7 : Int) (a0_8 : ByteArray) (a0_9 : ByteArray) (a0_10 : Int) (a1_0 : ByteArray) (a1_1 : Int) (a1_2 : Int) (a1_3 : Int) (a1_4 : Int) (a1_5 : Int) (a1_6 : Int) (a1_7 : Int) (a1_8 : ByteArray) (a1_9 : ByteArray) (a1_10 : Int) (a2_0 : Int) (a2_1 : Int) (a2_2 : Bool) (a2_3 : Bool) (a2_4 : Bool) (a2_5 : Bool) (a2_6 : Bool) (a2_7 : Bool) (a2_8 : Bool) (a2_9 : Bool) (a2_10 : Bool) (a2_11 : Bool) (a2_12 : Bool) (a2_13 : Bool) (a2_14 : Bool) (a2_15 : Bool) (a2_16 : Bool) (a2_17 : Bool) (a2_18 : Int) (a2_19 : Int) (a2_20 : Int) : Option Int := if a0_1 = a1_1 then (quick_differences_1.f a0_0 a0_1 a0_2 a0_3 a0_4 a0_5 a0_6 a0_7 a0_8 a0_9 a0_10 a1_0 a1_1 a1_2 a1_3 a1_4 a1_5 a1_6 a1_7 a1_8 a1_9 a1_10 a2_0 a2_1 a2_2 a2_3 a2_4 a2_5 a2_6 a2_7 a2_8 a2_9 a2_10 a2_11 a2_12 a2_13 a2_14 a2_15 a2_16 a2_17 a2_18 a2_19 a2_20).bind fun b1 => ( (quick_differences_2.f a0_0 a0_1 a0_2 a0_3 a0_4 a0_5 a0_6 a0_7 a0_8 a0_9 a0_10 a1_0 a1_1 a1_2 a1_3 a1_4 a1_5 a1_6 a1_7 a1_8 a1_9 a1_10 a2_0 a2_1 a2_2 a2_3 a2_4 a2_5 a2_6 a2_7 a2_8 a2_9 a2_10 a2_11 a2_12 a2_13 a2_14 a2_15 a2_16 a2_17 a2_18 a2_19 a2_20).bind fun b2 => ( (quick_differences_3.f a0_0 a0_1 a0_2 a0_3 a0_4 a0_5 a0_6 a0_7 a0_8 a0_9 a0_10 a1_0 a1_1 a1_2 a1_3 a1_4 a1_5 a1_6 a1_7 a1_8 a1_9 a1_10 a2_0 a2_1 a2_2 a2_3 a2_4 a2_5 a2_6 a2_7 a2_8 a2_9 a2_10 a2_11 a2_12 a2_13 a2_14 a2_15 a2_16 a2_17 a2_18 a2_19 a2_20).bind fun b3 => ( (quick_differences_4.f a0_0 a0_1 a0_2 a0_3 a0_4 a0_5 a0_6 a0_7 a0_8 a0_9 a0_10 a1_0 a1_1 a1_2 a1_3 a1_4 a1_5 a1_6 a1_7 a1_8 a1_9 a1_10 a2_0 a2_1 a2_2 a2_3 a2_4 a2_5 a2_6 a2_7 a2_8 a2_9 a2_10 a2_11 a2_12 a2_13 a2_14 a2_15 a2_16 a2_17 a2_18 a2_19 a2_20).bind fun b4 => ( (quick_differences_5.f a0_0 a0_1 a0_2 a0_3 a0_4 a0_5 a0_6 a0_7 a0_8 a0_9 a0_10 a1_0 a1_1 a1_2 a1_3 a1_4 a1_5 a1_6 a1_7 a1_8 a1_9 a1_10 a2_0 a2_1 a2_2 a2_3 a2_4 a2_5 a2_6 a2_7 a2_8 a2_9 a2_10 a2_11 a2_12 a2_13 a2_14 a2_15 a2_16 a2_17 a2_18 a2_19 a2_20).bind fun b5 => ( (quick_differences_6.f a0_0 a0_1 a0_2 a0_3 a0_4 a0_5 a0_6 a0_7 a0_8 a0_9 a0_10 a1_0 a1_1 a1_2 a1_3 a1_4 a1_5 a1_6 a1_7 a1_8 a1_9 a1_10 a2_0 a2_1 a2_2 a2_3 a2_4 a2_5 a2_6 a2_7 a2_8 a2_9 a2_10 a2_11 a2_12 a2_13 a2_14 a2_15 a2_16 a2_17 a2_18 a2_19 a2_20).bind fun b6 => ( some (accD b6 (accD b5 (accD b4 (accD b3 (accD b2 (accD b1 0 4) 8) 128) 64) 16) 32))))))) else some 2
theorem diffs_call (w : World) : Calls Try.prog 21 #[] w fun e w' => e = .returned (.slice (some ⟨w.heap.size, 0, none⟩) 6 6) ∧ w' = w.alloc (.cells #[.int .i64 4, .func (.func 29) #[] #[], .int .i64 8, .func (.func 30) #[] #[], .int .i64 128, .func (.func 31) #[] #[], .int .i64 64, .func (.func 32) #[] #[], .int .i64 16, .func (.func 33) #[] #[], .int .i64 32, .func (.func 34) #[] #[]] 44) := by
  have hu := Try.underlying44
  go_enter Try.func21, Try.ntmps21
  go_wp2
  go_ret
  exact ⟨rfl, rfl⟩
def DBlk (w0 wr : World) (S D O L : Array Value) : Prop := Below w0.heap.size w0 wr ∧ wr.heap[w0.heap.size]? = some (.cells S 25 (0, 0)) ∧ wr.heap[w0.heap.size + 1]? = some (.cells D 25 (0, 0)) ∧ wr.heap[w0.heap.size + 1 + 1]? = some (.cells O 27 (0, 0)) ∧ wr.heap[w0.heap.size + 1 + 1 + 1]? = some (.cells L 44 (0, 0))
theorem DBlk.start (w : World) (S D O L : Array Value) : DBlk w ((((w.alloc (.cells S 25)).alloc (.cells D 25)).alloc (.cells O 27)).alloc (.cells L 44)) S D O L := by
  have h := blks3 w S D O 25 25 27
  refine ⟨below_alloc (below_alloc (below_alloc (below_alloc (Below.refl _ _) _) _) _) _, blk_alloc h.1 _, blk_alloc h.2.1 _, blk_alloc h.2.2 _, ?_⟩
  have := blk_new (((w.alloc (.cells S 25)).alloc (.cells D 25)).alloc (.cells O 27)) (.cells L 44)
  simpa using this
theorem DBlk.step {w0 wr w2 : World} {S D O L : Array Value} (h : DBlk w0 wr S D O L) (hb : Below wr.heap.size wr w2) : DBlk w0 w2 S D O L :=
  ⟨below_step h.1 hb, blk_below h.2.1 hb, blk_below h.2.2.1 hb, blk_below h.2.2.2.1 hb, blk_below h.2.2.2.2 hb⟩
set_option maxHeartbeats 1000000 in
set_option maxRecDepth 100000 in
theorem diff_ne (S D O : Array Value) (hS : S.size = 11) (hD : D.size = 11) (hO : O.size = 21) (a : Int) (hks : S[1]'(by omega) = .int .i64 a) (kd : Int) (hkd : D[1]'(by omega) = .int .i64 kd) (hne : (a != kd) = true) (w : World) :
    Calls Try.prog 10 #[.agg S, .agg D, .agg O] w fun e w' => e = .returned (.int .i64 2) ∧ Below w.heap.size w w' := by
  have hu1 := Try.underlying25
  have hu2 := Try.underlying27
  go_enter Try.func10, Try.ntmps10
  go_wp2
  go_ret
  exact ⟨rfl, below_alloc (below_alloc (below_alloc (Below.refl _ _) _) _) _⟩
def bitK (k : Nat) : Int := if k = 0 then 4 else if k = 1 then 8 else if k = 2 then 128 else if k = 3 then 64 else if k = 4 then 16 else 32
def fnK (k : Nat) : Nat := if k = 0 then 29 else if k = 1 then 30 else if k = 2 then 31 else if k = 3 then 32 else if k = 4 then 33 else 34
def accK (bs : Nat → Bool) : Nat → Int
  | 0 => 0
  | k + 1 => accD (bs k) (accK bs k) (bitK k)
def listD : Array Value := #[.int .i64 4, .func (.func 29) #[] #[], .int .i64 8, .func (.func 30) #[] #[], .int .i64 128, .func (.func 31) #[] #[], .int .i64 64, .func (.func 32) #[] #[], .int .i64 16, .func (.func 33) #[] #[], .int .i64 32, .func (.func 34) #[] #[]]
theorem listD_bit (k : Nat) (h : k < 6) : listD[k * 2]? = some (.int .i64 (bitK k)) := by
  have hc : k = 0 ∨ k = 1 ∨ k = 2 ∨ k = 3 ∨ k = 4 ∨ k = 5 := by omega
  rcases hc with rfl | rfl | rfl | rfl | rfl | rfl <;> rfl
theorem listD_fn (k : Nat) (h : k < 6) : listD[k * 2 + 1]? = some (.func (.func (fnK k)) #[] #[]) := by
  have hc : k = 0 ∨ k = 1 ∨ k = 2 ∨ k = 3 ∨ k = 4 ∨ k = 5 := by omega
  rcases hc with rfl | rfl | rfl | rfl | rfl | rfl <;> rfl
theorem enterK (k : Nat) (h : k < 6) (args : Array Value) (w : World) : (callFunc (fnK k) args).run Try.prog w = .ok (.enter (fnK k) args) w := by
  have hc : k = 0 ∨ k = 1 ∨ k = 2 ∨ k = 3 ∨ k = 4 ∨ k = 5 := by omega
  rcases hc with rfl | rfl | rfl | rfl | rfl | rfl
  · show (callFunc 29 args).run Try.prog w = .ok (.enter 29 args) w
    go_simp
  · show (callFunc 30 args).run Try.prog w = .ok (.enter 30 args) w
    go_simp
  · show (callFunc 31 args).run Try.prog w = .ok (.enter 31 args) w
    go_simp
  · show (callFunc 32 args).run Try.prog w = .ok (.enter 32 args) w
    go_simp
  · show (callFunc 33 args).run Try.prog w = .ok (.enter 33 args) w
    go_simp
  · show (callFunc 34 args).run Try.prog w = .ok (.enter 34 args) w
    go_simp
set_option maxHeartbeats 2000000 in
set_option maxRecDepth 100000 in
theorem diff_eq (S D O : Array Value) (hS : S.size = 11) (hD : D.size = 11) (hO : O.size = 21) (a : Int) (hks : S[1]'(by omega) = .int .i64 a) (hkd : D[1]'(by omega) = .int .i64 a) (bs : Nat → Bool)
    (hc : Aside0 (∀ k, k < 6 → ∀ w, Calls Try.prog (fnK k) #[.agg S, .agg D, .agg O] w fun e w' => e = .returned (.bool (bs k)) ∧ Below w.heap.size w w')) (w : World) :
    Calls Try.prog 10 #[.agg S, .agg D, .agg O] w fun e w' => e = .returned (.int .i64 (accK bs 6)) ∧ Below w.heap.size w w' := by
  have hu1 := Try.underlying25
  have hu2 := Try.underlying27
  have hu3 := Try.underlying44
  have i1 := Aside0.mk (show (Try.prog.info? 25).map (·.size) = some S.size by rw [hS]; kernel_rfl)
  have i2 := Aside0.mk (show (Try.prog.info? 25).map (·.size) = some D.size by rw [hD]; kernel_rfl)
  have i3 := Aside0.mk (show (Try.prog.info? 27).map (·.size) = some O.size by rw [hO]; kernel_rfl)
  have hDS := Aside0.mk (DBlk.start w S D O listD)
  go_enter Try.func10, Try.ntmps10
  go_wp2_with (first | (go_at_call 21; refine (diffs_call _).mono ?_; rintro e w' ⟨rfl, rfl⟩))
  go_loopw [7, 17] (fun v7 v17 wr => ∃ k : Nat, k ≤ 6 ∧ v17 = .int .i64 k ∧ Aside0 (v7 = .int .i64 (accK bs k)) ∧ Aside0 (DBlk w wr S D O listD)) (fun _ v17 _ => 6 - (intOf v17).toNat)
  case atStart => exact ⟨0, by omega, rfl, ⟨rfl⟩, hDS⟩
  case round =>
    clear hDS
    obtain ⟨k, hk6, rfl, ⟨rfl⟩, HD⟩ := hrel
    by_cases hk : k < 6
    · have hl1 : wr.cell? ⟨w.heap.size + 1 + 1 + 1, k * 2, none⟩ = some (.int .i64 (bitK k)) := (blk_cell HD.out.2.2.2.2 _).trans (listD_bit k hk)
      have hl2 : wr.cell? ⟨w.heap.size + 1 + 1 + 1, k * 2 + 1, none⟩ = some (.func (.func (fnK k)) #[] #[]) := (blk_cell HD.out.2.2.2.2 _).trans (listD_fn k hk)
      have hen := enterK k hk
      have hcl := Aside0.mk (hc.out k hk)
      go_wp2_with (first
      | ((with_reducible refine gate_dst (N := 23) rfl ?_); refine wpList_load_row rfl 25 (.tmp 3) rfl w.heap.size rfl 25 S (0, 0) _ (blk_alloc HD.out.2.1 _) hu1 rfl i1.out ?_)
      | ((with_reducible refine gate_dst (N := 24) rfl ?_); refine wpList_load_row rfl 25 (.tmp 4) rfl (w.heap.size + 1) rfl 25 D (0, 0) _ (blk_alloc HD.out.2.2.1 _) hu1 rfl i2.out ?_)
      | ((with_reducible refine gate_dst (N := 25) rfl ?_); refine wpList_load_row rfl 27 (.tmp 5) rfl (w.heap.size + 1 + 1) rfl 27 O (0, 0) _ (blk_alloc HD.out.2.2.2.1 _) hu2 rfl i3.out ?_))
      refine (hcl.out _).mono ?_
      rintro e w' ⟨rfl, hb⟩
      have HD2 := Aside0.mk (DBlk.step (DBlk.step HD.out (below_alloc (Below.refl _ _) _)) hb)
      have hdc : w'.cell? ⟨wr.heap.size, 0, none⟩ = some (.int .i64 (bitK k)) := (hb.cell (p := ⟨wr.heap.size, 0, none⟩) (by simp)).trans ((blk_cell (blk_new wr _) 0).trans rfl)
      clear hb hl1 hl2 hen HD
      cases hbk : bs k with
      | false =>
        have HK := Aside0.mk hbk
        clear hbk
        go_wp2
        go_roundw
        case rel => exact ⟨k + 1, by omega, by go_num, ⟨by simp [accK, accD, HK.out]⟩, HD2⟩
        case measure => simp [intOf]; omega
      | true =>
        have HK := Aside0.mk hbk
        clear hbk
        go_wp2
        go_roundw
        case rel => exact ⟨k + 1, by omega, by go_num, ⟨by simp [accK, accD, HK.out]⟩, HD2⟩
        case measure => simp [intOf]; omega
    · obtain rfl : k = 6 := by omega
      go_wp2
      go_ret
      exact ⟨rfl, HD.out.1⟩
theorem quick_Diff.calls (a0_0 : ByteArray) (a0_1 : Int) (a0_2 : Int) (a0_3 : Int) (a0_4 : Int) (a0_5 : Int) (a0_6 : Int) (a0_7 : Int) (a0_8 : ByteArray) (a0_9 : ByteArray) (a0_10 : Int) (a1_0 : ByteArray) (a1_1 : Int) (a1_2 : Int) (a1_3 : Int) (a1_4 : Int) (a1_5 : Int) (a1_6 : Int) (a1_7 : Int) (a1_8 : ByteArray) (a1_9 : ByteArray) (a1_10 : Int) (a2_0 : Int) (a2_1 : Int) (a2_2 : Bool) (a2_3 : Bool) (a2_4 : Bool) (a2_5 : Bool) (a2_6 : Bool) (a2_7 : Bool) (a2_8 : Bool) (a2_9 : Bool) (a2_10 : Bool) (a2_11 : Bool) (a2_12 : Bool) (a2_13 : Bool) (a2_14 : Bool) (a2_15 : Bool) (a2_16 : Bool) (a2_17 : Bool) (a2_18 : Int) (a2_19 : Int) (a2_20 : Int) (r : Int) (w : World) (h : quick_Diff.f a0_0 a0_1 a0_2 a0_3 a0_4 a0_5 a0_6 a0_7 a0_8 a0_9 a0_10 a1_0 a1_1 a1_2 a1_3 a1_4 a1_5 a1_6 a1_7 a1_8 a1_9 a1_10 a2_0 a2_1 a2_2 a2_3 a2_4 a2_5 a2_6 a2_7 a2_8 a2_9 a2_10 a2_11 a2_12 a2_13 a2_14 a2_15 a2_16 a2_17 a2_18 a2_19 a2_20 = some r) :
    Calls Try.prog 10 #[.agg #[.string a0_0, .int .i64 a0_1, .int .i64 a0_2, .int .i64 a0_3, .int .i64 a0_4, .int .i64 a0_5, .int .i64 a0_6, .int .i64 a0_7, .string a0_8, .string a0_9, .int .i64 a0_10], .agg #[.string a1_0, .int .i64 a1_1, .int .i64 a1_2, .int .i64 a1_3, .int .i64 a1_4, .int .i64 a1_5, .int .i64 a1_6, .int .i64 a1_7, .string a1_8, .string a1_9, .int .i64 a1_10], .agg #[.int .i64 a2_0, .int .i64 a2_1, .bool a2_2, .bool a2_3, .bool a2_4, .bool a2_5, .bool a2_6, .bool a2_7, .bool a2_8, .bool a2_9, .bool a2_10, .bool a2_11, .bool a2_12, .bool a2_13, .bool a2_14, .bool a2_15, .bool a2_16, .bool a2_17, .int .i64 a2_18, .int .i64 a2_19, .int .i64 a2_20]] w fun e w' => e = .returned (.int .i64 r) ∧ Below w.heap.size w w' := by
  unfold quick_Diff.f at h
  by_cases hk : a0_1 = a1_1
  · rw [if_pos hk] at h
    subst hk
    obtain ⟨b1, e1, h⟩ := Option.bind_eq_some_iff.mp h
    obtain ⟨b2, e2, h⟩ := Option.bind_eq_some_iff.mp h
    obtain ⟨b3, e3, h⟩ := Option.bind_eq_some_iff.mp h
    obtain ⟨b4, e4, h⟩ := Option.bind_eq_some_iff.mp h
    obtain ⟨b5, e5, h⟩ := Option.bind_eq_some_iff.mp h
    obtain ⟨b6, e6, h⟩ := Option.bind_eq_some_iff.mp h
    obtain rfl := Option.some.inj h
    refine (diff_eq _ _ _ rfl rfl rfl _ rfl rfl (fun k => if k = 0 then b1 else if k = 1 then b2 else if k = 2 then b3 else if k = 3 then b4 else if k = 4 then b5 else b6) ⟨?_⟩ w)
    intro k hk w
    have hc : k = 0 ∨ k = 1 ∨ k = 2 ∨ k = 3 ∨ k = 4 ∨ k = 5 := by omega
    rcases hc with rfl | rfl | rfl | rfl | rfl | rfl
    · exact quick_differences_1.calls _ _ _ _ _ _ _ _ _ _ _ _ _ _ _ _ _ _ _ _ _ _ _ _ _ _ _ _ _ _ _ _ _ _ _ _ _ _ _ _ _ _ _ _ w e1
    · exact quick_differences_2.calls _ _ _ _ _ _ _ _ _ _ _ _ _ _ _ _ _ _ _ _ _ _ _ _ _ _ _ _ _ _ _ _ _ _ _ _ _ _ _ _ _ _ _ _ w e2
    · exact quick_differences_3.calls _ _ _ _ _ _ _ _ _ _ _ _ _ _ _ _ _ _ _ _ _ _ _ _ _ _ _ _ _ _ _ _ _ _ _ _ _ _ _ _ _ _ _ _ w e3
    · exact quick_differences_4.calls _ _ _ _ _ _ _ _ _ _ _ _ _ _ _ _ _ _ _ _ _ _ _ _ _ _ _ _ _ _ _ _ _ _ _ _ _ _ _ _ _ _ _ _ w e4
    · exact quick_differences_5.calls _ _ _ _ _ _ _ _ _ _ _ _ _ _ _ _ _ _ _ _ _ _ _ _ _ _ _ _ _ _ _ _ _ _ _ _ _ _ _ _ _ _ _ _ w e5
    · exact quick_differences_6.calls _ _ _ _ _ _ _ _ _ _ _ _ _ _ _ _ _ _ _ _ _ _ _ _ _ _ _ _ _ _ _ _ _ _ _ _ _ _ _ _ _ _ _ _ w e6
  · rw [if_neg hk] at h
    obtain rfl := Option.some.inj h
    exact diff_ne _ _ _ rfl rfl rfl _ rfl _ rfl (bne_iff_ne.mpr hk) w
end Go.Proofs.Ytniedfbchcgaoaa.PA
