-- Written by a program of this session (the kit's print with this repo's externals: px.py).
import Derived.Test.YtljpcmpjfklloaaPAx0
import Derived.Test.YtljpcmpjfklloaaPAfremoralaw28light
import Derived.Test.YtljpcmpjfklloaaPAfremoralaw28awake
import Derived.Test.YtljpcmpjfklloaaPAfitemLines
namespace Go.Proofs.Ytljpcmpjfklloaa.PA
open Go.RowKit Go.Proofs.YtljpcmpjfklloaaW.PrintWords Go.Proofs.YtljpcmpjfklloaaW.PrintLast Go.Proofs.YtljpcmpjfklloaaW.PrintMore
attribute [local go_sem] max2_int min2_int max_two min_two max_three min_three max_four min_four   -- for this text's walks alone
set_option linter.unusedVariables false
set_option linter.unusedSimpArgs false

/-! ### remoralaw28_ItemPlain: function 6 -/
mutual
def remoralaw28_ItemPlain.l0 : Nat → List (S27) → List (S27) → Int → Int → Option (Bool)
  | 0, _, _, _, _ => none
  | k + 1, x0, x13, x14, x15 => if x15 < x14 then (if 0 ≤ x15 then (if x15 < (x13.length : Int) then ((remoralaw28_light.f ((rd_T27 x13 x15).f0) ((rd_T27 x13 x15).f1) ((rd_T27 x13 x15).f2) ((rd_T27 x13 x15).f3.f0) ((rd_T27 x13 x15).f3.f1) ((rd_T27 x13 x15).f3.f2) ((rd_T27 x13 x15).f3.f3.f0) ((rd_T27 x13 x15).f3.f3.f1) ((rd_T27 x13 x15).f3.f3.f2) ((rd_T27 x13 x15).f3.f3.f3) ((rd_T27 x13 x15).f3.f3.f4) ((rd_T27 x13 x15).f3.f4) ((rd_T27 x13 x15).f3.f5) ((rd_T27 x13 x15).f3.f6) ((rd_T27 x13 x15).f4)).bind fun t104 => (if t104 = true then (remoralaw28_ItemPlain.l0 k x0 x13 x14 (wrap64 (x15 + 1))) else ((remoralaw28_awake.f).bind fun t105 => (some t105)))) else (none)) else (none)) else ((item_Lines.f k x0).bind fun bt106 => (remoralaw28_ItemPlain.l1 k x0 bt106.1 bt106.2 0 (bt106.1.size : Int) 0))
def remoralaw28_ItemPlain.l1 : Nat → List (S27) → ByteArray → Int → Int → Int → Int → Option (Bool)
  | 0, _, _, _, _, _, _ => none
  | k + 1, x0, x5, x6, x7, x30, x31 => if x31 < x30 then (if 0 ≤ x31 then (if x31 < (x5.size : Int) then (if (bt x5 x31) = 10 then (remoralaw28_ItemPlain.l1 k x0 x5 x6 (wrap64 (x7 + 1)) x30 (wrap64 (x31 + 1))) else (if (bt x5 x31) < 32 then (some false) else (if (bt x5 x31) > 126 then (some false) else (remoralaw28_ItemPlain.l1 k x0 x5 x6 x7 x30 (wrap64 (x31 + 1)))))) else (none)) else (none)) else (if x6 = 0 then (if x7 = (x0.length : Int) then ((remoralaw28_awake.f).bind fun t108 => (some t108)) else (some false)) else (if x5.toList = ([] : List UInt8) then ((remoralaw28_awake.f).bind fun t109 => (some t109)) else (some false)))
end
def remoralaw28_ItemPlain.f (k : Nat) (l0 : List (S27)) : Option (Bool) := if (l0.length : Int) > 40 then ((remoralaw28_awake.f).bind fun t101 => (some t101)) else (remoralaw28_ItemPlain.l0 k l0 l0 (l0.length : Int) 0)
theorem remoralaw28_ItemPlain.mono_l : ∀ k, (∀ y0 y1 y2 y3, LeO (remoralaw28_ItemPlain.l0 k y0 y1 y2 y3) (remoralaw28_ItemPlain.l0 (k + 1) y0 y1 y2 y3)) ∧ (∀ y0 y1 y2 y3 y4 y5, LeO (remoralaw28_ItemPlain.l1 k y0 y1 y2 y3 y4 y5) (remoralaw28_ItemPlain.l1 (k + 1) y0 y1 y2 y3 y4 y5))
  | 0 => ⟨fun _ _ _ _ r h => by simp [remoralaw28_ItemPlain.l0] at h, fun _ _ _ _ _ _ r h => by simp [remoralaw28_ItemPlain.l1] at h⟩
  | k + 1 => by
    obtain ⟨ih0, ih1⟩ := remoralaw28_ItemPlain.mono_l k
    refine ⟨?_, ?_⟩
    · intro y0 y1 y2 y3
      unfold remoralaw28_ItemPlain.l0
      repeat' first
      | (with_reducible exact ih0 _ _ _ _)
      | (with_reducible exact ih1 _ _ _ _ _ _)
      | (with_reducible exact item_Lines.mono _ _)
      | (with_reducible exact LeO.refl _)
      | (with_reducible exact LeO.none _)
      | (with_reducible refine LeO.ite ?_ ?_)
      | (with_reducible refine LeO.bind ?_ (fun _ => ?_))
      | exact ih0 _ _ _ _
      | exact ih1 _ _ _ _ _ _
      | exact item_Lines.mono _ _
      | exact LeO.none _
      | refine LeO.ite ?_ ?_
      | refine LeO.bind ?_ (fun _ => ?_)
    · intro y0 y1 y2 y3 y4 y5
      unfold remoralaw28_ItemPlain.l1
      repeat' first
      | (with_reducible exact ih0 _ _ _ _)
      | (with_reducible exact ih1 _ _ _ _ _ _)
      | (with_reducible exact item_Lines.mono _ _)
      | (with_reducible exact LeO.refl _)
      | (with_reducible exact LeO.none _)
      | (with_reducible refine LeO.ite ?_ ?_)
      | (with_reducible refine LeO.bind ?_ (fun _ => ?_))
      | exact ih0 _ _ _ _
      | exact ih1 _ _ _ _ _ _
      | exact item_Lines.mono _ _
      | exact LeO.none _
      | refine LeO.ite ?_ ?_
      | refine LeO.bind ?_ (fun _ => ?_)
theorem remoralaw28_ItemPlain.mono : ∀ a0 k, LeO (remoralaw28_ItemPlain.f k a0) (remoralaw28_ItemPlain.f (k + 1) a0) := by
  intro a0 k
  obtain ⟨ih0, ih1⟩ := remoralaw28_ItemPlain.mono_l k
  unfold remoralaw28_ItemPlain.f
  repeat' first
      | (with_reducible exact ih0 _ _ _ _)
      | (with_reducible exact ih1 _ _ _ _ _ _)
      | (with_reducible exact item_Lines.mono _ _)
      | (with_reducible exact LeO.refl _)
      | (with_reducible exact LeO.none _)
      | (with_reducible refine LeO.ite ?_ ?_)
      | (with_reducible refine LeO.bind ?_ (fun _ => ?_))
      | exact ih0 _ _ _ _
      | exact ih1 _ _ _ _ _ _
      | exact item_Lines.mono _ _
      | exact LeO.none _
      | refine LeO.ite ?_ ?_
      | refine LeO.bind ?_ (fun _ => ?_)
set_option maxHeartbeats 8000000 in
set_option maxRecDepth 100000 in
theorem remoralaw28_ItemPlain.calls (k : Nat) (A0 : Option Addr) (c0 : Nat) (l0 : List (S27)) (r : Bool) (w : World) (hr0 : Kd.C k27 w A0 l0.length l0) (hc0 : l0.length ≤ c0) (h : remoralaw28_ItemPlain.f k l0 = some r) :
    Calls Try.prog 6 #[.slice A0 l0.length c0] w fun e w' => e = .returned (.bool r) ∧ Below w.heap.size w w' := by
  have hu27 := Try.underlying27
  have HR0 := Aside0.mk hr0
  have HC0 := Aside0.mk hc0
  clear hr0 hc0
  have HB := Aside0.mk (Below.refl w.heap.size w)
  have H : (if (l0.length : Int) > 40 then ((remoralaw28_awake.f).bind fun t101 => (some t101)) else (remoralaw28_ItemPlain.l0 k l0 l0 (l0.length : Int) 0)) = some r := h
  clear h
  by_cases c2 : (l0.length : Int) > 40
  · rw [if_pos c2] at H
    have c2b0 : decide (40 < (l0.length : Int)) = true := decide_eq_true c2
    have c2b1 : decide (40 < l0.length) = true := decide_eq_true (by omega)
    clear c2
    replace H := Option.bind_eq_some_iff.mp H
    obtain ⟨t101, A30, H⟩ := H
    replace H : (some t101) = some r := H
    have A3 := Aside0.mk A30
    clear A30
    obtain rfl := Option.some.inj H
    go_enter Try.func6, Try.ntmps6
    go_wp2_with (first | ((with_reducible refine gate_callee (f := 8) rfl ?_); refine goesL_ (some 12) rfl rfl Try.func8 (by kernel_rfl) rfl #[] rfl (by (try simp only [List.map_toArray, List.map_cons, List.map_nil]); first | done | rfl | (simp only [List.length_drop, List.length_take]; rfl)) ?_; (with_reducible refine (remoralaw28_awake.calls  t101 _ A3.out).mono ?_); rintro e w4 ⟨rfl, hb⟩; refine ⟨_, rfl, ?_⟩; have n0_ := Aside0.mk (below_step (by repeat (first | (with_reducible first | exact HB.out | apply below_alloc | apply pw_below_drewN | apply below_drew1) | exact HB.out)) hb); clear HB; have HB := n0_; clear n0_; (try clear hb); (try clear hb2); (try clear hk); (try clear hi)))
    go_ret
    exact ⟨by first | rfl | (simp [errW_none, errW_some] <;> rfl) | (simp [*, errW_none, errW_some] <;> rfl), by repeat (first | (with_reducible first | exact HB.out | apply below_alloc | apply pw_below_drewN | apply below_drew1) | exact HB.out)⟩
  · rw [if_neg c2] at H
    have c2b0 : decide (40 < (l0.length : Int)) = false := decide_eq_false c2
    have c2b1 : decide (40 < l0.length) = false := decide_eq_false (by omega)
    clear c2
    have H' := Aside0.mk H
    clear H
    go_enter Try.func6, Try.ntmps6
    go_wp2
    go_loopg [15] k (fun kq v15 w' => ∃ (x15_1 : Int), v15 = .int .i64 x15_1 ∧ Aside0 (remoralaw28_ItemPlain.l0 kq l0 l0 (l0.length : Int) x15_1 = some r) ∧ Aside0 (kq ≤ k) ∧ Aside0 (Below w.heap.size w w'))
    case atStart => exact ⟨(0), (by first | rfl | (simp; done) | (simp [*]; done)), H', ⟨Nat.le_refl _⟩, ⟨by repeat (first | (with_reducible first | exact HB.out | apply below_alloc | apply pw_below_drewN | apply below_drew1) | exact HB.out)⟩⟩
    case round =>
      clear H'
      try clear c2
      try clear c2b0
      try clear c2b1
      try clear p2
      obtain ⟨x15_1, rfl, HA, HK1, HB⟩ := hrel
      cases gk with
      | zero => exact absurd HA.out (by simp [remoralaw28_ItemPlain.l0])
      | succ k1 =>
        have H := HA.out
        clear HA
        simp only [remoralaw28_ItemPlain.l0] at H
        by_cases c5 : x15_1 < (l0.length : Int)
        · rw [if_pos c5] at H
          have c5b0 : decide (x15_1 < (l0.length : Int)) = true := decide_eq_true c5
          clear c5
          by_cases c6 : 0 ≤ x15_1
          · rw [if_pos c6] at H
            have c6b0 : decide (0 ≤ x15_1) = true := decide_eq_true c6
            clear c6
            by_cases c7 : x15_1 < (l0.length : Int)
            · rw [if_pos c7] at H
              have c7b0 : decide (x15_1 < (l0.length : Int)) = true := decide_eq_true c7
              clear c7
              replace H := Option.bind_eq_some_iff.mp H
              obtain ⟨t104, A80, H⟩ := H
              replace H : (if t104 = true then (remoralaw28_ItemPlain.l0 k1 l0 l0 (l0.length : Int) (wrap64 (x15_1 + 1))) else ((remoralaw28_awake.f).bind fun t105 => (some t105))) = some r := H
              have A8 := Aside0.mk A80
              clear A80
              by_cases c9 : t104 = true
              · subst c9
                have H1 : (remoralaw28_ItemPlain.l0 k1 l0 l0 (l0.length : Int) (wrap64 (x15_1 + 1))) = some r := by rw [if_pos rfl] at H; exact H
                clear H
                have H := H1
                clear H1
                have H' := Aside0.mk H
                clear H
                have p102 : 0 ≤ (x15_1 : Int) := of_decide_eq_true (by first | (with_reducible assumption) | assumption)
                have q102 : x15_1 < (l0.length : Int) := of_decide_eq_true (by first | (with_reducible assumption) | assumption)
                obtain ⟨ad102, e102, hx102_0, hx102_1, hx102_2, hx102_3, hx102_4, hx102_5, hx102_6, hx102_7, hx102_8, hx102_9, hx102_10, hx102_11, hx102_12, hx102_13, hx102_14⟩ := at_T27 HR0.out x15_1 p102 q102
                cases e102
                replace hx102_0 := (HB.out.cell (World.block_lt_of_cell? w _ hx102_0)).trans hx102_0
                replace hx102_1 := (HB.out.cell (World.block_lt_of_cell? w _ hx102_1)).trans hx102_1
                replace hx102_2 := (HB.out.cell (World.block_lt_of_cell? w _ hx102_2)).trans hx102_2
                replace hx102_3 := (HB.out.cell (World.block_lt_of_cell? w _ hx102_3)).trans hx102_3
                replace hx102_4 := (HB.out.cell (World.block_lt_of_cell? w _ hx102_4)).trans hx102_4
                replace hx102_5 := (HB.out.cell (World.block_lt_of_cell? w _ hx102_5)).trans hx102_5
                replace hx102_6 := (HB.out.cell (World.block_lt_of_cell? w _ hx102_6)).trans hx102_6
                replace hx102_7 := (HB.out.cell (World.block_lt_of_cell? w _ hx102_7)).trans hx102_7
                replace hx102_8 := (HB.out.cell (World.block_lt_of_cell? w _ hx102_8)).trans hx102_8
                replace hx102_9 := (HB.out.cell (World.block_lt_of_cell? w _ hx102_9)).trans hx102_9
                replace hx102_10 := (HB.out.cell (World.block_lt_of_cell? w _ hx102_10)).trans hx102_10
                replace hx102_11 := (HB.out.cell (World.block_lt_of_cell? w _ hx102_11)).trans hx102_11
                replace hx102_12 := (HB.out.cell (World.block_lt_of_cell? w _ hx102_12)).trans hx102_12
                replace hx102_13 := (HB.out.cell (World.block_lt_of_cell? w _ hx102_13)).trans hx102_13
                replace hx102_14 := (HB.out.cell (World.block_lt_of_cell? w _ hx102_14)).trans hx102_14
                replace p102 := eq_true p102
                replace q102 := eq_true q102
                go_wp2_with (first | ((with_reducible refine gate_dst (N := 4) rfl ?_); (try (refine gate_guard (by rfl) ?_; dsimp only)); refine box_event ?hg (N := 4) ?hd (cs := #[.int .i64 0, .string (⟨#[]⟩ : ByteArray), .string (⟨#[]⟩ : ByteArray), .string (⟨#[]⟩ : ByteArray), .int .i64 0, .int .i64 0, .int .i64 0, .int .i64 0, .int .i64 0, .int .i64 0, .int .i64 0, .string (⟨#[]⟩ : ByteArray), .string (⟨#[]⟩ : ByteArray), .int .i64 0, .int .i64 0]) (t := 27) ?hr ?_; (case hd => rfl); (case hg => rfl); (case hr => first | (go_simp; done) | (go_simp; rfl)); intro gb103 hg w10 hbox hb; have n0_ := Aside0.mk (below_step (by repeat (first | (with_reducible first | exact HB.out | apply below_alloc | apply pw_below_drewN | apply below_drew1) | exact HB.out)) hb); have n1_ := Aside0.mk (hbox); have n2_ := Aside0.mk ((by rw [hg]; exact (below_size (by repeat (first | (with_reducible first | exact HB.out | apply below_alloc | apply pw_below_drewN | apply below_drew1) | exact HB.out))) : w.heap.size ≤ gb103)); have n3_ := Aside0.mk ((by rw [hg]; exact (below_size (by repeat (first | (with_reducible first | exact HB.out | apply below_alloc | apply pw_below_drewN | apply below_drew1) | exact HB.out))) : w.heap.size ≤ gb103)); clear HB; have HB := n0_; have BK103 := n1_; have GW103 := n2_; have GE103 := n3_; clear n0_ n1_ n2_ n3_; clear hb hbox hg; have hcz11_0 : w10.cell? ⟨gb103, 0, none⟩ = some (.int .i64 0) := (blk_cell BK103.out 0).trans rfl; have hcz11_1 : w10.cell? ⟨gb103, 1, none⟩ = some (.string (⟨#[]⟩ : ByteArray)) := (blk_cell BK103.out 1).trans rfl; have hcz11_2 : w10.cell? ⟨gb103, 2, none⟩ = some (.string (⟨#[]⟩ : ByteArray)) := (blk_cell BK103.out 2).trans rfl; have hcz11_3 : w10.cell? ⟨gb103, 3, none⟩ = some (.string (⟨#[]⟩ : ByteArray)) := (blk_cell BK103.out 3).trans rfl; have hcz11_4 : w10.cell? ⟨gb103, 4, none⟩ = some (.int .i64 0) := (blk_cell BK103.out 4).trans rfl; have hcz11_5 : w10.cell? ⟨gb103, 5, none⟩ = some (.int .i64 0) := (blk_cell BK103.out 5).trans rfl; have hcz11_6 : w10.cell? ⟨gb103, 6, none⟩ = some (.int .i64 0) := (blk_cell BK103.out 6).trans rfl; have hcz11_7 : w10.cell? ⟨gb103, 7, none⟩ = some (.int .i64 0) := (blk_cell BK103.out 7).trans rfl; have hcz11_8 : w10.cell? ⟨gb103, 8, none⟩ = some (.int .i64 0) := (blk_cell BK103.out 8).trans rfl; have hcz11_9 : w10.cell? ⟨gb103, 9, none⟩ = some (.int .i64 0) := (blk_cell BK103.out 9).trans rfl; have hcz11_10 : w10.cell? ⟨gb103, 10, none⟩ = some (.int .i64 0) := (blk_cell BK103.out 10).trans rfl; have hcz11_11 : w10.cell? ⟨gb103, 11, none⟩ = some (.string (⟨#[]⟩ : ByteArray)) := (blk_cell BK103.out 11).trans rfl; have hcz11_12 : w10.cell? ⟨gb103, 12, none⟩ = some (.string (⟨#[]⟩ : ByteArray)) := (blk_cell BK103.out 12).trans rfl; have hcz11_13 : w10.cell? ⟨gb103, 13, none⟩ = some (.int .i64 0) := (blk_cell BK103.out 13).trans rfl; have hcz11_14 : w10.cell? ⟨gb103, 14, none⟩ = some (.int .i64 0) := (blk_cell BK103.out 14).trans rfl; have hfz11_0 := blk_frozen BK103.out 0; have hfz11_1 := blk_frozen BK103.out 1; have hfz11_2 := blk_frozen BK103.out 2; have hfz11_3 := blk_frozen BK103.out 3; have hfz11_4 := blk_frozen BK103.out 4; have hfz11_5 := blk_frozen BK103.out 5; have hfz11_6 := blk_frozen BK103.out 6; have hfz11_7 := blk_frozen BK103.out 7; have hfz11_8 := blk_frozen BK103.out 8; have hfz11_9 := blk_frozen BK103.out 9; have hfz11_10 := blk_frozen BK103.out 10; have hfz11_11 := blk_frozen BK103.out 11; have hfz11_12 := blk_frozen BK103.out 12; have hfz11_13 := blk_frozen BK103.out 13; have hfz11_14 := blk_frozen BK103.out 14) | ((with_reducible refine gate_callee (f := 7) rfl ?_); refine goesL_ (some 20) rfl rfl Try.func7 (by kernel_rfl) rfl #[.agg #[.int .i64 ((rd_T27 l0 x15_1).f0), .string ((rd_T27 l0 x15_1).f1), .string ((rd_T27 l0 x15_1).f2), .string ((rd_T27 l0 x15_1).f3.f0), .int .i64 ((rd_T27 l0 x15_1).f3.f1), .int .i64 ((rd_T27 l0 x15_1).f3.f2), .int .i64 ((rd_T27 l0 x15_1).f3.f3.f0), .int .i64 ((rd_T27 l0 x15_1).f3.f3.f1), .int .i64 ((rd_T27 l0 x15_1).f3.f3.f2), .int .i64 ((rd_T27 l0 x15_1).f3.f3.f3), .int .i64 ((rd_T27 l0 x15_1).f3.f3.f4), .string ((rd_T27 l0 x15_1).f3.f4), .string ((rd_T27 l0 x15_1).f3.f5), .int .i64 ((rd_T27 l0 x15_1).f3.f6), .int .i64 ((rd_T27 l0 x15_1).f4)]] rfl (by (try simp only [List.map_toArray, List.map_cons, List.map_nil]); first | done | rfl | (simp only [List.length_drop, List.length_take]; rfl)) ?_; (with_reducible refine (remoralaw28_light.calls ((rd_T27 l0 x15_1).f0) ((rd_T27 l0 x15_1).f1) ((rd_T27 l0 x15_1).f2) ((rd_T27 l0 x15_1).f3.f0) ((rd_T27 l0 x15_1).f3.f1) ((rd_T27 l0 x15_1).f3.f2) ((rd_T27 l0 x15_1).f3.f3.f0) ((rd_T27 l0 x15_1).f3.f3.f1) ((rd_T27 l0 x15_1).f3.f3.f2) ((rd_T27 l0 x15_1).f3.f3.f3) ((rd_T27 l0 x15_1).f3.f3.f4) ((rd_T27 l0 x15_1).f3.f4) ((rd_T27 l0 x15_1).f3.f5) ((rd_T27 l0 x15_1).f3.f6) ((rd_T27 l0 x15_1).f4) true _ A8.out).mono ?_); rintro e w12 ⟨rfl, hb⟩; refine ⟨_, rfl, ?_⟩; have n0_ := Aside0.mk (blk_below (g := gb103) (o := .cells #[.int .i64 ((rd_T27 l0 x15_1).f0), .string ((rd_T27 l0 x15_1).f1), .string ((rd_T27 l0 x15_1).f2), .string ((rd_T27 l0 x15_1).f3.f0), .int .i64 ((rd_T27 l0 x15_1).f3.f1), .int .i64 ((rd_T27 l0 x15_1).f3.f2), .int .i64 ((rd_T27 l0 x15_1).f3.f3.f0), .int .i64 ((rd_T27 l0 x15_1).f3.f3.f1), .int .i64 ((rd_T27 l0 x15_1).f3.f3.f2), .int .i64 ((rd_T27 l0 x15_1).f3.f3.f3), .int .i64 ((rd_T27 l0 x15_1).f3.f3.f4), .string ((rd_T27 l0 x15_1).f3.f4), .string ((rd_T27 l0 x15_1).f3.f5), .int .i64 ((rd_T27 l0 x15_1).f3.f6), .int .i64 ((rd_T27 l0 x15_1).f4)] 27 (0, 0)) (by (with_reducible repeat (first | refine blk_drewN ?_ _ | refine blk_drew ?_ | refine blk_alloc ?_ _)); refine blk_put (cs := #[.int .i64 ((rd_T27 l0 x15_1).f0), .string ((rd_T27 l0 x15_1).f1), .string ((rd_T27 l0 x15_1).f2), .string ((rd_T27 l0 x15_1).f3.f0), .int .i64 ((rd_T27 l0 x15_1).f3.f1), .int .i64 ((rd_T27 l0 x15_1).f3.f2), .int .i64 ((rd_T27 l0 x15_1).f3.f3.f0), .int .i64 ((rd_T27 l0 x15_1).f3.f3.f1), .int .i64 ((rd_T27 l0 x15_1).f3.f3.f2), .int .i64 ((rd_T27 l0 x15_1).f3.f3.f3), .int .i64 ((rd_T27 l0 x15_1).f3.f3.f4), .string ((rd_T27 l0 x15_1).f3.f4), .string ((rd_T27 l0 x15_1).f3.f5), .int .i64 ((rd_T27 l0 x15_1).f3.f6), .int .i64 0]) ?_ 14 _ rfl; (with_reducible repeat (first | refine blk_drewN ?_ _ | refine blk_drew ?_ | refine blk_alloc ?_ _)); refine blk_put (cs := #[.int .i64 ((rd_T27 l0 x15_1).f0), .string ((rd_T27 l0 x15_1).f1), .string ((rd_T27 l0 x15_1).f2), .string ((rd_T27 l0 x15_1).f3.f0), .int .i64 ((rd_T27 l0 x15_1).f3.f1), .int .i64 ((rd_T27 l0 x15_1).f3.f2), .int .i64 ((rd_T27 l0 x15_1).f3.f3.f0), .int .i64 ((rd_T27 l0 x15_1).f3.f3.f1), .int .i64 ((rd_T27 l0 x15_1).f3.f3.f2), .int .i64 ((rd_T27 l0 x15_1).f3.f3.f3), .int .i64 ((rd_T27 l0 x15_1).f3.f3.f4), .string ((rd_T27 l0 x15_1).f3.f4), .string ((rd_T27 l0 x15_1).f3.f5), .int .i64 0, .int .i64 0]) ?_ 13 _ rfl; (with_reducible repeat (first | refine blk_drewN ?_ _ | refine blk_drew ?_ | refine blk_alloc ?_ _)); refine blk_put (cs := #[.int .i64 ((rd_T27 l0 x15_1).f0), .string ((rd_T27 l0 x15_1).f1), .string ((rd_T27 l0 x15_1).f2), .string ((rd_T27 l0 x15_1).f3.f0), .int .i64 ((rd_T27 l0 x15_1).f3.f1), .int .i64 ((rd_T27 l0 x15_1).f3.f2), .int .i64 ((rd_T27 l0 x15_1).f3.f3.f0), .int .i64 ((rd_T27 l0 x15_1).f3.f3.f1), .int .i64 ((rd_T27 l0 x15_1).f3.f3.f2), .int .i64 ((rd_T27 l0 x15_1).f3.f3.f3), .int .i64 ((rd_T27 l0 x15_1).f3.f3.f4), .string ((rd_T27 l0 x15_1).f3.f4), .string (⟨#[]⟩ : ByteArray), .int .i64 0, .int .i64 0]) ?_ 12 _ rfl; (with_reducible repeat (first | refine blk_drewN ?_ _ | refine blk_drew ?_ | refine blk_alloc ?_ _)); refine blk_put (cs := #[.int .i64 ((rd_T27 l0 x15_1).f0), .string ((rd_T27 l0 x15_1).f1), .string ((rd_T27 l0 x15_1).f2), .string ((rd_T27 l0 x15_1).f3.f0), .int .i64 ((rd_T27 l0 x15_1).f3.f1), .int .i64 ((rd_T27 l0 x15_1).f3.f2), .int .i64 ((rd_T27 l0 x15_1).f3.f3.f0), .int .i64 ((rd_T27 l0 x15_1).f3.f3.f1), .int .i64 ((rd_T27 l0 x15_1).f3.f3.f2), .int .i64 ((rd_T27 l0 x15_1).f3.f3.f3), .int .i64 ((rd_T27 l0 x15_1).f3.f3.f4), .string (⟨#[]⟩ : ByteArray), .string (⟨#[]⟩ : ByteArray), .int .i64 0, .int .i64 0]) ?_ 11 _ rfl; (with_reducible repeat (first | refine blk_drewN ?_ _ | refine blk_drew ?_ | refine blk_alloc ?_ _)); refine blk_put (cs := #[.int .i64 ((rd_T27 l0 x15_1).f0), .string ((rd_T27 l0 x15_1).f1), .string ((rd_T27 l0 x15_1).f2), .string ((rd_T27 l0 x15_1).f3.f0), .int .i64 ((rd_T27 l0 x15_1).f3.f1), .int .i64 ((rd_T27 l0 x15_1).f3.f2), .int .i64 ((rd_T27 l0 x15_1).f3.f3.f0), .int .i64 ((rd_T27 l0 x15_1).f3.f3.f1), .int .i64 ((rd_T27 l0 x15_1).f3.f3.f2), .int .i64 ((rd_T27 l0 x15_1).f3.f3.f3), .int .i64 0, .string (⟨#[]⟩ : ByteArray), .string (⟨#[]⟩ : ByteArray), .int .i64 0, .int .i64 0]) ?_ 10 _ rfl; (with_reducible repeat (first | refine blk_drewN ?_ _ | refine blk_drew ?_ | refine blk_alloc ?_ _)); refine blk_put (cs := #[.int .i64 ((rd_T27 l0 x15_1).f0), .string ((rd_T27 l0 x15_1).f1), .string ((rd_T27 l0 x15_1).f2), .string ((rd_T27 l0 x15_1).f3.f0), .int .i64 ((rd_T27 l0 x15_1).f3.f1), .int .i64 ((rd_T27 l0 x15_1).f3.f2), .int .i64 ((rd_T27 l0 x15_1).f3.f3.f0), .int .i64 ((rd_T27 l0 x15_1).f3.f3.f1), .int .i64 ((rd_T27 l0 x15_1).f3.f3.f2), .int .i64 0, .int .i64 0, .string (⟨#[]⟩ : ByteArray), .string (⟨#[]⟩ : ByteArray), .int .i64 0, .int .i64 0]) ?_ 9 _ rfl; (with_reducible repeat (first | refine blk_drewN ?_ _ | refine blk_drew ?_ | refine blk_alloc ?_ _)); refine blk_put (cs := #[.int .i64 ((rd_T27 l0 x15_1).f0), .string ((rd_T27 l0 x15_1).f1), .string ((rd_T27 l0 x15_1).f2), .string ((rd_T27 l0 x15_1).f3.f0), .int .i64 ((rd_T27 l0 x15_1).f3.f1), .int .i64 ((rd_T27 l0 x15_1).f3.f2), .int .i64 ((rd_T27 l0 x15_1).f3.f3.f0), .int .i64 ((rd_T27 l0 x15_1).f3.f3.f1), .int .i64 0, .int .i64 0, .int .i64 0, .string (⟨#[]⟩ : ByteArray), .string (⟨#[]⟩ : ByteArray), .int .i64 0, .int .i64 0]) ?_ 8 _ rfl; (with_reducible repeat (first | refine blk_drewN ?_ _ | refine blk_drew ?_ | refine blk_alloc ?_ _)); refine blk_put (cs := #[.int .i64 ((rd_T27 l0 x15_1).f0), .string ((rd_T27 l0 x15_1).f1), .string ((rd_T27 l0 x15_1).f2), .string ((rd_T27 l0 x15_1).f3.f0), .int .i64 ((rd_T27 l0 x15_1).f3.f1), .int .i64 ((rd_T27 l0 x15_1).f3.f2), .int .i64 ((rd_T27 l0 x15_1).f3.f3.f0), .int .i64 0, .int .i64 0, .int .i64 0, .int .i64 0, .string (⟨#[]⟩ : ByteArray), .string (⟨#[]⟩ : ByteArray), .int .i64 0, .int .i64 0]) ?_ 7 _ rfl; (with_reducible repeat (first | refine blk_drewN ?_ _ | refine blk_drew ?_ | refine blk_alloc ?_ _)); refine blk_put (cs := #[.int .i64 ((rd_T27 l0 x15_1).f0), .string ((rd_T27 l0 x15_1).f1), .string ((rd_T27 l0 x15_1).f2), .string ((rd_T27 l0 x15_1).f3.f0), .int .i64 ((rd_T27 l0 x15_1).f3.f1), .int .i64 ((rd_T27 l0 x15_1).f3.f2), .int .i64 0, .int .i64 0, .int .i64 0, .int .i64 0, .int .i64 0, .string (⟨#[]⟩ : ByteArray), .string (⟨#[]⟩ : ByteArray), .int .i64 0, .int .i64 0]) ?_ 6 _ rfl; (with_reducible repeat (first | refine blk_drewN ?_ _ | refine blk_drew ?_ | refine blk_alloc ?_ _)); refine blk_put (cs := #[.int .i64 ((rd_T27 l0 x15_1).f0), .string ((rd_T27 l0 x15_1).f1), .string ((rd_T27 l0 x15_1).f2), .string ((rd_T27 l0 x15_1).f3.f0), .int .i64 ((rd_T27 l0 x15_1).f3.f1), .int .i64 0, .int .i64 0, .int .i64 0, .int .i64 0, .int .i64 0, .int .i64 0, .string (⟨#[]⟩ : ByteArray), .string (⟨#[]⟩ : ByteArray), .int .i64 0, .int .i64 0]) ?_ 5 _ rfl; (with_reducible repeat (first | refine blk_drewN ?_ _ | refine blk_drew ?_ | refine blk_alloc ?_ _)); refine blk_put (cs := #[.int .i64 ((rd_T27 l0 x15_1).f0), .string ((rd_T27 l0 x15_1).f1), .string ((rd_T27 l0 x15_1).f2), .string ((rd_T27 l0 x15_1).f3.f0), .int .i64 0, .int .i64 0, .int .i64 0, .int .i64 0, .int .i64 0, .int .i64 0, .int .i64 0, .string (⟨#[]⟩ : ByteArray), .string (⟨#[]⟩ : ByteArray), .int .i64 0, .int .i64 0]) ?_ 4 _ rfl; (with_reducible repeat (first | refine blk_drewN ?_ _ | refine blk_drew ?_ | refine blk_alloc ?_ _)); refine blk_put (cs := #[.int .i64 ((rd_T27 l0 x15_1).f0), .string ((rd_T27 l0 x15_1).f1), .string ((rd_T27 l0 x15_1).f2), .string (⟨#[]⟩ : ByteArray), .int .i64 0, .int .i64 0, .int .i64 0, .int .i64 0, .int .i64 0, .int .i64 0, .int .i64 0, .string (⟨#[]⟩ : ByteArray), .string (⟨#[]⟩ : ByteArray), .int .i64 0, .int .i64 0]) ?_ 3 _ rfl; (with_reducible repeat (first | refine blk_drewN ?_ _ | refine blk_drew ?_ | refine blk_alloc ?_ _)); refine blk_put (cs := #[.int .i64 ((rd_T27 l0 x15_1).f0), .string ((rd_T27 l0 x15_1).f1), .string (⟨#[]⟩ : ByteArray), .string (⟨#[]⟩ : ByteArray), .int .i64 0, .int .i64 0, .int .i64 0, .int .i64 0, .int .i64 0, .int .i64 0, .int .i64 0, .string (⟨#[]⟩ : ByteArray), .string (⟨#[]⟩ : ByteArray), .int .i64 0, .int .i64 0]) ?_ 2 _ rfl; (with_reducible repeat (first | refine blk_drewN ?_ _ | refine blk_drew ?_ | refine blk_alloc ?_ _)); refine blk_put (cs := #[.int .i64 ((rd_T27 l0 x15_1).f0), .string (⟨#[]⟩ : ByteArray), .string (⟨#[]⟩ : ByteArray), .string (⟨#[]⟩ : ByteArray), .int .i64 0, .int .i64 0, .int .i64 0, .int .i64 0, .int .i64 0, .int .i64 0, .int .i64 0, .string (⟨#[]⟩ : ByteArray), .string (⟨#[]⟩ : ByteArray), .int .i64 0, .int .i64 0]) ?_ 1 _ rfl; (with_reducible repeat (first | refine blk_drewN ?_ _ | refine blk_drew ?_ | refine blk_alloc ?_ _)); refine blk_put (cs := #[.int .i64 0, .string (⟨#[]⟩ : ByteArray), .string (⟨#[]⟩ : ByteArray), .string (⟨#[]⟩ : ByteArray), .int .i64 0, .int .i64 0, .int .i64 0, .int .i64 0, .int .i64 0, .int .i64 0, .int .i64 0, .string (⟨#[]⟩ : ByteArray), .string (⟨#[]⟩ : ByteArray), .int .i64 0, .int .i64 0]) ?_ 0 _ rfl; (with_reducible repeat (first | refine blk_drewN ?_ _ | refine blk_drew ?_ | refine blk_alloc ?_ _)); exact BK103.out) hb); have n1_ := Aside0.mk (below_step (by repeat (first | (with_reducible first | exact HB.out | apply below_alloc | apply pw_below_drewN | apply below_drew1 | refine below_set ?_ GE103.out) | exact HB.out)) hb); clear BK103; clear HB; have BK103 := n0_; have HB := n1_; clear n0_ n1_; (try clear hb); (try clear hb2); (try clear hk); (try clear hi)))
                go_roundg k1
                case measure => have := HK1.out; omega
                case rel => exact ⟨(wrap64 (x15_1 + 1)), (by first | rfl | (simp; done) | (simp [*]; done)), H', ⟨by have := HK1.out; omega⟩, ⟨by repeat (first | (with_reducible first | exact HB.out | apply below_alloc | apply pw_below_drewN | apply below_drew1 | refine below_set ?_ GE103.out) | exact HB.out)⟩⟩
              · replace c9 := Bool.eq_false_iff.mpr c9
                subst c9
                have H1 : ((remoralaw28_awake.f).bind fun t105 => (some t105)) = some r := by rw [if_neg (show ¬ (false = true) by decide)] at H; exact H
                clear H
                have H := H1
                clear H1
                replace H := Option.bind_eq_some_iff.mp H
                obtain ⟨t105, A130, H⟩ := H
                replace H : (some t105) = some r := H
                have A13 := Aside0.mk A130
                clear A130
                obtain rfl := Option.some.inj H
                have p102 : 0 ≤ (x15_1 : Int) := of_decide_eq_true (by first | (with_reducible assumption) | assumption)
                have q102 : x15_1 < (l0.length : Int) := of_decide_eq_true (by first | (with_reducible assumption) | assumption)
                obtain ⟨ad102, e102, hx102_0, hx102_1, hx102_2, hx102_3, hx102_4, hx102_5, hx102_6, hx102_7, hx102_8, hx102_9, hx102_10, hx102_11, hx102_12, hx102_13, hx102_14⟩ := at_T27 HR0.out x15_1 p102 q102
                cases e102
                replace hx102_0 := (HB.out.cell (World.block_lt_of_cell? w _ hx102_0)).trans hx102_0
                replace hx102_1 := (HB.out.cell (World.block_lt_of_cell? w _ hx102_1)).trans hx102_1
                replace hx102_2 := (HB.out.cell (World.block_lt_of_cell? w _ hx102_2)).trans hx102_2
                replace hx102_3 := (HB.out.cell (World.block_lt_of_cell? w _ hx102_3)).trans hx102_3
                replace hx102_4 := (HB.out.cell (World.block_lt_of_cell? w _ hx102_4)).trans hx102_4
                replace hx102_5 := (HB.out.cell (World.block_lt_of_cell? w _ hx102_5)).trans hx102_5
                replace hx102_6 := (HB.out.cell (World.block_lt_of_cell? w _ hx102_6)).trans hx102_6
                replace hx102_7 := (HB.out.cell (World.block_lt_of_cell? w _ hx102_7)).trans hx102_7
                replace hx102_8 := (HB.out.cell (World.block_lt_of_cell? w _ hx102_8)).trans hx102_8
                replace hx102_9 := (HB.out.cell (World.block_lt_of_cell? w _ hx102_9)).trans hx102_9
                replace hx102_10 := (HB.out.cell (World.block_lt_of_cell? w _ hx102_10)).trans hx102_10
                replace hx102_11 := (HB.out.cell (World.block_lt_of_cell? w _ hx102_11)).trans hx102_11
                replace hx102_12 := (HB.out.cell (World.block_lt_of_cell? w _ hx102_12)).trans hx102_12
                replace hx102_13 := (HB.out.cell (World.block_lt_of_cell? w _ hx102_13)).trans hx102_13
                replace hx102_14 := (HB.out.cell (World.block_lt_of_cell? w _ hx102_14)).trans hx102_14
                replace p102 := eq_true p102
                replace q102 := eq_true q102
                go_wp2_with (first | ((with_reducible refine gate_dst (N := 4) rfl ?_); (try (refine gate_guard (by rfl) ?_; dsimp only)); refine box_event ?hg (N := 4) ?hd (cs := #[.int .i64 0, .string (⟨#[]⟩ : ByteArray), .string (⟨#[]⟩ : ByteArray), .string (⟨#[]⟩ : ByteArray), .int .i64 0, .int .i64 0, .int .i64 0, .int .i64 0, .int .i64 0, .int .i64 0, .int .i64 0, .string (⟨#[]⟩ : ByteArray), .string (⟨#[]⟩ : ByteArray), .int .i64 0, .int .i64 0]) (t := 27) ?hr ?_; (case hd => rfl); (case hg => rfl); (case hr => first | (go_simp; done) | (go_simp; rfl)); intro gb103 hg w14 hbox hb; have n0_ := Aside0.mk (below_step (by repeat (first | (with_reducible first | exact HB.out | apply below_alloc | apply pw_below_drewN | apply below_drew1) | exact HB.out)) hb); have n1_ := Aside0.mk (hbox); have n2_ := Aside0.mk ((by rw [hg]; exact (below_size (by repeat (first | (with_reducible first | exact HB.out | apply below_alloc | apply pw_below_drewN | apply below_drew1) | exact HB.out))) : w.heap.size ≤ gb103)); have n3_ := Aside0.mk ((by rw [hg]; exact (below_size (by repeat (first | (with_reducible first | exact HB.out | apply below_alloc | apply pw_below_drewN | apply below_drew1) | exact HB.out))) : w.heap.size ≤ gb103)); clear HB; have HB := n0_; have BK103 := n1_; have GW103 := n2_; have GE103 := n3_; clear n0_ n1_ n2_ n3_; clear hb hbox hg; have hcz15_0 : w14.cell? ⟨gb103, 0, none⟩ = some (.int .i64 0) := (blk_cell BK103.out 0).trans rfl; have hcz15_1 : w14.cell? ⟨gb103, 1, none⟩ = some (.string (⟨#[]⟩ : ByteArray)) := (blk_cell BK103.out 1).trans rfl; have hcz15_2 : w14.cell? ⟨gb103, 2, none⟩ = some (.string (⟨#[]⟩ : ByteArray)) := (blk_cell BK103.out 2).trans rfl; have hcz15_3 : w14.cell? ⟨gb103, 3, none⟩ = some (.string (⟨#[]⟩ : ByteArray)) := (blk_cell BK103.out 3).trans rfl; have hcz15_4 : w14.cell? ⟨gb103, 4, none⟩ = some (.int .i64 0) := (blk_cell BK103.out 4).trans rfl; have hcz15_5 : w14.cell? ⟨gb103, 5, none⟩ = some (.int .i64 0) := (blk_cell BK103.out 5).trans rfl; have hcz15_6 : w14.cell? ⟨gb103, 6, none⟩ = some (.int .i64 0) := (blk_cell BK103.out 6).trans rfl; have hcz15_7 : w14.cell? ⟨gb103, 7, none⟩ = some (.int .i64 0) := (blk_cell BK103.out 7).trans rfl; have hcz15_8 : w14.cell? ⟨gb103, 8, none⟩ = some (.int .i64 0) := (blk_cell BK103.out 8).trans rfl; have hcz15_9 : w14.cell? ⟨gb103, 9, none⟩ = some (.int .i64 0) := (blk_cell BK103.out 9).trans rfl; have hcz15_10 : w14.cell? ⟨gb103, 10, none⟩ = some (.int .i64 0) := (blk_cell BK103.out 10).trans rfl; have hcz15_11 : w14.cell? ⟨gb103, 11, none⟩ = some (.string (⟨#[]⟩ : ByteArray)) := (blk_cell BK103.out 11).trans rfl; have hcz15_12 : w14.cell? ⟨gb103, 12, none⟩ = some (.string (⟨#[]⟩ : ByteArray)) := (blk_cell BK103.out 12).trans rfl; have hcz15_13 : w14.cell? ⟨gb103, 13, none⟩ = some (.int .i64 0) := (blk_cell BK103.out 13).trans rfl; have hcz15_14 : w14.cell? ⟨gb103, 14, none⟩ = some (.int .i64 0) := (blk_cell BK103.out 14).trans rfl; have hfz15_0 := blk_frozen BK103.out 0; have hfz15_1 := blk_frozen BK103.out 1; have hfz15_2 := blk_frozen BK103.out 2; have hfz15_3 := blk_frozen BK103.out 3; have hfz15_4 := blk_frozen BK103.out 4; have hfz15_5 := blk_frozen BK103.out 5; have hfz15_6 := blk_frozen BK103.out 6; have hfz15_7 := blk_frozen BK103.out 7; have hfz15_8 := blk_frozen BK103.out 8; have hfz15_9 := blk_frozen BK103.out 9; have hfz15_10 := blk_frozen BK103.out 10; have hfz15_11 := blk_frozen BK103.out 11; have hfz15_12 := blk_frozen BK103.out 12; have hfz15_13 := blk_frozen BK103.out 13; have hfz15_14 := blk_frozen BK103.out 14) | ((with_reducible refine gate_callee (f := 7) rfl ?_); refine goesL_ (some 20) rfl rfl Try.func7 (by kernel_rfl) rfl #[.agg #[.int .i64 ((rd_T27 l0 x15_1).f0), .string ((rd_T27 l0 x15_1).f1), .string ((rd_T27 l0 x15_1).f2), .string ((rd_T27 l0 x15_1).f3.f0), .int .i64 ((rd_T27 l0 x15_1).f3.f1), .int .i64 ((rd_T27 l0 x15_1).f3.f2), .int .i64 ((rd_T27 l0 x15_1).f3.f3.f0), .int .i64 ((rd_T27 l0 x15_1).f3.f3.f1), .int .i64 ((rd_T27 l0 x15_1).f3.f3.f2), .int .i64 ((rd_T27 l0 x15_1).f3.f3.f3), .int .i64 ((rd_T27 l0 x15_1).f3.f3.f4), .string ((rd_T27 l0 x15_1).f3.f4), .string ((rd_T27 l0 x15_1).f3.f5), .int .i64 ((rd_T27 l0 x15_1).f3.f6), .int .i64 ((rd_T27 l0 x15_1).f4)]] rfl (by (try simp only [List.map_toArray, List.map_cons, List.map_nil]); first | done | rfl | (simp only [List.length_drop, List.length_take]; rfl)) ?_; (with_reducible refine (remoralaw28_light.calls ((rd_T27 l0 x15_1).f0) ((rd_T27 l0 x15_1).f1) ((rd_T27 l0 x15_1).f2) ((rd_T27 l0 x15_1).f3.f0) ((rd_T27 l0 x15_1).f3.f1) ((rd_T27 l0 x15_1).f3.f2) ((rd_T27 l0 x15_1).f3.f3.f0) ((rd_T27 l0 x15_1).f3.f3.f1) ((rd_T27 l0 x15_1).f3.f3.f2) ((rd_T27 l0 x15_1).f3.f3.f3) ((rd_T27 l0 x15_1).f3.f3.f4) ((rd_T27 l0 x15_1).f3.f4) ((rd_T27 l0 x15_1).f3.f5) ((rd_T27 l0 x15_1).f3.f6) ((rd_T27 l0 x15_1).f4) false _ A8.out).mono ?_); rintro e w16 ⟨rfl, hb⟩; refine ⟨_, rfl, ?_⟩; have n0_ := Aside0.mk (blk_below (g := gb103) (o := .cells #[.int .i64 ((rd_T27 l0 x15_1).f0), .string ((rd_T27 l0 x15_1).f1), .string ((rd_T27 l0 x15_1).f2), .string ((rd_T27 l0 x15_1).f3.f0), .int .i64 ((rd_T27 l0 x15_1).f3.f1), .int .i64 ((rd_T27 l0 x15_1).f3.f2), .int .i64 ((rd_T27 l0 x15_1).f3.f3.f0), .int .i64 ((rd_T27 l0 x15_1).f3.f3.f1), .int .i64 ((rd_T27 l0 x15_1).f3.f3.f2), .int .i64 ((rd_T27 l0 x15_1).f3.f3.f3), .int .i64 ((rd_T27 l0 x15_1).f3.f3.f4), .string ((rd_T27 l0 x15_1).f3.f4), .string ((rd_T27 l0 x15_1).f3.f5), .int .i64 ((rd_T27 l0 x15_1).f3.f6), .int .i64 ((rd_T27 l0 x15_1).f4)] 27 (0, 0)) (by (with_reducible repeat (first | refine blk_drewN ?_ _ | refine blk_drew ?_ | refine blk_alloc ?_ _)); refine blk_put (cs := #[.int .i64 ((rd_T27 l0 x15_1).f0), .string ((rd_T27 l0 x15_1).f1), .string ((rd_T27 l0 x15_1).f2), .string ((rd_T27 l0 x15_1).f3.f0), .int .i64 ((rd_T27 l0 x15_1).f3.f1), .int .i64 ((rd_T27 l0 x15_1).f3.f2), .int .i64 ((rd_T27 l0 x15_1).f3.f3.f0), .int .i64 ((rd_T27 l0 x15_1).f3.f3.f1), .int .i64 ((rd_T27 l0 x15_1).f3.f3.f2), .int .i64 ((rd_T27 l0 x15_1).f3.f3.f3), .int .i64 ((rd_T27 l0 x15_1).f3.f3.f4), .string ((rd_T27 l0 x15_1).f3.f4), .string ((rd_T27 l0 x15_1).f3.f5), .int .i64 ((rd_T27 l0 x15_1).f3.f6), .int .i64 0]) ?_ 14 _ rfl; (with_reducible repeat (first | refine blk_drewN ?_ _ | refine blk_drew ?_ | refine blk_alloc ?_ _)); refine blk_put (cs := #[.int .i64 ((rd_T27 l0 x15_1).f0), .string ((rd_T27 l0 x15_1).f1), .string ((rd_T27 l0 x15_1).f2), .string ((rd_T27 l0 x15_1).f3.f0), .int .i64 ((rd_T27 l0 x15_1).f3.f1), .int .i64 ((rd_T27 l0 x15_1).f3.f2), .int .i64 ((rd_T27 l0 x15_1).f3.f3.f0), .int .i64 ((rd_T27 l0 x15_1).f3.f3.f1), .int .i64 ((rd_T27 l0 x15_1).f3.f3.f2), .int .i64 ((rd_T27 l0 x15_1).f3.f3.f3), .int .i64 ((rd_T27 l0 x15_1).f3.f3.f4), .string ((rd_T27 l0 x15_1).f3.f4), .string ((rd_T27 l0 x15_1).f3.f5), .int .i64 0, .int .i64 0]) ?_ 13 _ rfl; (with_reducible repeat (first | refine blk_drewN ?_ _ | refine blk_drew ?_ | refine blk_alloc ?_ _)); refine blk_put (cs := #[.int .i64 ((rd_T27 l0 x15_1).f0), .string ((rd_T27 l0 x15_1).f1), .string ((rd_T27 l0 x15_1).f2), .string ((rd_T27 l0 x15_1).f3.f0), .int .i64 ((rd_T27 l0 x15_1).f3.f1), .int .i64 ((rd_T27 l0 x15_1).f3.f2), .int .i64 ((rd_T27 l0 x15_1).f3.f3.f0), .int .i64 ((rd_T27 l0 x15_1).f3.f3.f1), .int .i64 ((rd_T27 l0 x15_1).f3.f3.f2), .int .i64 ((rd_T27 l0 x15_1).f3.f3.f3), .int .i64 ((rd_T27 l0 x15_1).f3.f3.f4), .string ((rd_T27 l0 x15_1).f3.f4), .string (⟨#[]⟩ : ByteArray), .int .i64 0, .int .i64 0]) ?_ 12 _ rfl; (with_reducible repeat (first | refine blk_drewN ?_ _ | refine blk_drew ?_ | refine blk_alloc ?_ _)); refine blk_put (cs := #[.int .i64 ((rd_T27 l0 x15_1).f0), .string ((rd_T27 l0 x15_1).f1), .string ((rd_T27 l0 x15_1).f2), .string ((rd_T27 l0 x15_1).f3.f0), .int .i64 ((rd_T27 l0 x15_1).f3.f1), .int .i64 ((rd_T27 l0 x15_1).f3.f2), .int .i64 ((rd_T27 l0 x15_1).f3.f3.f0), .int .i64 ((rd_T27 l0 x15_1).f3.f3.f1), .int .i64 ((rd_T27 l0 x15_1).f3.f3.f2), .int .i64 ((rd_T27 l0 x15_1).f3.f3.f3), .int .i64 ((rd_T27 l0 x15_1).f3.f3.f4), .string (⟨#[]⟩ : ByteArray), .string (⟨#[]⟩ : ByteArray), .int .i64 0, .int .i64 0]) ?_ 11 _ rfl; (with_reducible repeat (first | refine blk_drewN ?_ _ | refine blk_drew ?_ | refine blk_alloc ?_ _)); refine blk_put (cs := #[.int .i64 ((rd_T27 l0 x15_1).f0), .string ((rd_T27 l0 x15_1).f1), .string ((rd_T27 l0 x15_1).f2), .string ((rd_T27 l0 x15_1).f3.f0), .int .i64 ((rd_T27 l0 x15_1).f3.f1), .int .i64 ((rd_T27 l0 x15_1).f3.f2), .int .i64 ((rd_T27 l0 x15_1).f3.f3.f0), .int .i64 ((rd_T27 l0 x15_1).f3.f3.f1), .int .i64 ((rd_T27 l0 x15_1).f3.f3.f2), .int .i64 ((rd_T27 l0 x15_1).f3.f3.f3), .int .i64 0, .string (⟨#[]⟩ : ByteArray), .string (⟨#[]⟩ : ByteArray), .int .i64 0, .int .i64 0]) ?_ 10 _ rfl; (with_reducible repeat (first | refine blk_drewN ?_ _ | refine blk_drew ?_ | refine blk_alloc ?_ _)); refine blk_put (cs := #[.int .i64 ((rd_T27 l0 x15_1).f0), .string ((rd_T27 l0 x15_1).f1), .string ((rd_T27 l0 x15_1).f2), .string ((rd_T27 l0 x15_1).f3.f0), .int .i64 ((rd_T27 l0 x15_1).f3.f1), .int .i64 ((rd_T27 l0 x15_1).f3.f2), .int .i64 ((rd_T27 l0 x15_1).f3.f3.f0), .int .i64 ((rd_T27 l0 x15_1).f3.f3.f1), .int .i64 ((rd_T27 l0 x15_1).f3.f3.f2), .int .i64 0, .int .i64 0, .string (⟨#[]⟩ : ByteArray), .string (⟨#[]⟩ : ByteArray), .int .i64 0, .int .i64 0]) ?_ 9 _ rfl; (with_reducible repeat (first | refine blk_drewN ?_ _ | refine blk_drew ?_ | refine blk_alloc ?_ _)); refine blk_put (cs := #[.int .i64 ((rd_T27 l0 x15_1).f0), .string ((rd_T27 l0 x15_1).f1), .string ((rd_T27 l0 x15_1).f2), .string ((rd_T27 l0 x15_1).f3.f0), .int .i64 ((rd_T27 l0 x15_1).f3.f1), .int .i64 ((rd_T27 l0 x15_1).f3.f2), .int .i64 ((rd_T27 l0 x15_1).f3.f3.f0), .int .i64 ((rd_T27 l0 x15_1).f3.f3.f1), .int .i64 0, .int .i64 0, .int .i64 0, .string (⟨#[]⟩ : ByteArray), .string (⟨#[]⟩ : ByteArray), .int .i64 0, .int .i64 0]) ?_ 8 _ rfl; (with_reducible repeat (first | refine blk_drewN ?_ _ | refine blk_drew ?_ | refine blk_alloc ?_ _)); refine blk_put (cs := #[.int .i64 ((rd_T27 l0 x15_1).f0), .string ((rd_T27 l0 x15_1).f1), .string ((rd_T27 l0 x15_1).f2), .string ((rd_T27 l0 x15_1).f3.f0), .int .i64 ((rd_T27 l0 x15_1).f3.f1), .int .i64 ((rd_T27 l0 x15_1).f3.f2), .int .i64 ((rd_T27 l0 x15_1).f3.f3.f0), .int .i64 0, .int .i64 0, .int .i64 0, .int .i64 0, .string (⟨#[]⟩ : ByteArray), .string (⟨#[]⟩ : ByteArray), .int .i64 0, .int .i64 0]) ?_ 7 _ rfl; (with_reducible repeat (first | refine blk_drewN ?_ _ | refine blk_drew ?_ | refine blk_alloc ?_ _)); refine blk_put (cs := #[.int .i64 ((rd_T27 l0 x15_1).f0), .string ((rd_T27 l0 x15_1).f1), .string ((rd_T27 l0 x15_1).f2), .string ((rd_T27 l0 x15_1).f3.f0), .int .i64 ((rd_T27 l0 x15_1).f3.f1), .int .i64 ((rd_T27 l0 x15_1).f3.f2), .int .i64 0, .int .i64 0, .int .i64 0, .int .i64 0, .int .i64 0, .string (⟨#[]⟩ : ByteArray), .string (⟨#[]⟩ : ByteArray), .int .i64 0, .int .i64 0]) ?_ 6 _ rfl; (with_reducible repeat (first | refine blk_drewN ?_ _ | refine blk_drew ?_ | refine blk_alloc ?_ _)); refine blk_put (cs := #[.int .i64 ((rd_T27 l0 x15_1).f0), .string ((rd_T27 l0 x15_1).f1), .string ((rd_T27 l0 x15_1).f2), .string ((rd_T27 l0 x15_1).f3.f0), .int .i64 ((rd_T27 l0 x15_1).f3.f1), .int .i64 0, .int .i64 0, .int .i64 0, .int .i64 0, .int .i64 0, .int .i64 0, .string (⟨#[]⟩ : ByteArray), .string (⟨#[]⟩ : ByteArray), .int .i64 0, .int .i64 0]) ?_ 5 _ rfl; (with_reducible repeat (first | refine blk_drewN ?_ _ | refine blk_drew ?_ | refine blk_alloc ?_ _)); refine blk_put (cs := #[.int .i64 ((rd_T27 l0 x15_1).f0), .string ((rd_T27 l0 x15_1).f1), .string ((rd_T27 l0 x15_1).f2), .string ((rd_T27 l0 x15_1).f3.f0), .int .i64 0, .int .i64 0, .int .i64 0, .int .i64 0, .int .i64 0, .int .i64 0, .int .i64 0, .string (⟨#[]⟩ : ByteArray), .string (⟨#[]⟩ : ByteArray), .int .i64 0, .int .i64 0]) ?_ 4 _ rfl; (with_reducible repeat (first | refine blk_drewN ?_ _ | refine blk_drew ?_ | refine blk_alloc ?_ _)); refine blk_put (cs := #[.int .i64 ((rd_T27 l0 x15_1).f0), .string ((rd_T27 l0 x15_1).f1), .string ((rd_T27 l0 x15_1).f2), .string (⟨#[]⟩ : ByteArray), .int .i64 0, .int .i64 0, .int .i64 0, .int .i64 0, .int .i64 0, .int .i64 0, .int .i64 0, .string (⟨#[]⟩ : ByteArray), .string (⟨#[]⟩ : ByteArray), .int .i64 0, .int .i64 0]) ?_ 3 _ rfl; (with_reducible repeat (first | refine blk_drewN ?_ _ | refine blk_drew ?_ | refine blk_alloc ?_ _)); refine blk_put (cs := #[.int .i64 ((rd_T27 l0 x15_1).f0), .string ((rd_T27 l0 x15_1).f1), .string (⟨#[]⟩ : ByteArray), .string (⟨#[]⟩ : ByteArray), .int .i64 0, .int .i64 0, .int .i64 0, .int .i64 0, .int .i64 0, .int .i64 0, .int .i64 0, .string (⟨#[]⟩ : ByteArray), .string (⟨#[]⟩ : ByteArray), .int .i64 0, .int .i64 0]) ?_ 2 _ rfl; (with_reducible repeat (first | refine blk_drewN ?_ _ | refine blk_drew ?_ | refine blk_alloc ?_ _)); refine blk_put (cs := #[.int .i64 ((rd_T27 l0 x15_1).f0), .string (⟨#[]⟩ : ByteArray), .string (⟨#[]⟩ : ByteArray), .string (⟨#[]⟩ : ByteArray), .int .i64 0, .int .i64 0, .int .i64 0, .int .i64 0, .int .i64 0, .int .i64 0, .int .i64 0, .string (⟨#[]⟩ : ByteArray), .string (⟨#[]⟩ : ByteArray), .int .i64 0, .int .i64 0]) ?_ 1 _ rfl; (with_reducible repeat (first | refine blk_drewN ?_ _ | refine blk_drew ?_ | refine blk_alloc ?_ _)); refine blk_put (cs := #[.int .i64 0, .string (⟨#[]⟩ : ByteArray), .string (⟨#[]⟩ : ByteArray), .string (⟨#[]⟩ : ByteArray), .int .i64 0, .int .i64 0, .int .i64 0, .int .i64 0, .int .i64 0, .int .i64 0, .int .i64 0, .string (⟨#[]⟩ : ByteArray), .string (⟨#[]⟩ : ByteArray), .int .i64 0, .int .i64 0]) ?_ 0 _ rfl; (with_reducible repeat (first | refine blk_drewN ?_ _ | refine blk_drew ?_ | refine blk_alloc ?_ _)); exact BK103.out) hb); have n1_ := Aside0.mk (below_step (by repeat (first | (with_reducible first | exact HB.out | apply below_alloc | apply pw_below_drewN | apply below_drew1 | refine below_set ?_ GE103.out) | exact HB.out)) hb); clear BK103; clear HB; have BK103 := n0_; have HB := n1_; clear n0_ n1_; (try clear hb); (try clear hb2); (try clear hk); (try clear hi)) | ((with_reducible refine gate_callee (f := 8) rfl ?_); refine goesL_ (some 22) rfl rfl Try.func8 (by kernel_rfl) rfl #[] rfl (by (try simp only [List.map_toArray, List.map_cons, List.map_nil]); first | done | rfl | (simp only [List.length_drop, List.length_take]; rfl)) ?_; (with_reducible refine (remoralaw28_awake.calls  t105 _ A13.out).mono ?_); rintro e w17 ⟨rfl, hb⟩; refine ⟨_, rfl, ?_⟩; have n0_ := Aside0.mk (blk_below (g := gb103) (o := .cells #[.int .i64 ((rd_T27 l0 x15_1).f0), .string ((rd_T27 l0 x15_1).f1), .string ((rd_T27 l0 x15_1).f2), .string ((rd_T27 l0 x15_1).f3.f0), .int .i64 ((rd_T27 l0 x15_1).f3.f1), .int .i64 ((rd_T27 l0 x15_1).f3.f2), .int .i64 ((rd_T27 l0 x15_1).f3.f3.f0), .int .i64 ((rd_T27 l0 x15_1).f3.f3.f1), .int .i64 ((rd_T27 l0 x15_1).f3.f3.f2), .int .i64 ((rd_T27 l0 x15_1).f3.f3.f3), .int .i64 ((rd_T27 l0 x15_1).f3.f3.f4), .string ((rd_T27 l0 x15_1).f3.f4), .string ((rd_T27 l0 x15_1).f3.f5), .int .i64 ((rd_T27 l0 x15_1).f3.f6), .int .i64 ((rd_T27 l0 x15_1).f4)] 27 (0, 0)) (by (with_reducible repeat (first | refine blk_drewN ?_ _ | refine blk_drew ?_ | refine blk_alloc ?_ _)); exact BK103.out) hb); have n1_ := Aside0.mk (below_step (by repeat (first | (with_reducible first | exact HB.out | apply below_alloc | apply pw_below_drewN | apply below_drew1 | refine below_set ?_ GE103.out) | exact HB.out)) hb); clear BK103; clear HB; have BK103 := n0_; have HB := n1_; clear n0_ n1_; (try clear hb); (try clear hb2); (try clear hk); (try clear hi)))
                go_ret
                exact ⟨by first | rfl | (simp [errW_none, errW_some] <;> rfl) | (simp [*, errW_none, errW_some] <;> rfl), by repeat (first | (with_reducible first | exact HB.out | apply below_alloc | apply pw_below_drewN | apply below_drew1 | refine below_set ?_ GE103.out) | exact HB.out)⟩
            · rw [if_neg c7] at H
              exact absurd H (by simp)
          · rw [if_neg c6] at H
            exact absurd H (by simp)
        · rw [if_neg c5] at H
          have c5b0 : decide (x15_1 < (l0.length : Int)) = false := decide_eq_false c5
          clear c5
          replace H := Option.bind_eq_some_iff.mp H
          obtain ⟨⟨t106, t107⟩, A180, H⟩ := H
          replace H : (remoralaw28_ItemPlain.l1 k1 l0 t106 t107 0 (t106.size : Int) 0) = some r := H
          have A18 := Aside0.mk A180
          clear A180
          have H' := Aside0.mk H
          clear H
          go_wp2_with (first | ((with_reducible refine gate_callee (f := 12) rfl ?_); refine goesL_ (some 26) rfl rfl Try.func12 (by kernel_rfl) rfl #[.slice A0 l0.length c0] rfl (by (try simp only [List.map_toArray, List.map_cons, List.map_nil]); first | done | rfl | (simp only [List.length_drop, List.length_take]; rfl)) ?_; (with_reducible refine (item_Lines.calls k1 _ _ l0 t106 t107 _ ?side1 ?side2 A18.out).mono ?_); (case side1 => repeat (first | exact (Kd.C_below HR0.out HB.out) | (with_reducible refine Kd.C_alloc ?_ _) | (with_reducible refine Kd.C_drewN ?_ _) | (with_reducible refine Kd.C_drew ?_))); (case side2 => exact HC0.out); rintro e w19 ⟨rfl, hb⟩; refine ⟨_, rfl, ?_⟩; have n0_ := Aside0.mk (below_step (by repeat (first | (with_reducible first | exact HB.out | apply below_alloc | apply pw_below_drewN | apply below_drew1) | exact HB.out)) hb); clear HB; have HB := n0_; clear n0_; (try clear hb); (try clear hb2); (try clear hk); (try clear hi)))
          go_loopg [7, 31] k1 (fun kq v7 v31 w' => ∃ (x7_2 : Int) (x31_2 : Int), v7 = .int .i64 x7_2 ∧ v31 = .int .i64 x31_2 ∧ Aside0 (remoralaw28_ItemPlain.l1 kq l0 t106 t107 x7_2 (t106.size : Int) x31_2 = some r) ∧ Aside0 (kq ≤ k1) ∧ Aside0 (Below w.heap.size w w'))
          case atStart => exact ⟨(0), (0), (by first | rfl | (simp; done) | (simp [*]; done)), (by first | rfl | (simp; done) | (simp [*]; done)), H', ⟨Nat.le_refl _⟩, ⟨by repeat (first | (with_reducible first | exact HB.out | apply below_alloc | apply pw_below_drewN | apply below_drew1) | exact HB.out)⟩⟩
          case round =>
            clear H'
            try clear c1
            try clear p1
            try clear q1
            try clear hx1
            try clear c2
            try clear c2b0
            try clear c2b1
            try clear p2
            try clear c5
            try clear c5b0
            try clear c6
            try clear c6b0
            try clear p6
            try clear c7
            try clear c7b0
            try clear c8
            try clear c9
            try clear p10
            try clear q10
            try clear hx10
            try clear c12
            try clear hcz11_0
            try clear hcz11_1
            try clear hcz11_10
            try clear hcz11_11
            try clear hcz11_12
            try clear hcz11_13
            try clear hcz11_14
            try clear hcz11_2
            try clear hcz11_3
            try clear hcz11_4
            try clear hcz11_5
            try clear hcz11_6
            try clear hcz11_7
            try clear hcz11_8
            try clear hcz11_9
            try clear hcz15_0
            try clear hcz15_1
            try clear hcz15_10
            try clear hcz15_11
            try clear hcz15_12
            try clear hcz15_13
            try clear hcz15_14
            try clear hcz15_2
            try clear hcz15_3
            try clear hcz15_4
            try clear hcz15_5
            try clear hcz15_6
            try clear hcz15_7
            try clear hcz15_8
            try clear hcz15_9
            try clear hfz11_0
            try clear hfz11_1
            try clear hfz11_10
            try clear hfz11_11
            try clear hfz11_12
            try clear hfz11_13
            try clear hfz11_14
            try clear hfz11_2
            try clear hfz11_3
            try clear hfz11_4
            try clear hfz11_5
            try clear hfz11_6
            try clear hfz11_7
            try clear hfz11_8
            try clear hfz11_9
            try clear hfz15_0
            try clear hfz15_1
            try clear hfz15_10
            try clear hfz15_11
            try clear hfz15_12
            try clear hfz15_13
            try clear hfz15_14
            try clear hfz15_2
            try clear hfz15_3
            try clear hfz15_4
            try clear hfz15_5
            try clear hfz15_6
            try clear hfz15_7
            try clear hfz15_8
            try clear hfz15_9
            try clear hx102_0
            try clear hx102_1
            try clear hx102_10
            try clear hx102_11
            try clear hx102_12
            try clear hx102_13
            try clear hx102_14
            try clear hx102_2
            try clear hx102_3
            try clear hx102_4
            try clear hx102_5
            try clear hx102_6
            try clear hx102_7
            try clear hx102_8
            try clear hx102_9
            try clear p102
            try clear p2
            try clear q102
            obtain ⟨x7_2, x31_2, rfl, rfl, HA, HK2, HB⟩ := hrel
            cases gk with
            | zero => exact absurd HA.out (by simp [remoralaw28_ItemPlain.l1])
            | succ k2 =>
              have H := HA.out
              clear HA
              simp only [remoralaw28_ItemPlain.l1] at H
              by_cases c20 : x31_2 < (t106.size : Int)
              · rw [if_pos c20] at H
                have c20b0 : decide (x31_2 < (t106.size : Int)) = true := decide_eq_true c20
                clear c20
                by_cases c21 : 0 ≤ x31_2
                · rw [if_pos c21] at H
                  have c21b0 : decide (0 ≤ x31_2) = true := decide_eq_true c21
                  clear c21
                  by_cases c22 : x31_2 < (t106.size : Int)
                  · rw [if_pos c22] at H
                    have c22b0 : decide (x31_2 < (t106.size : Int)) = true := decide_eq_true c22
                    clear c22
                    by_cases c24 : (bt t106 x31_2) = 10
                    · rw [if_pos c24] at H
                      have c24b0 : ((bt t106 x31_2) == 10) = true := beq_iff_eq.mpr c24
                      have c24b1 : ((bt t106 x31_2) != 10) = false := bne_eq_false_iff_eq.mpr c24
                      clear c24
                      have H' := Aside0.mk H
                      clear H
                      have p23 : 0 ≤ (x31_2 : Int) := of_decide_eq_true (by first | (with_reducible assumption) | assumption)
                      have q23 : x31_2 < (t106.size : Int) := of_decide_eq_true (by first | (with_reducible assumption) | assumption)
                      have hx23 := bt_at t106 x31_2
                      replace p23 := eq_true p23
                      replace q23 := eq_true q23
                      go_wp2
                      go_roundg k2
                      case measure => have := HK1.out; have := HK2.out; omega
                      case rel => exact ⟨(wrap64 (x7_2 + 1)), (wrap64 (x31_2 + 1)), (by first | rfl | (simp; done) | (simp [*]; done)), (by first | rfl | (simp; done) | (simp [*]; done)), H', ⟨by have := HK1.out; have := HK2.out; omega⟩, ⟨by repeat (first | (with_reducible first | exact HB.out | apply below_alloc | apply pw_below_drewN | apply below_drew1) | exact HB.out)⟩⟩
                    · rw [if_neg c24] at H
                      have c24b0 : ((bt t106 x31_2) == 10) = false := beq_eq_false_iff_ne.mpr c24
                      have c24b1 : ((bt t106 x31_2) != 10) = true := bne_iff_ne.mpr c24
                      by_cases c26 : (bt t106 x31_2) < 32
                      · rw [if_pos c26] at H
                        have c26b0 : decide ((bt t106 x31_2) < 32) = true := decide_eq_true c26
                        clear c26
                        obtain rfl := Option.some.inj H
                        have p23 : 0 ≤ (x31_2 : Int) := of_decide_eq_true (by first | (with_reducible assumption) | assumption)
                        have q23 : x31_2 < (t106.size : Int) := of_decide_eq_true (by first | (with_reducible assumption) | assumption)
                        have hx23 := bt_at t106 x31_2
                        replace p23 := eq_true p23
                        replace q23 := eq_true q23
                        have p25 : 0 ≤ (x31_2 : Int) := of_decide_eq_true (by first | (with_reducible assumption) | assumption)
                        have q25 : x31_2 < (t106.size : Int) := of_decide_eq_true (by first | (with_reducible assumption) | assumption)
                        have hx25 := bt_at t106 x31_2
                        replace p25 := eq_true p25
                        replace q25 := eq_true q25
                        go_wp2
                        go_ret
                        exact ⟨by first | rfl | (simp [errW_none, errW_some] <;> rfl) | (simp [*, errW_none, errW_some] <;> rfl), by repeat (first | (with_reducible first | exact HB.out | apply below_alloc | apply pw_below_drewN | apply below_drew1) | exact HB.out)⟩
                      · rw [if_neg c26] at H
                        have c26b0 : decide ((bt t106 x31_2) < 32) = false := decide_eq_false c26
                        clear c26
                        by_cases c28 : (bt t106 x31_2) > 126
                        · rw [if_pos c28] at H
                          have c28b0 : decide (126 < (bt t106 x31_2)) = true := decide_eq_true c28
                          clear c28
                          obtain rfl := Option.some.inj H
                          have p23 : 0 ≤ (x31_2 : Int) := of_decide_eq_true (by first | (with_reducible assumption) | assumption)
                          have q23 : x31_2 < (t106.size : Int) := of_decide_eq_true (by first | (with_reducible assumption) | assumption)
                          have hx23 := bt_at t106 x31_2
                          replace p23 := eq_true p23
                          replace q23 := eq_true q23
                          have p25 : 0 ≤ (x31_2 : Int) := of_decide_eq_true (by first | (with_reducible assumption) | assumption)
                          have q25 : x31_2 < (t106.size : Int) := of_decide_eq_true (by first | (with_reducible assumption) | assumption)
                          have hx25 := bt_at t106 x31_2
                          replace p25 := eq_true p25
                          replace q25 := eq_true q25
                          have p27 : 0 ≤ (x31_2 : Int) := of_decide_eq_true (by first | (with_reducible assumption) | assumption)
                          have q27 : x31_2 < (t106.size : Int) := of_decide_eq_true (by first | (with_reducible assumption) | assumption)
                          have hx27 := bt_at t106 x31_2
                          replace p27 := eq_true p27
                          replace q27 := eq_true q27
                          go_wp2
                          go_ret
                          exact ⟨by first | rfl | (simp [errW_none, errW_some] <;> rfl) | (simp [*, errW_none, errW_some] <;> rfl), by repeat (first | (with_reducible first | exact HB.out | apply below_alloc | apply pw_below_drewN | apply below_drew1) | exact HB.out)⟩
                        · rw [if_neg c28] at H
                          have c28b0 : decide (126 < (bt t106 x31_2)) = false := decide_eq_false c28
                          clear c28
                          have H' := Aside0.mk H
                          clear H
                          have p23 : 0 ≤ (x31_2 : Int) := of_decide_eq_true (by first | (with_reducible assumption) | assumption)
                          have q23 : x31_2 < (t106.size : Int) := of_decide_eq_true (by first | (with_reducible assumption) | assumption)
                          have hx23 := bt_at t106 x31_2
                          replace p23 := eq_true p23
                          replace q23 := eq_true q23
                          have p25 : 0 ≤ (x31_2 : Int) := of_decide_eq_true (by first | (with_reducible assumption) | assumption)
                          have q25 : x31_2 < (t106.size : Int) := of_decide_eq_true (by first | (with_reducible assumption) | assumption)
                          have hx25 := bt_at t106 x31_2
                          replace p25 := eq_true p25
                          replace q25 := eq_true q25
                          have p27 : 0 ≤ (x31_2 : Int) := of_decide_eq_true (by first | (with_reducible assumption) | assumption)
                          have q27 : x31_2 < (t106.size : Int) := of_decide_eq_true (by first | (with_reducible assumption) | assumption)
                          have hx27 := bt_at t106 x31_2
                          replace p27 := eq_true p27
                          replace q27 := eq_true q27
                          go_wp2
                          go_roundg k2
                          case measure => have := HK1.out; have := HK2.out; omega
                          case rel => exact ⟨(x7_2), (wrap64 (x31_2 + 1)), (by first | rfl | (simp; done) | (simp [*]; done)), (by first | rfl | (simp; done) | (simp [*]; done)), H', ⟨by have := HK1.out; have := HK2.out; omega⟩, ⟨by repeat (first | (with_reducible first | exact HB.out | apply below_alloc | apply pw_below_drewN | apply below_drew1) | exact HB.out)⟩⟩
                  · rw [if_neg c22] at H
                    exact absurd H (by simp)
                · rw [if_neg c21] at H
                  exact absurd H (by simp)
              · rw [if_neg c20] at H
                have c20b0 : decide (x31_2 < (t106.size : Int)) = false := decide_eq_false c20
                clear c20
                by_cases c29 : t107 = 0
                · rw [if_pos c29] at H
                  have c29b0 : (t107 == 0) = true := beq_iff_eq.mpr c29
                  have c29b1 : (t107 != 0) = false := bne_eq_false_iff_eq.mpr c29
                  clear c29
                  by_cases c30 : x7_2 = (l0.length : Int)
                  · rw [if_pos c30] at H
                    have c30b0 : (x7_2 == (l0.length : Int)) = true := beq_iff_eq.mpr c30
                    have c30b1 : (x7_2 != (l0.length : Int)) = false := bne_eq_false_iff_eq.mpr c30
                    clear c30
                    replace H := Option.bind_eq_some_iff.mp H
                    obtain ⟨t108, A310, H⟩ := H
                    replace H : (some t108) = some r := H
                    have A31 := Aside0.mk A310
                    clear A310
                    obtain rfl := Option.some.inj H
                    go_wp2_with (first | (go_at_call 8; (with_reducible refine (remoralaw28_awake.calls  t108 _ A31.out).mono ?_); rintro e w32 ⟨rfl, hb⟩; have n0_ := Aside0.mk (below_step (by repeat (first | (with_reducible first | exact HB.out | apply below_alloc | apply pw_below_drewN | apply below_drew1) | exact HB.out)) hb); clear HB; have HB := n0_; clear n0_; (try clear hb); (try clear hb2); (try clear hk); (try clear hi)))
                    go_ret
                    exact ⟨by first | rfl | (simp [errW_none, errW_some] <;> rfl) | (simp [*, errW_none, errW_some] <;> rfl), by repeat (first | (with_reducible first | exact HB.out | apply below_alloc | apply pw_below_drewN | apply below_drew1) | exact HB.out)⟩
                  · rw [if_neg c30] at H
                    have c30b0 : (x7_2 == (l0.length : Int)) = false := beq_eq_false_iff_ne.mpr c30
                    have c30b1 : (x7_2 != (l0.length : Int)) = true := bne_iff_ne.mpr c30
                    obtain rfl := Option.some.inj H
                    go_wp2
                    go_ret
                    exact ⟨by first | rfl | (simp [errW_none, errW_some] <;> rfl) | (simp [*, errW_none, errW_some] <;> rfl), by repeat (first | (with_reducible first | exact HB.out | apply below_alloc | apply pw_below_drewN | apply below_drew1) | exact HB.out)⟩
                · rw [if_neg c29] at H
                  have c29b0 : (t107 == 0) = false := beq_eq_false_iff_ne.mpr c29
                  have c29b1 : (t107 != 0) = true := bne_iff_ne.mpr c29
                  by_cases c33 : t106.toList = ([] : List UInt8)
                  · rw [if_pos c33] at H
                    have c33b0 : (t106.toList == ([] : List UInt8)) = true := beq_iff_eq.mpr c33
                    have c33b1 : (t106.toList != ([] : List UInt8)) = false := bne_eq_false_iff_eq.mpr c33
                    clear c33
                    replace H := Option.bind_eq_some_iff.mp H
                    obtain ⟨t109, A340, H⟩ := H
                    replace H : (some t109) = some r := H
                    have A34 := Aside0.mk A340
                    clear A340
                    obtain rfl := Option.some.inj H
                    go_wp2_with (first | (go_at_call 8; (with_reducible refine (remoralaw28_awake.calls  t109 _ A34.out).mono ?_); rintro e w35 ⟨rfl, hb⟩; have n0_ := Aside0.mk (below_step (by repeat (first | (with_reducible first | exact HB.out | apply below_alloc | apply pw_below_drewN | apply below_drew1) | exact HB.out)) hb); clear HB; have HB := n0_; clear n0_; (try clear hb); (try clear hb2); (try clear hk); (try clear hi)))
                    go_ret
                    exact ⟨by first | rfl | (simp [errW_none, errW_some] <;> rfl) | (simp [*, errW_none, errW_some] <;> rfl), by repeat (first | (with_reducible first | exact HB.out | apply below_alloc | apply pw_below_drewN | apply below_drew1) | exact HB.out)⟩
                  · rw [if_neg c33] at H
                    have c33b0 : (t106.toList == ([] : List UInt8)) = false := beq_eq_false_iff_ne.mpr c33
                    have c33b1 : (t106.toList != ([] : List UInt8)) = true := bne_iff_ne.mpr c33
                    obtain rfl := Option.some.inj H
                    go_wp2
                    go_ret
                    exact ⟨by first | rfl | (simp [errW_none, errW_some] <;> rfl) | (simp [*, errW_none, errW_some] <;> rfl), by repeat (first | (with_reducible first | exact HB.out | apply below_alloc | apply pw_below_drewN | apply below_drew1) | exact HB.out)⟩

end Go.Proofs.Ytljpcmpjfklloaa.PA
