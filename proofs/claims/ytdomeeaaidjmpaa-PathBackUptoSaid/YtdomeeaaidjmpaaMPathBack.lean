/- PathBack: for any two texts of bulk at most 1048576 the law returns true and leaves its arguments as they were. -/
import Derived.Test.YtdomeeaaidjmpaaPAx0
import Derived.Test.YtdomeeaaidjmpaaPAfremoraref13Split
import Derived.Test.YtdomeeaaidjmpaaPAfremoraref13clean
import Derived.Test.YtdomeeaaidjmpaaPAfremoraref13glue
import Derived.Test.YtdomeeaaidjmpaaPAfpathRight
import Derived.Test.YtdomeeaaidjmpaaPAfpathpart
import Derived.Test.YtdomeeaaidjmpaaXSplitSpec
import Derived.Test.YtdomeeaaidjmpaaXpathSplit
import Derived.Lib.Join
import Derived.Test.YtdomeeaaidjmpaaXstringsJoin
import Derived.Lib.Bytealg
import Derived.Test.YtdomeeaaidjmpaaPAfremoraref13nought
import Derived.Test.YtdomeeaaidjmpaaPAfpathCommon
import Derived.Test.YtdomeeaaidjmpaaPAfpathDepth
import Derived.Test.YtdomeeaaidjmpaaPAfpathLess
import Derived.Test.YtdomeeaaidjmpaaPAfpathRel
import Derived.Test.YtdomeeaaidjmpaaPAfpathUnder
import Derived.Test.YtdomeeaaidjmpaaPAfremoralaw13awake
import Derived.Test.YtdomeeaaidjmpaaPAfremoraref13Common
import Derived.Test.YtdomeeaaidjmpaaPAfremoraref13Less
import Derived.Test.YtdomeeaaidjmpaaPAfremoraref13Rel
import Derived.Test.YtdomeeaaidjmpaaPAfremoraref13Under
import Derived.Test.YtdomeeaaidjmpaaPAfslicesComparestringstring
import Derived.Test.YtdomeeaaidjmpaaPAfslicesEqualstringstring
import Derived.Test.YtdomeeaaidjmpaaXcmpComparestring
import Derived.Test.YtdomeeaaidjmpaaPAfbytealgLastIndexByteString
import Derived.Test.YtdomeeaaidjmpaaPAfpathBase
import Derived.Test.YtdomeeaaidjmpaaPAfpathParent
import Derived.Test.YtdomeeaaidjmpaaPAfstringsLastIndexByte
import Derived.Test.YtdomeeaaidjmpaaPAfremoraref13Right
import Derived.Test.YtdomeeaaidjmpaaPAfpathClean
import Derived.Test.YtdomeeaaidjmpaaPAfpathJoin
import Derived.Test.YtdomeeaaidjmpaaPAfpathclean
import Derived.Test.YtdomeeaaidjmpaaXstringsIndexByte
import Derived.Below
import Derived.ChangeOld
import Derived.JoinedCond
import Derived.OpenShut
import Derived.ProofKit
import Derived.ShutString
import Derived.Test.YtdomeeaaidjmpaaPAfremoralaw13PathBack
import Derived.Test.YtdomeeaaidjmpaaRows
import Derived.WalkKit
/-! ### YtdomeeaaidjmpaaPAfremoralaw13texts -/
namespace Go.Proofs.Ytdomeeaaidjmpaa.PA
open Go.RowKit Go.Proofs.YtdomeeaaidjmpaaW.PrintWords Go.Proofs.YtdomeeaaidjmpaaW.PrintLast Go.Proofs.YtdomeeaaidjmpaaW.PrintMore
attribute [local go_sem] max2_int min2_int max_two min_two max_three min_three max_four min_four   -- for this text's walks alone
set_option linter.unusedVariables false
set_option linter.unusedSimpArgs false

/-! ### remoralaw13_texts: function 18 -/
def remoralaw13_texts.l0 : Nat → List ByteArray → List ByteArray → Int → Option (Bool)
  | 0, _, _, _ => none
  | k + 1, x0, x1, x5 => if x5 < (x0.length : Int) then (if 0 ≤ x5 then (if x5 < (x1.length : Int) then (if (rdOf ByteArray.empty x0 x5).toList = (rdOf ByteArray.empty x1 x5).toList then (remoralaw13_texts.l0 k x0 x1 (wrap64 (x5 + 1))) else (some false)) else (none)) else (none)) else (some true)
def remoralaw13_texts.f (k : Nat) (l0 : List ByteArray) (l1 : List ByteArray) : Option (Bool) := if (l0.length : Int) = (l1.length : Int) then (remoralaw13_texts.l0 k l0 l1 0) else (some false)
theorem remoralaw13_texts.mono_l : ∀ k, (∀ y0 y1 y2, LeO (remoralaw13_texts.l0 k y0 y1 y2) (remoralaw13_texts.l0 (k + 1) y0 y1 y2))
  | 0 => fun _ _ _ r h => by simp [remoralaw13_texts.l0] at h
  | k + 1 => by
    have ih0 := remoralaw13_texts.mono_l k
    · intro y0 y1 y2
      unfold remoralaw13_texts.l0
      repeat' first
      | (with_reducible exact ih0 _ _ _)
      | (with_reducible exact LeO.refl _)
      | (with_reducible exact LeO.none _)
      | (with_reducible refine LeO.ite ?_ ?_)
      | (with_reducible refine LeO.bind ?_ (fun _ => ?_))
      | exact ih0 _ _ _
      | exact LeO.none _
      | refine LeO.ite ?_ ?_
      | refine LeO.bind ?_ (fun _ => ?_)
theorem remoralaw13_texts.mono : ∀ a0 a1 k, LeO (remoralaw13_texts.f k a0 a1) (remoralaw13_texts.f (k + 1) a0 a1) := by
  intro a0 a1 k
  have ih0 := remoralaw13_texts.mono_l k
  unfold remoralaw13_texts.f
  repeat' first
      | (with_reducible exact ih0 _ _ _)
      | (with_reducible exact LeO.refl _)
      | (with_reducible exact LeO.none _)
      | (with_reducible refine LeO.ite ?_ ?_)
      | (with_reducible refine LeO.bind ?_ (fun _ => ?_))
      | exact ih0 _ _ _
      | exact LeO.none _
      | refine LeO.ite ?_ ?_
      | refine LeO.bind ?_ (fun _ => ?_)
set_option maxHeartbeats 8000000 in
set_option maxRecDepth 100000 in
theorem remoralaw13_texts.calls (k : Nat) (A0 : Option Addr) (c0 : Nat) (l0 : List ByteArray) (A1 : Option Addr) (c1 : Nat) (l1 : List ByteArray) (r : Bool) (w : World) (hr0 : Kd.C Kd.string w A0 l0.length l0) (hc0 : l0.length ≤ c0) (hr1 : Kd.C Kd.string w A1 l1.length l1) (hc1 : l1.length ≤ c1) (h : remoralaw13_texts.f k l0 l1 = some r) :
    Calls Try.prog 18 #[.slice A0 l0.length c0, .slice A1 l1.length c1] w fun e w' => e = .returned (.bool r) ∧ Drawn0 w w' := by
  have HR0 := Aside0.mk hr0
  have HC0 := Aside0.mk hc0
  clear hr0 hc0
  have HR1 := Aside0.mk hr1
  have HC1 := Aside0.mk hc1
  clear hr1 hc1
  have H : (if (l0.length : Int) = (l1.length : Int) then (remoralaw13_texts.l0 k l0 l1 0) else (some false)) = some r := h
  clear h
  by_cases c3 : (l0.length : Int) = (l1.length : Int)
  · rw [if_pos c3] at H
    have c3b0 : ((l0.length : Int) == (l1.length : Int)) = true := beq_iff_eq.mpr c3
    have c3b1 : ((l0.length : Int) != (l1.length : Int)) = false := bne_eq_false_iff_eq.mpr c3
    have c3b2 : (l0.length == l1.length) = true := by first | simpa using c3 | (simp at c3 ⊢; omega)
    clear c3
    have H' := Aside0.mk H
    clear H
    go_enter Try.func18, Try.ntmps18
    go_wp2
    repeat (go_quiet (fail); try go_wp2)
    go_loopg [5] k (fun kq v5 w' => ∃ (x5_1 : Int), v5 = .int .i64 x5_1 ∧ Aside0 (remoralaw13_texts.l0 kq l0 l1 x5_1 = some r) ∧ Aside0 (kq ≤ k) ∧ Drawn0 w w')
    case atStart => exact ⟨(0), (by first | rfl | (simp; done) | (simp [*]; done)), H', ⟨Nat.le_refl _⟩, by repeat (first | exact Drawn0.refl _ | apply Drawn0.step)⟩
    case round =>
      clear H'
      try clear c1
      try clear p2
      try clear c3
      try clear c3b0
      try clear c3b1
      try clear c3b2
      obtain ⟨x5_1, rfl, HA, HK1, ⟨m1, rfl⟩⟩ := hrel
      cases gk with
      | zero => exact absurd HA.out (by simp [remoralaw13_texts.l0])
      | succ k1 =>
        have H := HA.out
        clear HA
        simp only [remoralaw13_texts.l0] at H
        by_cases c4 : x5_1 < (l0.length : Int)
        · rw [if_pos c4] at H
          have c4b0 : decide (x5_1 < (l0.length : Int)) = true := decide_eq_true c4
          clear c4
          by_cases c5 : 0 ≤ x5_1
          · rw [if_pos c5] at H
            have c5b0 : decide (0 ≤ x5_1) = true := decide_eq_true c5
            clear c5
            by_cases c6 : x5_1 < (l1.length : Int)
            · rw [if_pos c6] at H
              have c6b0 : decide (x5_1 < (l1.length : Int)) = true := decide_eq_true c6
              clear c6
              by_cases c7 : (rdOf ByteArray.empty l0 x5_1).toList = (rdOf ByteArray.empty l1 x5_1).toList
              · rw [if_pos c7] at H
                have c7b0 : ((rdOf ByteArray.empty l0 x5_1).toList == (rdOf ByteArray.empty l1 x5_1).toList) = true := beq_iff_eq.mpr c7
                have c7b1 : ((rdOf ByteArray.empty l0 x5_1).toList != (rdOf ByteArray.empty l1 x5_1).toList) = false := bne_eq_false_iff_eq.mpr c7
                clear c7
                have H' := Aside0.mk H
                clear H
                have p101 : 0 ≤ (x5_1 : Int) := of_decide_eq_true (by first | (with_reducible assumption) | assumption)
                have q101 : x5_1 < (l0.length : Int) := of_decide_eq_true (by first | (with_reducible assumption) | assumption)
                obtain ⟨ad101, e101, hx101_0⟩ := Kd.at_string HR0.out x5_1 p101 q101
                cases e101
                replace p101 := eq_true p101
                replace q101 := eq_true q101
                have p102 : 0 ≤ (x5_1 : Int) := of_decide_eq_true (by first | (with_reducible assumption) | assumption)
                have q102 : x5_1 < (l1.length : Int) := of_decide_eq_true (by first | (with_reducible assumption) | assumption)
                obtain ⟨ad102, e102, hx102_0⟩ := Kd.at_string HR1.out x5_1 p102 q102
                cases e102
                replace p102 := eq_true p102
                replace q102 := eq_true q102
                go_wp2
                repeat (go_quiet (fail); try go_wp2)
                go_roundg k1
                case measure => have := HK1.out; omega
                case rel => exact ⟨(wrap64 (x5_1 + 1)), (by first | rfl | (simp; done) | (simp [*]; done)), H', ⟨by have := HK1.out; omega⟩, by repeat (first | exact Drawn0.refl _ | apply Drawn0.step)⟩
              · rw [if_neg c7] at H
                have c7b0 : ((rdOf ByteArray.empty l0 x5_1).toList == (rdOf ByteArray.empty l1 x5_1).toList) = false := beq_eq_false_iff_ne.mpr c7
                have c7b1 : ((rdOf ByteArray.empty l0 x5_1).toList != (rdOf ByteArray.empty l1 x5_1).toList) = true := bne_iff_ne.mpr c7
                obtain rfl := Option.some.inj H
                have p101 : 0 ≤ (x5_1 : Int) := of_decide_eq_true (by first | (with_reducible assumption) | assumption)
                have q101 : x5_1 < (l0.length : Int) := of_decide_eq_true (by first | (with_reducible assumption) | assumption)
                obtain ⟨ad101, e101, hx101_0⟩ := Kd.at_string HR0.out x5_1 p101 q101
                cases e101
                replace p101 := eq_true p101
                replace q101 := eq_true q101
                have p102 : 0 ≤ (x5_1 : Int) := of_decide_eq_true (by first | (with_reducible assumption) | assumption)
                have q102 : x5_1 < (l1.length : Int) := of_decide_eq_true (by first | (with_reducible assumption) | assumption)
                obtain ⟨ad102, e102, hx102_0⟩ := Kd.at_string HR1.out x5_1 p102 q102
                cases e102
                replace p102 := eq_true p102
                replace q102 := eq_true q102
                go_wp2
                repeat (go_quiet (fail); try go_wp2)
                go_ret
                exact ⟨by first | rfl | (simp; done) | (simp [*]; done), by repeat (first | exact Drawn0.refl _ | apply Drawn0.step)⟩
            · rw [if_neg c6] at H
              exact absurd H (by simp)
          · rw [if_neg c5] at H
            exact absurd H (by simp)
        · rw [if_neg c4] at H
          have c4b0 : decide (x5_1 < (l0.length : Int)) = false := decide_eq_false c4
          clear c4
          obtain rfl := Option.some.inj H
          go_wp2
          repeat (go_quiet (fail); try go_wp2)
          go_ret
          exact ⟨by first | rfl | (simp; done) | (simp [*]; done), by repeat (first | exact Drawn0.refl _ | apply Drawn0.step)⟩
  · rw [if_neg c3] at H
    have c3b0 : ((l0.length : Int) == (l1.length : Int)) = false := beq_eq_false_iff_ne.mpr c3
    have c3b1 : ((l0.length : Int) != (l1.length : Int)) = true := bne_iff_ne.mpr c3
    have c3b2 : (l0.length == l1.length) = false := by first | simpa using c3 | (simp at c3 ⊢; omega)
    obtain rfl := Option.some.inj H
    go_enter Try.func18, Try.ntmps18
    go_wp2
    repeat (go_quiet (fail); try go_wp2)
    go_ret
    exact ⟨by first | rfl | (simp; done) | (simp [*]; done), by repeat (first | exact Drawn0.refl _ | apply Drawn0.step)⟩

end Go.Proofs.Ytdomeeaaidjmpaa.PA
/-! ### YtdomeeaaidjmpaaPAfremoraref13Base -/
namespace Go.Proofs.Ytdomeeaaidjmpaa.PA
open Go.RowKit Go.Proofs.YtdomeeaaidjmpaaW.PrintWords Go.Proofs.YtdomeeaaidjmpaaW.PrintLast Go.Proofs.YtdomeeaaidjmpaaW.PrintMore
attribute [local go_sem] max2_int min2_int max_two min_two max_three min_three max_four min_four   -- for this text's walks alone
set_option linter.unusedVariables false
set_option linter.unusedSimpArgs false

/-! ### remoraref13_Base: function 31 -/
def remoraref13_Base.f (k : Nat) (a0 : ByteArray) : Option (ByteArray) := (remoraref13_Split.f k a0).bind fun t101 => (if (t101.length : Int) = 0 then (some (⟨#[]⟩ : ByteArray)) else (if 0 ≤ (wrap64 ((t101.length : Int) - 1)) then (if (wrap64 ((t101.length : Int) - 1)) < (t101.length : Int) then (some (rdOf ByteArray.empty t101 (wrap64 ((t101.length : Int) - 1)))) else (none)) else (none)))
theorem remoraref13_Base.mono : ∀ a0 k, LeO (remoraref13_Base.f k a0) (remoraref13_Base.f (k + 1) a0) := by
  intro a0 k
  unfold remoraref13_Base.f
  repeat' first
      | (with_reducible exact remoraref13_Split.mono _ _)
      | (with_reducible exact LeO.refl _)
      | (with_reducible exact LeO.none _)
      | (with_reducible refine LeO.ite ?_ ?_)
      | (with_reducible refine LeO.bind ?_ (fun _ => ?_))
      | exact remoraref13_Split.mono _ _
      | exact LeO.none _
      | refine LeO.ite ?_ ?_
      | refine LeO.bind ?_ (fun _ => ?_)
set_option maxHeartbeats 8000000 in
set_option maxRecDepth 100000 in
theorem remoraref13_Base.calls (k : Nat) (a0 : ByteArray) (r : ByteArray) (w : World) (h : remoraref13_Base.f k a0 = some r) :
    Calls Try.prog 31 #[.string a0] w fun e w' => e = .returned (.string r) ∧ Below w.heap.size w w' := by
  have HB := Aside0.mk (Below.refl w.heap.size w)
  have H : ((remoraref13_Split.f k a0).bind fun t101 => (if (t101.length : Int) = 0 then (some (⟨#[]⟩ : ByteArray)) else (if 0 ≤ (wrap64 ((t101.length : Int) - 1)) then (if (wrap64 ((t101.length : Int) - 1)) < (t101.length : Int) then (some (rdOf ByteArray.empty t101 (wrap64 ((t101.length : Int) - 1)))) else (none)) else (none)))) = some r := h
  clear h
  replace H := Option.bind_eq_some_iff.mp H
  obtain ⟨t101, A20, H⟩ := H
  replace H : (if (t101.length : Int) = 0 then (some (⟨#[]⟩ : ByteArray)) else (if 0 ≤ (wrap64 ((t101.length : Int) - 1)) then (if (wrap64 ((t101.length : Int) - 1)) < (t101.length : Int) then (some (rdOf ByteArray.empty t101 (wrap64 ((t101.length : Int) - 1)))) else (none)) else (none))) = some r := H
  have A2 := Aside0.mk A20
  clear A20
  by_cases c3 : (t101.length : Int) = 0
  · rw [if_pos c3] at H
    have c3b0 : ((t101.length : Int) == 0) = true := beq_iff_eq.mpr c3
    have c3b1 : ((t101.length : Int) != 0) = false := bne_eq_false_iff_eq.mpr c3
    clear c3
    obtain rfl := Option.some.inj H
    go_enter Try.func31, Try.ntmps31
    go_wp2_with (first | ((with_reducible refine gate_callee (f := 29) rfl ?_); refine goesL_ (some 5) rfl rfl Try.func29 (by kernel_rfl) rfl #[.string a0] rfl (by (try simp only [List.map_toArray, List.map_cons, List.map_nil]); first | done | rfl | (simp only [List.length_drop, List.length_take]; rfl)) ?_; (with_reducible refine (remoraref13_Split.calls k a0 t101 _ A2.out).mono ?_); rintro e w4 ⟨v102, rfl, ho0, hb⟩; refine ⟨_, rfl, ?_⟩; have n0_ := Aside0.mk (Kd.R_lower ho0 (below_size (by repeat (first | (with_reducible first | exact HB.out | apply below_alloc | apply pw_below_drewN | apply below_drew1) | exact HB.out)))); have n1_ := Aside0.mk (below_step (by repeat (first | (with_reducible first | exact HB.out | apply below_alloc | apply pw_below_drewN | apply below_drew1) | exact HB.out)) hb); clear HB; have HO103 := n0_; have HB := n1_; clear n0_ n1_; (try clear hb); (try clear hb2); (try clear hk); (try clear hi); (try clear ho0); obtain ⟨Ao5, co5, eo5⟩ := Kd.R_slice HO103.out; subst eo5))
    go_ret
    exact ⟨by first | rfl | (simp [errW_none, errW_some] <;> rfl) | (simp [*, errW_none, errW_some] <;> rfl), by repeat (first | (with_reducible first | exact HB.out | apply below_alloc | apply pw_below_drewN | apply below_drew1) | exact HB.out)⟩
  · rw [if_neg c3] at H
    have c3b0 : ((t101.length : Int) == 0) = false := beq_eq_false_iff_ne.mpr c3
    have c3b1 : ((t101.length : Int) != 0) = true := bne_iff_ne.mpr c3
    have c3b2 : ¬ (t101 = []) := fun h_ => c3 (by rw [h_]; rfl)
    obtain ⟨ji6, hji6⟩ : ∃ j_ : Int, (wrap64 ((t101.length : Int) - 1)) = j_ := ⟨_, rfl⟩
    replace H : (if 0 ≤ (ji6) then (if (ji6) < (t101.length : Int) then (some (rdOf ByteArray.empty t101 (ji6))) else (none)) else (none)) = some r := by first | (rw [hji6] at H; exact H) | (simp only [hji6] at H ⊢; exact H)
    (try rw [hji6] at A2)
    have hji6w : (IntKind.i64.wrap ((t101.length : Int) - 1)) = ji6 := (i64_w _).trans hji6
    by_cases c7 : 0 ≤ (ji6)
    · rw [if_pos c7] at H
      have c7b0 : decide (0 ≤ (ji6)) = true := decide_eq_true c7
      clear c7
      by_cases c8 : (ji6) < (t101.length : Int)
      · rw [if_pos c8] at H
        have c8b0 : decide ((ji6) < (t101.length : Int)) = true := decide_eq_true c8
        clear c8
        obtain rfl := Option.some.inj H
        go_enter Try.func31, Try.ntmps31
        go_wp2_with (first | ((with_reducible refine gate_callee (f := 29) rfl ?_); refine goesL_ (some 5) rfl rfl Try.func29 (by kernel_rfl) rfl #[.string a0] rfl (by (try simp only [List.map_toArray, List.map_cons, List.map_nil]); first | done | rfl | (simp only [List.length_drop, List.length_take]; rfl)) ?_; (with_reducible refine (remoraref13_Split.calls k a0 t101 _ A2.out).mono ?_); rintro e w9 ⟨v102, rfl, ho0, hb⟩; refine ⟨_, rfl, ?_⟩; have n0_ := Aside0.mk (Kd.R_lower ho0 (below_size (by repeat (first | (with_reducible first | exact HB.out | apply below_alloc | apply pw_below_drewN | apply below_drew1) | exact HB.out)))); have n1_ := Aside0.mk (below_step (by repeat (first | (with_reducible first | exact HB.out | apply below_alloc | apply pw_below_drewN | apply below_drew1) | exact HB.out)) hb); clear HB; have HO103 := n0_; have HB := n1_; clear n0_ n1_; (try clear hb); (try clear hb2); (try clear hk); (try clear hi); (try clear ho0); obtain ⟨Ao10, co10, eo10⟩ := Kd.R_slice HO103.out; subst eo10; have p104 : 0 ≤ ((ji6) : Int) := of_decide_eq_true (by first | (with_reducible assumption) | assumption); have q104 : (ji6) < (t101.length : Int) := of_decide_eq_true (by first | (with_reducible assumption) | assumption); obtain ⟨ad104, e104, hx104_0⟩ := Kd.at_string (Kd.R_reads' HO103.out).2.2 (ji6) p104 q104; cases e104; replace p104 := eq_true p104; replace q104 := eq_true q104))
        go_ret
        exact ⟨by first | rfl | (simp [errW_none, errW_some] <;> rfl) | (simp only [← hji6]; first | rfl | (simp [errW_none, errW_some] <;> rfl)) | (simp [*, errW_none, errW_some] <;> rfl), by repeat (first | (with_reducible first | exact HB.out | apply below_alloc | apply pw_below_drewN | apply below_drew1) | exact HB.out)⟩
      · rw [if_neg c8] at H
        exact absurd H (by simp)
    · rw [if_neg c7] at H
      exact absurd H (by simp)

end Go.Proofs.Ytdomeeaaidjmpaa.PA
/-! ### YtdomeeaaidjmpaaPAfremoraref13Clean -/
namespace Go.Proofs.Ytdomeeaaidjmpaa.PA
open Go.RowKit Go.Proofs.YtdomeeaaidjmpaaW.PrintWords Go.Proofs.YtdomeeaaidjmpaaW.PrintLast Go.Proofs.YtdomeeaaidjmpaaW.PrintMore
attribute [local go_sem] max2_int min2_int max_two min_two max_three min_three max_four min_four   -- for this text's walks alone
set_option linter.unusedVariables false
set_option linter.unusedSimpArgs false

/-! ### remoraref13_Clean: function 15 -/
def remoraref13_Clean.f (k : Nat) (a0 : ByteArray) : Option (ByteArray × Int) := (remoraref13_Split.f k a0).bind fun t101 => ((remoraref13_clean.f k t101).bind fun bt104 => (some (bt104.1, bt104.2)))
theorem remoraref13_Clean.mono : ∀ a0 k, LeO (remoraref13_Clean.f k a0) (remoraref13_Clean.f (k + 1) a0) := by
  intro a0 k
  unfold remoraref13_Clean.f
  repeat' first
      | (with_reducible exact remoraref13_Split.mono _ _)
      | (with_reducible exact remoraref13_clean.mono _ _)
      | (with_reducible exact LeO.refl _)
      | (with_reducible exact LeO.none _)
      | (with_reducible refine LeO.ite ?_ ?_)
      | (with_reducible refine LeO.bind ?_ (fun _ => ?_))
      | exact remoraref13_Split.mono _ _
      | exact remoraref13_clean.mono _ _
      | exact LeO.none _
      | refine LeO.ite ?_ ?_
      | refine LeO.bind ?_ (fun _ => ?_)
set_option maxHeartbeats 8000000 in
set_option maxRecDepth 100000 in
theorem remoraref13_Clean.calls (k : Nat) (a0 : ByteArray) (r1 : ByteArray) (r2 : Int) (w : World) (h : remoraref13_Clean.f k a0 = some (r1, r2)) :
    Calls Try.prog 15 #[.string a0] w fun e w' => e = .returned (.tuple #[.string r1, .int .i64 r2]) ∧ Below w.heap.size w w' := by
  have HB := Aside0.mk (Below.refl w.heap.size w)
  have H : ((remoraref13_Split.f k a0).bind fun t101 => ((remoraref13_clean.f k t101).bind fun bt104 => (some (bt104.1, bt104.2)))) = some (r1, r2) := h
  clear h
  replace H := Option.bind_eq_some_iff.mp H
  obtain ⟨t101, A20, H⟩ := H
  replace H : ((remoraref13_clean.f k t101).bind fun bt104 => (some (bt104.1, bt104.2))) = some (r1, r2) := H
  have A2 := Aside0.mk A20
  clear A20
  replace H := Option.bind_eq_some_iff.mp H
  obtain ⟨⟨t104, t105⟩, A30, H⟩ := H
  replace H : (some (t104, t105)) = some (r1, r2) := H
  have A3 := Aside0.mk A30
  clear A30
  simp only [Option.some.injEq, Prod.mk.injEq] at H
  obtain ⟨rfl, rfl⟩ := H
  go_enter Try.func15, Try.ntmps15
  go_wp2_with (first | ((with_reducible refine gate_callee (f := 29) rfl ?_); refine goesL_ (some 5) rfl rfl Try.func29 (by kernel_rfl) rfl #[.string a0] rfl (by (try simp only [List.map_toArray, List.map_cons, List.map_nil]); first | done | rfl | (simp only [List.length_drop, List.length_take]; rfl)) ?_; (with_reducible refine (remoraref13_Split.calls k a0 t101 _ A2.out).mono ?_); rintro e w4 ⟨v102, rfl, ho0, hb⟩; refine ⟨_, rfl, ?_⟩; have n0_ := Aside0.mk (Kd.R_lower ho0 (below_size (by repeat (first | (with_reducible first | exact HB.out | apply below_alloc | apply pw_below_drewN | apply below_drew1) | exact HB.out)))); have n1_ := Aside0.mk (below_step (by repeat (first | (with_reducible first | exact HB.out | apply below_alloc | apply pw_below_drewN | apply below_drew1) | exact HB.out)) hb); clear HB; have HO103 := n0_; have HB := n1_; clear n0_ n1_; (try clear hb); (try clear hb2); (try clear hk); (try clear hi); (try clear ho0); obtain ⟨Ao5, co5, eo5⟩ := Kd.R_slice HO103.out; subst eo5) | ((with_reducible refine gate_callee (f := 38) rfl ?_); refine goesL_ (some 6) rfl rfl Try.func38 (by kernel_rfl) rfl #[.slice Ao5 t101.length co5] rfl (by (try simp only [List.map_toArray, List.map_cons, List.map_nil]); first | done | rfl | (simp only [List.length_drop, List.length_take]; rfl)) ?_; (with_reducible refine (remoraref13_clean.calls k _ _ t101 t104 t105 _ ?side1 ?side2 A3.out).mono ?_); (case side1 => repeat (first | exact (Kd.R_reads' HO103.out).2.2 | (with_reducible refine Kd.C_alloc ?_ _) | (with_reducible refine Kd.C_drewN ?_ _) | (with_reducible refine Kd.C_drew ?_))); (case side2 => exact (Kd.R_reads' HO103.out).2.1); rintro e w6 ⟨rfl, hb⟩; refine ⟨_, rfl, ?_⟩; have n0_ := Aside0.mk (Kd.R_below (by (with_reducible repeat (first | apply Kd.R_alloc | apply Kd.R_drewN | apply Kd.R_drew)); exact HO103.out) hb); have n1_ := Aside0.mk (below_step (by repeat (first | (with_reducible first | exact HB.out | apply below_alloc | apply pw_below_drewN | apply below_drew1) | exact HB.out)) hb); clear HO103; clear HB; have HO103 := n0_; have HB := n1_; clear n0_ n1_; (try clear hb); (try clear hb2); (try clear hk); (try clear hi)))
  go_ret2
  exact ⟨by first | rfl | (simp [errW_none, errW_some] <;> rfl) | (simp [*, errW_none, errW_some] <;> rfl), by repeat (first | (with_reducible first | exact HB.out | apply below_alloc | apply pw_below_drewN | apply below_drew1) | exact HB.out)⟩

end Go.Proofs.Ytdomeeaaidjmpaa.PA
/-! ### YtdomeeaaidjmpaaPAfremoraref13Depth -/
namespace Go.Proofs.Ytdomeeaaidjmpaa.PA
open Go.RowKit Go.Proofs.YtdomeeaaidjmpaaW.PrintWords Go.Proofs.YtdomeeaaidjmpaaW.PrintLast Go.Proofs.YtdomeeaaidjmpaaW.PrintMore
attribute [local go_sem] max2_int min2_int max_two min_two max_three min_three max_four min_four   -- for this text's walks alone
set_option linter.unusedVariables false
set_option linter.unusedSimpArgs false

/-! ### remoraref13_Depth: function 34 -/
def remoraref13_Depth.f (k : Nat) (a0 : ByteArray) : Option (Int) := (remoraref13_Split.f k a0).bind fun t101 => (some (t101.length : Int))
theorem remoraref13_Depth.mono : ∀ a0 k, LeO (remoraref13_Depth.f k a0) (remoraref13_Depth.f (k + 1) a0) := by
  intro a0 k
  unfold remoraref13_Depth.f
  repeat' first
      | (with_reducible exact remoraref13_Split.mono _ _)
      | (with_reducible exact LeO.refl _)
      | (with_reducible exact LeO.none _)
      | (with_reducible refine LeO.ite ?_ ?_)
      | (with_reducible refine LeO.bind ?_ (fun _ => ?_))
      | exact remoraref13_Split.mono _ _
      | exact LeO.none _
      | refine LeO.ite ?_ ?_
      | refine LeO.bind ?_ (fun _ => ?_)
set_option maxHeartbeats 8000000 in
set_option maxRecDepth 100000 in
theorem remoraref13_Depth.calls (k : Nat) (a0 : ByteArray) (r : Int) (w : World) (h : remoraref13_Depth.f k a0 = some r) :
    Calls Try.prog 34 #[.string a0] w fun e w' => e = .returned (.int .i64 r) ∧ Below w.heap.size w w' := by
  have HB := Aside0.mk (Below.refl w.heap.size w)
  have H : ((remoraref13_Split.f k a0).bind fun t101 => (some (t101.length : Int))) = some r := h
  clear h
  replace H := Option.bind_eq_some_iff.mp H
  obtain ⟨t101, A20, H⟩ := H
  replace H : (some (t101.length : Int)) = some r := H
  have A2 := Aside0.mk A20
  clear A20
  obtain rfl := Option.some.inj H
  go_enter Try.func34, Try.ntmps34
  go_wp2_with (first | ((with_reducible refine gate_callee (f := 29) rfl ?_); refine goesL_ (some 4) rfl rfl Try.func29 (by kernel_rfl) rfl #[.string a0] rfl (by (try simp only [List.map_toArray, List.map_cons, List.map_nil]); first | done | rfl | (simp only [List.length_drop, List.length_take]; rfl)) ?_; (with_reducible refine (remoraref13_Split.calls k a0 t101 _ A2.out).mono ?_); rintro e w3 ⟨v102, rfl, ho0, hb⟩; refine ⟨_, rfl, ?_⟩; have n0_ := Aside0.mk (Kd.R_lower ho0 (below_size (by repeat (first | (with_reducible first | exact HB.out | apply below_alloc | apply pw_below_drewN | apply below_drew1) | exact HB.out)))); have n1_ := Aside0.mk (below_step (by repeat (first | (with_reducible first | exact HB.out | apply below_alloc | apply pw_below_drewN | apply below_drew1) | exact HB.out)) hb); clear HB; have HO103 := n0_; have HB := n1_; clear n0_ n1_; (try clear hb); (try clear hb2); (try clear hk); (try clear hi); (try clear ho0); obtain ⟨Ao4, co4, eo4⟩ := Kd.R_slice HO103.out; subst eo4))
  go_ret
  exact ⟨by first | rfl | (simp [errW_none, errW_some] <;> rfl) | (simp [*, errW_none, errW_some] <;> rfl), by repeat (first | (with_reducible first | exact HB.out | apply below_alloc | apply pw_below_drewN | apply below_drew1) | exact HB.out)⟩

end Go.Proofs.Ytdomeeaaidjmpaa.PA
/-! ### YtdomeeaaidjmpaaPAfremoraref13Join -/
namespace Go.Proofs.Ytdomeeaaidjmpaa.PA
open Go.RowKit Go.Proofs.YtdomeeaaidjmpaaW.PrintWords Go.Proofs.YtdomeeaaidjmpaaW.PrintLast Go.Proofs.YtdomeeaaidjmpaaW.PrintMore
attribute [local go_sem] max2_int min2_int max_two min_two max_three min_three max_four min_four   -- for this text's walks alone
set_option linter.unusedVariables false
set_option linter.unusedSimpArgs false

/-! ### remoraref13_Join: function 13 -/
def remoraref13_Join.l0 : Nat → List ByteArray → List ByteArray → Int → Option (ByteArray × Int)
  | 0, _, _, _ => none
  | k + 1, x0, x4, x5 => if x5 < (x0.length : Int) then (if 0 ≤ x5 then ((remoraref13_Split.f k (rdOf ByteArray.empty x0 x5)).bind fun t102 => (if x4.length + t102.length < 8796093022208 then (remoraref13_Join.l0 k x0 (x4 ++ t102) (wrap64 (x5 + 1))) else (none))) else (none)) else ((remoraref13_clean.f k x4).bind fun bt108 => (some (bt108.1, bt108.2)))
def remoraref13_Join.f (k : Nat) (l0 : List ByteArray) : Option (ByteArray × Int) := remoraref13_Join.l0 k l0 ([] : List ByteArray) 0
theorem remoraref13_Join.mono_l : ∀ k, (∀ y0 y1 y2, LeO (remoraref13_Join.l0 k y0 y1 y2) (remoraref13_Join.l0 (k + 1) y0 y1 y2))
  | 0 => fun _ _ _ r h => by simp [remoraref13_Join.l0] at h
  | k + 1 => by
    have ih0 := remoraref13_Join.mono_l k
    · intro y0 y1 y2
      unfold remoraref13_Join.l0
      repeat' first
      | (with_reducible exact ih0 _ _ _)
      | (with_reducible exact remoraref13_Split.mono _ _)
      | (with_reducible exact remoraref13_clean.mono _ _)
      | (with_reducible exact LeO.refl _)
      | (with_reducible exact LeO.none _)
      | (with_reducible refine LeO.ite ?_ ?_)
      | (with_reducible refine LeO.bind ?_ (fun _ => ?_))
      | exact ih0 _ _ _
      | exact remoraref13_Split.mono _ _
      | exact remoraref13_clean.mono _ _
      | exact LeO.none _
      | refine LeO.ite ?_ ?_
      | refine LeO.bind ?_ (fun _ => ?_)
theorem remoraref13_Join.mono : ∀ a0 k, LeO (remoraref13_Join.f k a0) (remoraref13_Join.f (k + 1) a0) := by
  intro a0 k
  have ih0 := remoraref13_Join.mono_l k
  unfold remoraref13_Join.f
  repeat' first
      | (with_reducible exact ih0 _ _ _)
      | (with_reducible exact remoraref13_Split.mono _ _)
      | (with_reducible exact remoraref13_clean.mono _ _)
      | (with_reducible exact LeO.refl _)
      | (with_reducible exact LeO.none _)
      | (with_reducible refine LeO.ite ?_ ?_)
      | (with_reducible refine LeO.bind ?_ (fun _ => ?_))
      | exact ih0 _ _ _
      | exact remoraref13_Split.mono _ _
      | exact remoraref13_clean.mono _ _
      | exact LeO.none _
      | refine LeO.ite ?_ ?_
      | refine LeO.bind ?_ (fun _ => ?_)
set_option maxHeartbeats 8000000 in
set_option maxRecDepth 100000 in
theorem remoraref13_Join.calls (k : Nat) (A0 : Option Addr) (c0 : Nat) (l0 : List ByteArray) (r1 : ByteArray) (r2 : Int) (w : World) (hr0 : Kd.C Kd.string w A0 l0.length l0) (hc0 : l0.length ≤ c0) (h : remoraref13_Join.f k l0 = some (r1, r2)) :
    Calls Try.prog 13 #[.slice A0 l0.length c0] w fun e w' => e = .returned (.tuple #[.string r1, .int .i64 r2]) ∧ Below w.heap.size w w' := by
  have HR0 := Aside0.mk hr0
  have HC0 := Aside0.mk hc0
  clear hr0 hc0
  have HB := Aside0.mk (Below.refl w.heap.size w)
  have H : (remoraref13_Join.l0 k l0 ([] : List ByteArray) 0) = some (r1, r2) := h
  clear h
  have H' := Aside0.mk H
  clear H
  go_enter Try.func13, Try.ntmps13
  go_wp2
  go_loopg [4, 5] k (fun kq v4 v5 w' => ∃ (x4_1 : List ByteArray) (x5_1 : Int), v5 = .int .i64 x5_1 ∧ Aside0 (remoraref13_Join.l0 kq l0 x4_1 x5_1 = some (r1, r2)) ∧ Aside0 (kq ≤ k) ∧ Aside0 (Kd.R Kd.string 9 w' w.heap.size (fun _ => True) v4 x4_1) ∧ Aside0 (Below w.heap.size w w'))
  case atStart => exact ⟨(([] : List ByteArray)), (0), (by first | rfl | (simp; done) | (simp [*]; done)), H', ⟨Nat.le_refl _⟩, ⟨by first | exact Kd.R_nil _ _ _ _ _ | exact Kd.N_nil _ _ _ _ _ | exact Kd.V_nil _ _ _ _ _ | exact Kd.Q_nil _ _ _ _ _ | exact Kd.S_nil _ _ _ _ _⟩, ⟨by repeat (first | (with_reducible first | exact HB.out | apply below_alloc | apply pw_below_drewN | apply below_drew1) | exact HB.out)⟩⟩
  case round =>
    clear H'
    try clear c1
    obtain ⟨x4_1, x5_1, rfl, HA, HK1, HO_4, HB⟩ := hrel
    cases gk with
    | zero => exact absurd HA.out (by simp [remoraref13_Join.l0])
    | succ k1 =>
      have H := HA.out
      clear HA
      simp only [remoraref13_Join.l0] at H
      by_cases c2 : x5_1 < (l0.length : Int)
      · rw [if_pos c2] at H
        have c2b0 : decide (x5_1 < (l0.length : Int)) = true := decide_eq_true c2
        clear c2
        by_cases c3 : 0 ≤ x5_1
        · rw [if_pos c3] at H
          have c3b0 : decide (0 ≤ x5_1) = true := decide_eq_true c3
          clear c3
          replace H := Option.bind_eq_some_iff.mp H
          obtain ⟨t102, A40, H⟩ := H
          replace H : (if x4_1.length + t102.length < 8796093022208 then (remoraref13_Join.l0 k1 l0 (x4_1 ++ t102) (wrap64 (x5_1 + 1))) else (none)) = some (r1, r2) := H
          have A4 := Aside0.mk A40
          clear A40
          by_cases c5 : x4_1.length + t102.length < 8796093022208
          · rw [if_pos c5] at H
            have LMc5 := Aside0.mk c5
            clear c5
            obtain ⟨y105, hy105⟩ : ∃ y_ : List ByteArray, y_ = (x4_1 ++ t102) := ⟨_, rfl⟩
            replace H : (remoraref13_Join.l0 k1 l0 y105 (wrap64 (x5_1 + 1))) = some (r1, r2) := by first | (rw [hy105]; with_reducible exact H) | (have H2_ := (Option.bind_some _ _).symm.trans H; rw [hy105]; with_reducible exact H2_) | (have H2_ := (Option.bind_some _ _).symm.trans H; with_reducible exact H2_) | with_reducible exact H | (rw [hy105]; exact H) | exact H
            have Ny105 := Aside0.mk hy105
            clear hy105
            have H' := Aside0.mk H
            clear H
            have p101 : 0 ≤ (x5_1 : Int) := of_decide_eq_true (by first | (with_reducible assumption) | assumption)
            have q101 : x5_1 < (l0.length : Int) := of_decide_eq_true (by first | (with_reducible assumption) | assumption)
            obtain ⟨ad101, e101, hx101_0⟩ := Kd.at_string HR0.out x5_1 p101 q101
            cases e101
            replace hx101_0 := (HB.out.cell (World.block_lt_of_cell? w _ hx101_0)).trans hx101_0
            replace p101 := eq_true p101
            replace q101 := eq_true q101
            go_wp2_with (first | ((with_reducible refine gate_callee (f := 29) rfl ?_); refine goesL_ (some 17) rfl rfl Try.func29 (by kernel_rfl) rfl #[.string (rdOf ByteArray.empty l0 x5_1)] rfl (by (try simp only [List.map_toArray, List.map_cons, List.map_nil]); first | done | rfl | (simp only [List.length_drop, List.length_take]; rfl)) ?_; (with_reducible refine (remoraref13_Split.calls k1 (rdOf ByteArray.empty l0 x5_1) t102 _ A4.out).mono ?_); rintro e w6 ⟨v103, rfl, ho0, hb⟩; refine ⟨_, rfl, ?_⟩; have n0_ := Aside0.mk (Kd.R_elder' (by (with_reducible repeat (first | apply Kd.R_alloc | apply Kd.R_drewN | apply Kd.R_drew)); exact HO_4.out) (Kd.R_base ho0) hb); have n1_ := Aside0.mk (Kd.R_lower (Kd.R_new' ho0 (Kd.R_lt (by (with_reducible repeat (first | apply Kd.R_alloc | apply Kd.R_drewN | apply Kd.R_drew)); exact HO_4.out))) (below_size (by repeat (first | (with_reducible first | exact HB.out | apply below_alloc | apply pw_below_drewN | apply below_drew1) | exact HB.out)))); have n2_ := Aside0.mk (below_step (by repeat (first | (with_reducible first | exact HB.out | apply below_alloc | apply pw_below_drewN | apply below_drew1) | exact HB.out)) hb); clear HO_4; clear HB; have HO_4 := n0_; have HO104 := n1_; have HB := n2_; clear n0_ n1_ n2_; (try clear hb); (try clear hb2); (try clear hk); (try clear hi); (try clear ho0); obtain ⟨Ao8, co8, eo8⟩ := Kd.R_slice HO104.out; subst eo8) | ((with_reducible refine gate_builtin (b := .append) (xs := #[.tmp 12, .tmp 17]) rfl ?_); at_builtin; refine Kd.R_append_rows Kd.string (w0 := w) w.heap.size rfl (.tmp 12) (.tmp 17) 22 9 (.string ⟨#[]⟩) 16 rfl Try.underlying22 info9 rfl (by decide) (by omega) u4 x4_1 t102 _ _ _ (fun k_ => some k_ ≠ (.slice Ao8 t102.length co8 : Value).ownBlock) (fun _ => False) rfl rfl ?aO ?aR (fun _ _ h => h) (fun _ h => h.elim) ?aF ?aB ?aS ?aL ?_; (case aR => repeat (first | exact (Kd.R_reads' HO104.out).2.2 | (with_reducible refine Kd.C_alloc ?_ _) | (with_reducible refine Kd.C_drewN ?_ _) | (with_reducible refine Kd.C_drew ?_))); (case aB => exact (by repeat (first | (with_reducible first | exact HB.out | apply below_alloc | apply pw_below_drewN | apply below_drew1) | exact HB.out))); (case aF => exact (fun k_ hk => Kd.fresh' (Kd.R_lt (by (with_reducible repeat (first | apply Kd.R_alloc | apply Kd.R_drewN | apply Kd.R_drew)); exact HO104.out)) k_ hk)); (case aO => exact (by (with_reducible repeat (first | apply Kd.R_alloc | apply Kd.R_drewN | apply Kd.R_drew)); exact Kd.R_mono HO_4.out (fun _ hk => hk.2))); (case aS => exact (below_size (by repeat (first | (with_reducible first | exact HB.out | apply below_alloc | apply pw_below_drewN | apply below_drew1) | exact HB.out)))); (case aL => have := LMc5.out; omega); intro v106 w7 ho hb hg hat; rw [← Ny105.out] at ho; have n0_ := Aside0.mk (Kd.R_after (ok := (fun _ => True)) (by (with_reducible repeat (first | apply Kd.R_alloc | apply Kd.R_drewN | apply Kd.R_drew)); exact HO104.out) hg hat); have n1_ := Aside0.mk (hb); have n2_ := Aside0.mk (ho); clear HO104; clear HB; clear HO_4; have HO104 := n0_; have HB := n1_; have HO107 := n2_; clear n0_ n1_ n2_; clear ho hb hg hat))
            go_roundg k1
            case measure => have := HK1.out; omega
            case rel => exact ⟨(y105), (wrap64 (x5_1 + 1)), (by first | rfl | (simp; done) | (simp [*]; done)), H', ⟨by have := HK1.out; omega⟩, ⟨by (with_reducible repeat (first | apply Kd.R_alloc | apply Kd.R_drewN | apply Kd.R_drew)); exact Kd.R_mono HO107.out (fun _ hk => trivial)⟩, ⟨by repeat (first | (with_reducible first | exact HB.out | apply below_alloc | apply pw_below_drewN | apply below_drew1) | exact HB.out)⟩⟩
          · rw [if_neg c5] at H
            exact absurd H (by simp)
        · rw [if_neg c3] at H
          exact absurd H (by simp)
      · rw [if_neg c2] at H
        have c2b0 : decide (x5_1 < (l0.length : Int)) = false := decide_eq_false c2
        clear c2
        replace H := Option.bind_eq_some_iff.mp H
        obtain ⟨⟨t108, t109⟩, A90, H⟩ := H
        replace H : (some (t108, t109)) = some (r1, r2) := H
        have A9 := Aside0.mk A90
        clear A90
        simp only [Option.some.injEq, Prod.mk.injEq] at H
        obtain ⟨rfl, rfl⟩ := H
        obtain ⟨Ao10, co10, eo10⟩ := Kd.R_slice HO_4.out
        subst eo10
        go_wp2_with (first | ((with_reducible refine gate_callee (f := 38) rfl ?_); refine goesL_ (some 20) rfl rfl Try.func38 (by kernel_rfl) rfl #[.slice Ao10 x4_1.length co10] rfl (by (try simp only [List.map_toArray, List.map_cons, List.map_nil]); first | done | rfl | (simp only [List.length_drop, List.length_take]; rfl)) ?_; (with_reducible refine (remoraref13_clean.calls k1 _ _ x4_1 t108 t109 _ ?side1 ?side2 A9.out).mono ?_); (case side1 => repeat (first | exact (Kd.R_reads' HO_4.out).2.2 | (with_reducible refine Kd.C_alloc ?_ _) | (with_reducible refine Kd.C_drewN ?_ _) | (with_reducible refine Kd.C_drew ?_))); (case side2 => exact (Kd.R_reads' HO_4.out).2.1); rintro e w11 ⟨rfl, hb⟩; refine ⟨_, rfl, ?_⟩; have n0_ := Aside0.mk (Kd.R_below (by (with_reducible repeat (first | apply Kd.R_alloc | apply Kd.R_drewN | apply Kd.R_drew)); exact HO_4.out) hb); have n1_ := Aside0.mk (below_step (by repeat (first | (with_reducible first | exact HB.out | apply below_alloc | apply pw_below_drewN | apply below_drew1) | exact HB.out)) hb); clear HO_4; clear HB; have HO_4 := n0_; have HB := n1_; clear n0_ n1_; (try clear hb); (try clear hb2); (try clear hk); (try clear hi)))
        go_ret2
        exact ⟨by first | rfl | (simp [errW_none, errW_some] <;> rfl) | (simp [*, errW_none, errW_some] <;> rfl), by repeat (first | (with_reducible first | exact HB.out | apply below_alloc | apply pw_below_drewN | apply below_drew1) | exact HB.out)⟩

end Go.Proofs.Ytdomeeaaidjmpaa.PA
/-! ### YtdomeeaaidjmpaaPAfremoraref13Parent -/
namespace Go.Proofs.Ytdomeeaaidjmpaa.PA
open Go.RowKit Go.Proofs.YtdomeeaaidjmpaaW.PrintWords Go.Proofs.YtdomeeaaidjmpaaW.PrintLast Go.Proofs.YtdomeeaaidjmpaaW.PrintMore
attribute [local go_sem] max2_int min2_int max_two min_two max_three min_three max_four min_four   -- for this text's walks alone
set_option linter.unusedVariables false
set_option linter.unusedSimpArgs false

/-! ### remoraref13_Parent: function 33 -/
def remoraref13_Parent.f (k : Nat) (a0 : ByteArray) : Option (ByteArray) := (remoraref13_Split.f k a0).bind fun t101 => (if (t101.length : Int) < 2 then (some (⟨#[]⟩ : ByteArray)) else (if 0 ≤ (wrap64 ((t101.length : Int) - 1)) then (if (wrap64 ((t101.length : Int) - 1)) ≤ (t101.length : Int) then ((remoraref13_glue.f k (t101.take ((wrap64 ((t101.length : Int) - 1)) : Int).toNat)).bind fun t108 => (some t108)) else (none)) else (none)))
theorem remoraref13_Parent.mono : ∀ a0 k, LeO (remoraref13_Parent.f k a0) (remoraref13_Parent.f (k + 1) a0) := by
  intro a0 k
  unfold remoraref13_Parent.f
  repeat' first
      | (with_reducible exact remoraref13_Split.mono _ _)
      | (with_reducible exact remoraref13_glue.mono _ _)
      | (with_reducible exact LeO.refl _)
      | (with_reducible exact LeO.none _)
      | (with_reducible refine LeO.ite ?_ ?_)
      | (with_reducible refine LeO.bind ?_ (fun _ => ?_))
      | exact remoraref13_Split.mono _ _
      | exact remoraref13_glue.mono _ _
      | exact LeO.none _
      | refine LeO.ite ?_ ?_
      | refine LeO.bind ?_ (fun _ => ?_)
set_option maxHeartbeats 8000000 in
set_option maxRecDepth 100000 in
theorem remoraref13_Parent.calls (k : Nat) (a0 : ByteArray) (r : ByteArray) (w : World) (h : remoraref13_Parent.f k a0 = some r) :
    Calls Try.prog 33 #[.string a0] w fun e w' => e = .returned (.string r) ∧ Below w.heap.size w w' := by
  have HB := Aside0.mk (Below.refl w.heap.size w)
  have H : ((remoraref13_Split.f k a0).bind fun t101 => (if (t101.length : Int) < 2 then (some (⟨#[]⟩ : ByteArray)) else (if 0 ≤ (wrap64 ((t101.length : Int) - 1)) then (if (wrap64 ((t101.length : Int) - 1)) ≤ (t101.length : Int) then ((remoraref13_glue.f k (t101.take ((wrap64 ((t101.length : Int) - 1)) : Int).toNat)).bind fun t108 => (some t108)) else (none)) else (none)))) = some r := h
  clear h
  replace H := Option.bind_eq_some_iff.mp H
  obtain ⟨t101, A20, H⟩ := H
  replace H : (if (t101.length : Int) < 2 then (some (⟨#[]⟩ : ByteArray)) else (if 0 ≤ (wrap64 ((t101.length : Int) - 1)) then (if (wrap64 ((t101.length : Int) - 1)) ≤ (t101.length : Int) then ((remoraref13_glue.f k (t101.take ((wrap64 ((t101.length : Int) - 1)) : Int).toNat)).bind fun t108 => (some t108)) else (none)) else (none))) = some r := H
  have A2 := Aside0.mk A20
  clear A20
  by_cases c3 : (t101.length : Int) < 2
  · rw [if_pos c3] at H
    have c3b0 : decide ((t101.length : Int) < 2) = true := decide_eq_true c3
    have c3b1 : decide (t101.length < 2) = true := decide_eq_true (by omega)
    clear c3
    obtain rfl := Option.some.inj H
    go_enter Try.func33, Try.ntmps33
    go_wp2_with (first | ((with_reducible refine gate_callee (f := 29) rfl ?_); refine goesL_ (some 5) rfl rfl Try.func29 (by kernel_rfl) rfl #[.string a0] rfl (by (try simp only [List.map_toArray, List.map_cons, List.map_nil]); first | done | rfl | (simp only [List.length_drop, List.length_take]; rfl)) ?_; (with_reducible refine (remoraref13_Split.calls k a0 t101 _ A2.out).mono ?_); rintro e w4 ⟨v102, rfl, ho0, hb⟩; refine ⟨_, rfl, ?_⟩; have n0_ := Aside0.mk (Kd.R_lower ho0 (below_size (by repeat (first | (with_reducible first | exact HB.out | apply below_alloc | apply pw_below_drewN | apply below_drew1) | exact HB.out)))); have n1_ := Aside0.mk (below_step (by repeat (first | (with_reducible first | exact HB.out | apply below_alloc | apply pw_below_drewN | apply below_drew1) | exact HB.out)) hb); clear HB; have HO103 := n0_; have HB := n1_; clear n0_ n1_; (try clear hb); (try clear hb2); (try clear hk); (try clear hi); (try clear ho0); obtain ⟨Ao5, co5, eo5⟩ := Kd.R_slice HO103.out; subst eo5))
    go_ret
    exact ⟨by first | rfl | (simp [errW_none, errW_some] <;> rfl) | (simp [*, errW_none, errW_some] <;> rfl), by repeat (first | (with_reducible first | exact HB.out | apply below_alloc | apply pw_below_drewN | apply below_drew1) | exact HB.out)⟩
  · rw [if_neg c3] at H
    have c3b0 : decide ((t101.length : Int) < 2) = false := decide_eq_false c3
    have c3b1 : decide (t101.length < 2) = false := decide_eq_false (by omega)
    clear c3
    obtain ⟨ji6, hji6⟩ : ∃ j_ : Int, (wrap64 ((t101.length : Int) - 1)) = j_ := ⟨_, rfl⟩
    replace H : (if 0 ≤ (ji6) then (if (ji6) ≤ (t101.length : Int) then ((remoraref13_glue.f k (t101.take ((ji6) : Int).toNat)).bind fun t108 => (some t108)) else (none)) else (none)) = some r := by first | (rw [hji6] at H; exact H) | (simp only [hji6] at H ⊢; exact H)
    (try rw [hji6] at A2)
    have hji6w : (IntKind.i64.wrap ((t101.length : Int) - 1)) = ji6 := (i64_w _).trans hji6
    by_cases c7 : 0 ≤ (ji6)
    · rw [if_pos c7] at H
      have c7b0 := eq_true c7
      have c7b1 : decide (0 ≤ (ji6)) = true := decide_eq_true c7
      clear c7
      by_cases c8 : (ji6) ≤ (t101.length : Int)
      · rw [if_pos c8] at H
        have c8b0 := eq_true c8
        have c8b1 : decide ((ji6) ≤ (t101.length : Int)) = true := decide_eq_true c8
        clear c8
        obtain ⟨y104, hy104⟩ : ∃ y_ : List ByteArray, y_ = (t101.take ((ji6) : Int).toNat) := ⟨_, rfl⟩
        replace H : ((remoraref13_glue.f k y104).bind fun t108 => (some t108)) = some r := by first | (rw [hy104]; with_reducible exact H) | (have H2_ := (Option.bind_some _ _).symm.trans H; rw [hy104]; with_reducible exact H2_) | (have H2_ := (Option.bind_some _ _).symm.trans H; with_reducible exact H2_) | with_reducible exact H | (rw [hy104]; exact H) | exact H
        have Ny104 := Aside0.mk hy104
        clear hy104
        replace H := Option.bind_eq_some_iff.mp H
        obtain ⟨t108, A90, H⟩ := H
        replace H : (some t108) = some r := H
        have A9 := Aside0.mk A90
        clear A90
        obtain rfl := Option.some.inj H
        go_enter Try.func33, Try.ntmps33
        go_wp2_with (first | ((with_reducible refine gate_callee (f := 29) rfl ?_); refine goesL_ (some 5) rfl rfl Try.func29 (by kernel_rfl) rfl #[.string a0] rfl (by (try simp only [List.map_toArray, List.map_cons, List.map_nil]); first | done | rfl | (simp only [List.length_drop, List.length_take]; rfl)) ?_; (with_reducible refine (remoraref13_Split.calls k a0 t101 _ A2.out).mono ?_); rintro e w10 ⟨v102, rfl, ho0, hb⟩; refine ⟨_, rfl, ?_⟩; have n0_ := Aside0.mk (Kd.R_lower ho0 (below_size (by repeat (first | (with_reducible first | exact HB.out | apply below_alloc | apply pw_below_drewN | apply below_drew1) | exact HB.out)))); have n1_ := Aside0.mk (below_step (by repeat (first | (with_reducible first | exact HB.out | apply below_alloc | apply pw_below_drewN | apply below_drew1) | exact HB.out)) hb); clear HB; have HO103 := n0_; have HB := n1_; clear n0_ n1_; (try clear hb); (try clear hb2); (try clear hk); (try clear hi); (try clear ho0); obtain ⟨Ao11, co11, eo11⟩ := Kd.R_slice HO103.out; subst eo11; have q12 : ((ji6) : Int) ≤ ((t101.length : Int) : Int) := of_decide_eq_true (by first | (with_reducible assumption) | assumption); obtain ⟨i012, hi012, _, hsz12, _⟩ := info_parts info9; have hroom12 : t101.length ≤ co11 := (Kd.R_reads' HO103.out).2.1; have hC12 : Kd.C Kd.string _ Ao11 t101.length t101 := (Kd.R_reads' HO103.out).2.2; have hcut12 := cut_to (P := Try.prog) 22 9 .i64 Try.underlying22 hi012 Ao11 t101.length co11 (ji6) (of_decide_eq_true (by first | (with_reducible assumption) | assumption)) q12 hroom12; have hr12 := Kd.C_take (m := ((ji6) : Int).toNat) hC12 (by omega); have hy12 : y104.length = ((ji6) : Int).toNat := (by rw [Ny104.out, List.length_take]; omega); rw [← Ny104.out] at hr12; rw [← hy12] at hcut12; have HR107 := Aside0.mk hr12; have HC107 := Aside0.mk (show y104.length ≤ co11 from by omega); clear hr12 hC12 hroom12 hi012 hsz12; have KY12 := Aside0.mk hy12; clear hy12; have KL12 := Aside0.mk (show ((ji6) : Int).toNat ≤ t101.length from by omega); replace q12 := eq_true q12) | ((with_reducible refine gate_callee (f := 43) rfl ?_); refine goesL_ (some 14) rfl rfl Try.func43 (by kernel_rfl) rfl #[.slice Ao11 y104.length co11] rfl (by (try simp only [List.map_toArray, List.map_cons, List.map_nil]); first | done | rfl | (simp only [List.length_drop, List.length_take]; rfl)) ?_; (with_reducible refine (remoraref13_glue.calls k _ _ y104 t108 _ ?side1 ?side2 A9.out).mono ?_); (case side1 => repeat (first | exact (by repeat (first | (with_reducible exact HR107.out) | (with_reducible refine Kd.C_alloc ?_ _) | (with_reducible refine Kd.C_drewN ?_ _) | (with_reducible refine Kd.C_drew ?_) | exact HR107.out)) | (with_reducible refine Kd.C_alloc ?_ _) | (with_reducible refine Kd.C_drewN ?_ _) | (with_reducible refine Kd.C_drew ?_))); (case side2 => exact HC107.out); rintro e w13 ⟨rfl, hb⟩; refine ⟨_, rfl, ?_⟩; have n0_ := Aside0.mk (Kd.R_below (by (with_reducible repeat (first | apply Kd.R_alloc | apply Kd.R_drewN | apply Kd.R_drew)); exact HO103.out) hb); have n1_ := Aside0.mk (Kd.C_below (by repeat (first | (with_reducible exact HR107.out) | (with_reducible refine Kd.C_alloc ?_ _) | (with_reducible refine Kd.C_drewN ?_ _) | (with_reducible refine Kd.C_drew ?_) | exact HR107.out)) hb); have n2_ := Aside0.mk (below_step (by repeat (first | (with_reducible first | exact HB.out | apply below_alloc | apply pw_below_drewN | apply below_drew1) | exact HB.out)) hb); clear HO103; clear HR107; clear HB; have HO103 := n0_; have HR107 := n1_; have HB := n2_; clear n0_ n1_ n2_; (try clear hb); (try clear hb2); (try clear hk); (try clear hi)))
        go_ret
        exact ⟨by first | rfl | (simp [errW_none, errW_some] <;> rfl) | (simp only [← hji6]; first | rfl | (simp [errW_none, errW_some] <;> rfl)) | (simp [*, errW_none, errW_some] <;> rfl), by repeat (first | (with_reducible first | exact HB.out | apply below_alloc | apply pw_below_drewN | apply below_drew1) | exact HB.out)⟩
      · rw [if_neg c8] at H
        exact absurd H (by simp)
    · rw [if_neg c7] at H
      exact absurd H (by simp)

end Go.Proofs.Ytdomeeaaidjmpaa.PA
/-! ### YtdomeeaaidjmpaaXMayPure -/
namespace Go.Proofs.Ytdomeeaaidjmpaa.PA
open Go.RowKit Go.Proofs.YtdomeeaaidjmpaaW.PrintWords Go.Proofs.YtdomeeaaidjmpaaW.PrintLast Go.Proofs.YtdomeeaaidjmpaaW.PrintMore
attribute [local go_sem] max2_int min2_int max_two min_two max_three min_three max_four min_four
set_option linter.unusedVariables false
set_option linter.unusedSimpArgs false
def partB (s : ByteArray) : Bool := !(s.toList == []) && decide ((s.size : Int) ≤ 48) && !(s.toList == [46]) && !(s.toList == [46, 46]) && decide (Lib.indexByte s.data.toList 0 < 0)
theorem part_f (s : ByteArray) : path_part.f s = some (partB s) := by
  unfold path_part.f partB
  by_cases h1 : s.toList = ([] : List UInt8)
  · rw [if_pos h1, beq_iff_eq.mpr h1]
    rfl
  · rw [if_neg h1, beq_eq_false_iff_ne.mpr h1]
    by_cases h2 : (s.size : Int) ≤ 48
    · rw [if_pos h2, decide_eq_true h2]
      by_cases h3 : s.toList = ([46] : List UInt8)
      · rw [if_pos h3, beq_iff_eq.mpr h3]
        rfl
      · rw [if_neg h3, beq_eq_false_iff_ne.mpr h3]
        by_cases h4 : s.toList = ([46, 46] : List UInt8)
        · rw [if_pos h4, beq_iff_eq.mpr h4]
          rfl
        · rw [if_neg h4, beq_eq_false_iff_ne.mpr h4]
          rfl
    · rw [if_neg h2, decide_eq_false h2]
      rfl
def rightB (p : ByteArray) : Bool := (splitL p).all partB && decide (((splitL p).length : Int) ≤ 12) && decide ((p.size : Int) ≤ 200)
theorem right_l (p : ByteArray) (l : List ByteArray) (hl : l.length < 9223372036854775807) : ∀ k j : Nat, j ≤ l.length → l.length - j < k → path_Right.l0 k p l l (l.length : Int) (j : Int) = some ((l.drop j).all partB && decide ((l.length : Int) ≤ 12) && decide ((p.size : Int) ≤ 200))
  | 0, j, _, h => by omega
  | k + 1, j, hj, h => by
    unfold path_Right.l0
    by_cases hlt : j < l.length
    · rw [if_pos (show (j : Int) < (l.length : Int) by omega), if_pos (show 0 ≤ (j : Int) by omega), if_pos (show (j : Int) < (l.length : Int) by omega), part_f]
      have e : rdOf ByteArray.empty l (j : Int) = l[j]'hlt := by
        simp [rdOf, hlt]
      rw [e, List.drop_eq_getElem_cons hlt]
      show (if partB (l[j]'hlt) = true then _ else _) = _
      cases hp : partB (l[j]'hlt) with
      | true =>
        rw [if_pos rfl, wr64 _ (by omega) (by omega)]
        have ih := right_l p l hl k (j + 1) (by omega) (by omega)
        rw [show ((j : Int) + 1) = ((j + 1 : Nat) : Int) by omega, ih, List.all_cons, hp, Bool.true_and]
      | false =>
        rw [if_neg (by decide), List.all_cons, hp]
        rfl
    · have hje : j = l.length := by omega
      rw [if_neg (show ¬ (j : Int) < (l.length : Int) by omega), hje, List.drop_length]
      by_cases h12 : (l.length : Int) ≤ 12
      · rw [if_pos h12, decide_eq_true h12]
        rfl
      · rw [if_neg h12, decide_eq_false h12]
        rfl
theorem splitL_len (s : ByteArray) : (splitL s).length ≤ s.size + 1 := by
  have := splitTo_len s s.size
  unfold splitL
  split
  · exact Nat.zero_le _
  · simp
    omega
theorem right_f (p : ByteArray) (hs : p.size < 4398046511104) (k : Nat) (hk : p.size + 1 < k) : path_Right.f k p = some (rightB p) := by
  unfold path_Right.f path_Split.f
  rw [if_pos hs]
  have h := splitL_len p
  show path_Right.l0 k p (splitL p) (splitL p) ((splitL p).length : Int) 0 = _
  exact right_l p (splitL p) (by omega) k 0 (by omega) (by omega)
end Go.Proofs.Ytdomeeaaidjmpaa.PA
/-! ### YtdomeeaaidjmpaaXSpl -/
namespace Go.Proofs.Ytdomeeaaidjmpaa.PA
open Go.RowKit Go.Proofs.YtdomeeaaidjmpaaW.PrintWords Go.Proofs.YtdomeeaaidjmpaaW.PrintLast Go.Proofs.YtdomeeaaidjmpaaW.PrintMore
attribute [local go_sem] max2_int min2_int max_two min_two max_three min_three max_four min_four
set_option linter.unusedVariables false
set_option linter.unusedSimpArgs false
def spl : List UInt8 → List (List UInt8)
  | [] => [[]]
  | x :: t => if x = 47 then [] :: spl t else match spl t with
    | [] => [[x]]
    | h :: r => (x :: h) :: r
theorem spl_ne : ∀ s, spl s ≠ []
  | [] => by simp [spl]
  | x :: t => by
    rw [spl]
    split
    · simp
    · split <;> simp
theorem spl_cons (x : UInt8) (t : List UInt8) (h : x ≠ 47) : ∃ a r, spl t = a :: r ∧ spl (x :: t) = (x :: a) :: r := by
  cases hs : spl t with
  | nil => exact absurd hs (spl_ne t)
  | cons a r =>
    refine ⟨a, r, rfl, ?_⟩
    rw [spl, if_neg h, hs]
theorem spl_snoc47 : ∀ s, spl (s ++ [47]) = spl s ++ [[]]
  | [] => rfl
  | x :: t => by
    by_cases h : x = 47
    · rw [List.cons_append, spl, if_pos h, spl, if_pos h, spl_snoc47 t, List.cons_append]
    · obtain ⟨a, r, e1, e2⟩ := spl_cons x t h
      obtain ⟨a', r', e3, e4⟩ := spl_cons x (t ++ [47]) h
      rw [spl_snoc47 t, e1, List.cons_append] at e3
      rw [List.cons_append, e4, e2]
      have e5 := List.cons.inj e3
      rw [← e5.1, ← e5.2, List.cons_append]
theorem spl_snoc (c : UInt8) (hc : c ≠ 47) : ∀ (s : List UInt8) (L : List (List UInt8)) (x : List UInt8), spl s = L ++ [x] → spl (s ++ [c]) = L ++ [x ++ [c]]
  | [], L, x, h => by
    cases L with
    | nil =>
      have hx := (List.cons.inj (show ([[]] : List (List UInt8)) = [x] from h)).1
      rw [← hx]
      simp [spl, hc]
    | cons a r =>
      have h1 := (List.cons.inj (show ([[]] : List (List UInt8)) = a :: (r ++ [x]) from h)).2
      simp at h1
  | y :: t, L, x, h => by
    by_cases hy : y = 47
    · rw [spl, if_pos hy] at h
      cases L with
      | nil =>
        have h1 := (List.cons.inj (show [] :: spl t = [x] from h)).2
        exact absurd h1 (spl_ne t)
      | cons a r =>
        have h1 := List.cons.inj (show [] :: spl t = a :: (r ++ [x]) from h)
        rw [List.cons_append, spl, if_pos hy, spl_snoc c hc t r x h1.2, h1.1]
        rfl
    · obtain ⟨a, r, e1, e2⟩ := spl_cons y t hy
      rw [e2] at h
      cases L with
      | nil =>
        have h1 := List.cons.inj (show (y :: a) :: r = [x] from h)
        have h2 := spl_snoc c hc t [] a (by rw [e1, h1.2]; rfl)
        obtain ⟨a', r', e3, e4⟩ := spl_cons y (t ++ [c]) hy
        rw [h2] at e3
        have h3 := List.cons.inj (show [a ++ [c]] = a' :: r' from e3)
        rw [List.cons_append, e4, ← h3.1, ← h3.2, ← h1.1]
        rfl
      | cons b q =>
        have h1 := List.cons.inj (show (y :: a) :: r = b :: (q ++ [x]) from h)
        have h2 := spl_snoc c hc t (a :: q) x (by rw [e1, h1.2]; rfl)
        obtain ⟨a', r', e3, e4⟩ := spl_cons y (t ++ [c]) hy
        rw [h2] at e3
        have h3 := List.cons.inj (show a :: (q ++ [x ++ [c]]) = a' :: r' from e3)
        rw [List.cons_append, e4, ← h3.1, ← h3.2, ← h1.1]
        rfl
theorem join_two (x y : List UInt8) (r : List (List UInt8)) : Lib.join (x :: y :: r) [47] = x ++ 47 :: Lib.join (y :: r) [47] := by
  rw [Lib.join_cons, Lib.join_cons]
  simp [Lib.joinTail]
theorem join_spl : ∀ s, Lib.join (spl s) [47] = s
  | [] => rfl
  | x :: t => by
    have ih := join_spl t
    by_cases h : x = 47
    · rw [spl, if_pos h]
      cases hs : spl t with
      | nil => exact absurd hs (spl_ne t)
      | cons a r => rw [join_two, ← hs, ih, h]; rfl
    · obtain ⟨a, r, e1, e2⟩ := spl_cons x t h
      rw [e2]
      rw [e1] at ih
      cases r with
      | nil => rw [Lib.join_one] at ih ⊢; rw [ih]
      | cons b q => rw [join_two] at ih ⊢; rw [List.cons_append, ih]
theorem spl_parts : ∀ s, ∀ p ∈ spl s, (47 : UInt8) ∉ p
  | [] => by simp [spl]
  | x :: t => by
    intro p hp
    have ih := spl_parts t
    by_cases h : x = 47
    · rw [spl, if_pos h] at hp
      rcases List.mem_cons.1 hp with h1 | h1
      · rw [h1]; simp
      · exact ih p h1
    · obtain ⟨a, r, e1, e2⟩ := spl_cons x t h
      rw [e2] at hp
      rcases List.mem_cons.1 hp with h1 | h1
      · rw [h1]
        intro hm
        rcases List.mem_cons.1 hm with h2 | h2
        · exact h h2.symm
        · exact ih a (by rw [e1]; exact List.mem_cons_self ..) h2
      · exact ih p (by rw [e1]; exact List.mem_cons_of_mem _ h1)
theorem spl_none : ∀ p : List UInt8, (47 : UInt8) ∉ p → spl p = [p]
  | [], _ => rfl
  | x :: t, h => by
    have hx : x ≠ 47 := fun e => h (by rw [e]; exact List.mem_cons_self ..)
    have ih := spl_none t (fun hm => h (List.mem_cons_of_mem _ hm))
    rw [spl, if_neg hx, ih]
theorem spl_front : ∀ (p q : List UInt8), (47 : UInt8) ∉ p → spl (p ++ 47 :: q) = p :: spl q
  | [], q, _ => by rw [List.nil_append, spl, if_pos rfl]
  | x :: t, q, h => by
    have hx : x ≠ 47 := fun e => h (by rw [e]; exact List.mem_cons_self ..)
    have ih := spl_front t q (fun hm => h (List.mem_cons_of_mem _ hm))
    rw [List.cons_append, spl, if_neg hx, ih]
theorem spl_join : ∀ (l : List (List UInt8)), l ≠ [] → (∀ p ∈ l, (47 : UInt8) ∉ p) → spl (Lib.join l [47]) = l
  | [], h, _ => absurd rfl h
  | [p], _, h => by rw [Lib.join_one]; exact spl_none p (h p (List.mem_cons_self ..))
  | p :: q :: r, _, h => by
    rw [join_two, spl_front p _ (h p (List.mem_cons_self ..)), spl_join (q :: r) (by simp) (fun x hx => h x (List.mem_cons_of_mem _ hx))]
def toL (a : ByteArray) : List UInt8 := a.data.toList
theorem toL_inj {a b : ByteArray} (h : toL a = toL b) : a = b := by
  have := Array.toList_inj.1 (show a.data.toList = b.data.toList from h)
  exact ByteArray.ext this
theorem toL_size (a : ByteArray) : (toL a).length = a.size := by
  rw [toL, Array.length_toList]; rfl
theorem toL_extract (a : ByteArray) (i j : Nat) : toL (a.extract i j) = ((toL a).take j).drop i := by
  unfold toL
  rw [ByteArray.data_extract, Array.toList_extract, List.extract_eq_take_drop, List.drop_take]
theorem take_snoc (a : ByteArray) (k : Nat) (h : k < a.size) : (toL a).take (k + 1) = (toL a).take k ++ [UInt8.ofNat (bt a (k : Int)).toNat] := by
  have hl : k < (toL a).length := by rw [toL_size]; exact h
  rw [List.take_succ_eq_append_getElem hl]
  congr 2
  rw [bt, dif_pos (by simpa using h)]
  simp [toL]
  rfl
theorem u47 (b : Int) (h0 : 0 ≤ b) (h1 : b ≤ 255) : UInt8.ofNat b.toNat = 47 ↔ b = 47 := by
  constructor
  · intro h
    have := congrArg UInt8.toNat h
    rw [UInt8.toNat_ofNat'] at this
    have e : (47 : UInt8).toNat = 47 := rfl
    rw [e] at this
    omega
  · intro h; rw [h]; rfl
theorem splitTo_spl (a : ByteArray) : ∀ k, k ≤ a.size → spl ((toL a).take k) = (splitTo a k).1.map toL ++ [((toL a).take k).drop (splitTo a k).2]
  | 0, _ => rfl
  | k + 1, h => by
    have ih := splitTo_spl a k (by omega)
    have hr := bt_range a (k : Int)
    have hle := splitTo_le a k
    have hlen : ((toL a).take k).length = k := by rw [List.length_take, toL_size]; omega
    rw [take_snoc a k (by omega)]
    by_cases hb : bt a (k : Int) = 47
    · rw [(u47 _ hr.1 hr.2).2 hb, spl_snoc47, ih, splitTo_hit a k hb, List.map_append, List.map_cons, List.map_nil, toL_extract]
      congr 1
      simp
      omega
    · rw [spl_snoc _ (fun e => hb ((u47 _ hr.1 hr.2).1 e)) _ _ _ ih, splitTo_miss a k hb, List.drop_append_of_le_length (by rw [hlen]; exact hle)]
theorem split_spl (a : ByteArray) (h : a.size ≠ 0) : (splitL a).map toL = spl (toL a) := by
  have := splitTo_spl a a.size (Nat.le_refl _)
  have e : (toL a).take a.size = toL a := List.take_of_length_le (by rw [toL_size]; exact Nat.le_refl _)
  rw [e] at this
  rw [splitL, if_neg h, this, List.map_append, List.map_cons, List.map_nil, toL_extract, e]
theorem size_zero {a : ByteArray} (h : a.size = 0) : a = ⟨#[]⟩ := by
  apply toL_inj
  have : (toL a).length = 0 := by rw [toL_size]; exact h
  rw [List.length_eq_zero_iff.1 this]
  rfl
theorem map_data (l : List ByteArray) : l.map (·.data.toList) = l.map toL := rfl
theorem toL_joinB (l : List ByteArray) : toL (joinB l ⟨#[47]⟩) = Lib.join (l.map toL) [47] := by
  unfold joinB toL
  rfl
theorem joinB_split (a : ByteArray) : joinB (splitL a) ⟨#[47]⟩ = a := by
  by_cases h : a.size = 0
  · rw [splitL, if_pos h, size_zero h]; rfl
  · apply toL_inj
    rw [toL_joinB, split_spl a h, join_spl]
theorem map_toL_inj {l m : List ByteArray} (h : l.map toL = m.map toL) : l = m := by
  induction l generalizing m with
  | nil => cases m with
    | nil => rfl
    | cons b t => simp at h
  | cons a s ih => cases m with
    | nil => simp at h
    | cons b t =>
      simp only [List.map_cons, List.cons.injEq] at h
      rw [toL_inj h.1, ih h.2]
theorem split_nil_iff (a : ByteArray) : splitL a = [] ↔ a.size = 0 := by
  rw [splitL]
  by_cases h : a.size = 0
  · rw [if_pos h]; simp [h]
  · rw [if_neg h]; simp [h]
theorem split_no47 (a : ByteArray) : ∀ p ∈ splitL a, (47 : UInt8) ∉ toL p := by
  by_cases h : a.size = 0
  · rw [splitL, if_pos h]; simp
  · intro p hp
    have := List.mem_map_of_mem (f := toL) hp
    rw [split_spl a h] at this
    exact spl_parts _ _ this
theorem split_joinB (l : List ByteArray) (h0 : ∀ p ∈ l, p.size ≠ 0) (h : ∀ p ∈ l, (47 : UInt8) ∉ toL p) : splitL (joinB l ⟨#[47]⟩) = l := by
  cases l with
  | nil => rfl
  | cons x t =>
    have hj := toL_joinB (x :: t)
    have hs := spl_join ((x :: t).map toL) (by simp) (fun p hp => by
      obtain ⟨q, hq, rfl⟩ := List.mem_map.1 hp
      exact h q hq)
    have hne : (joinB (x :: t) ⟨#[47]⟩).size ≠ 0 := by
      have hx := h0 x (List.mem_cons_self ..)
      rw [← toL_size, hj, List.map_cons, Lib.join_cons, List.length_append, toL_size]
      omega
    apply map_toL_inj
    rw [split_spl _ hne, hj, hs]
theorem joinB_to (a : ByteArray) (k : Nat) (hk : k ≤ a.size) (h : (splitTo a k).2 ≠ 0) : joinB (splitTo a k).1 ⟨#[47]⟩ = a.extract 0 ((splitTo a k).2 - 1) := by
  induction k with
  | zero => exact absurd rfl h
  | succ k ih =>
    by_cases hb : bt a (k : Int) = 47
    · rw [splitTo_hit a k hb]
      apply toL_inj
      have hs := splitTo_spl a k (by omega)
      have := join_spl ((toL a).take k)
      rw [hs] at this
      rw [toL_joinB, List.map_append, List.map_cons, List.map_nil, toL_extract, this, toL_extract]
      simp
    · rw [splitTo_miss a k hb] at h ⊢
      exact ih (by omega) h
end Go.Proofs.Ytdomeeaaidjmpaa.PA
/-! ### YtdomeeaaidjmpaaXSplitRef -/
namespace Go.Proofs.Ytdomeeaaidjmpaa.PA
open Go.RowKit Go.Proofs.YtdomeeaaidjmpaaW.PrintWords Go.Proofs.YtdomeeaaidjmpaaW.PrintLast Go.Proofs.YtdomeeaaidjmpaaW.PrintMore
attribute [local go_sem] max2_int min2_int max_two min_two max_three min_three max_four min_four
set_option linter.unusedVariables false
set_option linter.unusedSimpArgs false
theorem rsplit_l (s : ByteArray) (hs : s.size < 4398046511104) : ∀ k j : Nat, j ≤ s.size → s.size + 1 - j < k → remoraref13_Split.l0 k s (splitTo s j).1 ((splitTo s j).2 : Int) (j : Int) = some ((splitTo s s.size).1 ++ [s.extract (splitTo s s.size).2 s.size])
  | 0, j, _, h => by omega
  | k + 1, j, hj, h => by
    have hle := splitTo_le s j
    have hlen := splitTo_len s j
    have e2 : wrap64 ((j : Int) + 1) = ((j + 1 : Nat) : Int) := by rw [wr64 _ (by omega) (by omega)]; rfl
    unfold remoraref13_Split.l0
    rw [if_pos (show (j : Int) ≤ (s.size : Int) by omega), e2]
    by_cases hlt : j < s.size
    · rw [if_neg (show ¬ (j : Int) = (s.size : Int) by omega), if_pos (show 0 ≤ (j : Int) by omega), if_pos (show (j : Int) < (s.size : Int) by omega)]
      by_cases hb : bt s (j : Int) = 47
      · have hh := splitTo_hit s j hb
        rw [if_pos hb, if_pos (by omega), if_pos (by omega), if_pos (by omega)]
        have ih := rsplit_l s hs k (j + 1) (by omega) (by omega)
        rw [hh] at ih
        exact ih
      · have hh := splitTo_miss s j hb
        rw [if_neg hb]
        have ih := rsplit_l s hs k (j + 1) (by omega) (by omega)
        rw [hh] at ih
        exact ih
    · obtain rfl : j = s.size := by omega
      rw [if_pos rfl, if_pos (by omega), if_pos (by omega), if_pos (by omega)]
      cases k with
      | zero => omega
      | succ k =>
        unfold remoraref13_Split.l0
        rw [if_neg (by omega)]
        rfl
theorem rsplit_f (s : ByteArray) (hs : s.size < 4398046511104) (k : Nat) (hk : s.size + 1 < k) : remoraref13_Split.f k s = some (splitL s) := by
  unfold remoraref13_Split.f splitL
  by_cases h : s.toList = ([] : List UInt8)
  · have h1 := congrArg List.length h
    rw [ByteArray.toList_eq, data_length] at h1
    rw [if_pos h, if_pos (show s.size = 0 from h1)]
  · rw [if_neg h, if_neg]
    · exact rsplit_l s hs k 0 (by omega) (by omega)
    · intro h0
      refine h (List.eq_nil_of_length_eq_zero ?_)
      rw [ByteArray.toList_eq, data_length]
      exact h0
theorem index_ge (c : UInt8) : ∀ l : List UInt8, -1 ≤ Lib.indexByte l c
  | [] => Int.le_refl _
  | b :: l => by
    have := index_ge c l
    unfold Lib.indexByte
    split
    · omega
    · split
      · omega
      · omega
theorem rnought_l (s : ByteArray) (hs : s.size < 4398046511104) : ∀ k j : Nat, j ≤ s.size → s.size - j < k → remoraref13_nought.l0 k s (j : Int) = some (decide (0 ≤ Lib.indexByte (s.data.toList.drop j) 0))
  | 0, j, _, h => by omega
  | k + 1, j, hj, h => by
    unfold remoraref13_nought.l0
    by_cases hlt : j < s.size
    · have e2 : wrap64 ((j : Int) + 1) = ((j + 1 : Nat) : Int) := by rw [wr64 _ (by omega) (by omega)]; rfl
      rw [if_pos (show (j : Int) < (s.size : Int) by omega), if_pos (show 0 ≤ (j : Int) by omega), e2]
      have hl : j < s.data.toList.length := by rw [data_length]; exact hlt
      rw [List.drop_eq_getElem_cons hl]
      have eb : bt s (j : Int) = ((s.data.toList[j]'hl).toNat : Int) := by
        rw [bt, dif_pos (by simpa using hlt)]
        simp
        rfl
      rw [eb]
      generalize s.data.toList[j]'hl = b
      have ih := rnought_l s hs k (j + 1) (by omega) (by omega)
      by_cases hb : b = 0
      · subst hb
        rw [if_pos (by decide)]
        rfl
      · rw [if_neg (by intro h0; exact hb (UInt8.toNat_inj.1 (by simpa using h0))), ih]
        have hg := index_ge 0 (s.data.toList.drop (j + 1))
        have e : Lib.indexByte (b :: s.data.toList.drop (j + 1)) 0 = if Lib.indexByte (s.data.toList.drop (j + 1)) 0 == -1 then -1 else Lib.indexByte (s.data.toList.drop (j + 1)) 0 + 1 := by
          rw [Lib.indexByte, if_neg (by simpa using hb)]
        rw [e]
        generalize Lib.indexByte (s.data.toList.drop (j + 1)) 0 = x at *
        by_cases hx : x = -1
        · subst hx
          rfl
        · rw [if_neg (by simpa using hx), decide_eq_true (show 0 ≤ x by omega), decide_eq_true (show 0 ≤ x + 1 by omega)]
    · obtain rfl : j = s.size := by omega
      rw [if_neg (by omega), ← data_length, List.drop_length]
      rfl
theorem rnought_f (s : ByteArray) (hs : s.size < 4398046511104) (k : Nat) (hk : s.size < k) : remoraref13_nought.f k s = some (decide (0 ≤ Lib.indexByte s.data.toList 0)) := by
  unfold remoraref13_nought.f
  exact rnought_l s hs k 0 (by omega) (by omega)
end Go.Proofs.Ytdomeeaaidjmpaa.PA
/-! ### YtdomeeaaidjmpaaXPathSpec -/
namespace Go.Proofs.Ytdomeeaaidjmpaa.PA
open Go.RowKit Go.Proofs.YtdomeeaaidjmpaaW.PrintWords Go.Proofs.YtdomeeaaidjmpaaW.PrintLast Go.Proofs.YtdomeeaaidjmpaaW.PrintMore
attribute [local go_sem] max2_int min2_int max_two min_two max_three min_three max_four min_four
set_option linter.unusedVariables false
set_option linter.unusedSimpArgs false
theorem tl_eq (a b : ByteArray) : a.toList = b.toList ↔ a = b := by
  constructor
  · intro h
    rw [ByteArray.toList_eq, ByteArray.toList_eq] at h
    exact toL_inj h
  · intro h; rw [h]
theorem tl_beq (a b : ByteArray) : (a.toList == b.toList) = decide (a = b) := by
  by_cases h : a = b
  · rw [decide_eq_true h, h]; exact beq_self_eq_true _
  · rw [decide_eq_false h]; exact beq_eq_false_iff_ne.2 (fun e => h ((tl_eq a b).1 e))
theorem rdOf_get (l : List ByteArray) (i : Nat) (h : i < l.length) : rdOf ByteArray.empty l (i : Int) = l[i] := by
  simp [rdOf, h]
def cmpL : List ByteArray → List ByteArray → Int
  | [], [] => 0
  | [], _ :: _ => -1
  | _ :: _, [] => 1
  | a :: s, b :: t => if Op.bytesLess a.toList b.toList = true then -1 else if a = b then cmpL s t else 1
theorem cmp_f (a b : ByteArray) : cmp_Compare_string.f a b = some (if Op.bytesLess a.toList b.toList = true then -1 else if a = b then 0 else 1) := by
  rw [cmp_Compare_string.f, tl_beq]
  by_cases h : a = b
  · simp [h]
  · simp [h]
theorem compare_l (x y : List ByteArray) (hx : x.length < 4611686018427387904) : ∀ (m i k : Nat), x.length - i = m → i ≤ x.length → i ≤ y.length → m + 1 ≤ k → slices_Compare_string_string.l0 k x y x (x.length : Int) (i : Int) = some (cmpL (x.drop i) (y.drop i)) := by
  intro m
  induction m with
  | zero =>
    intro i k hm hi hy hk
    obtain ⟨k, rfl⟩ : ∃ j, k = j + 1 := ⟨k - 1, by omega⟩
    obtain rfl : i = x.length := by omega
    rw [slices_Compare_string_string.l0, if_neg (by omega), List.drop_length]
    by_cases h : x.length < y.length
    · rw [if_pos (by omega), List.drop_eq_getElem_cons h]; rfl
    · rw [if_neg (by omega), List.drop_eq_nil_of_le (by omega)]; rfl
  | succ m ih =>
    intro i k hm hi hy hk
    obtain ⟨k, rfl⟩ : ∃ j, k = j + 1 := ⟨k - 1, by omega⟩
    have hlt : i < x.length := by omega
    rw [slices_Compare_string_string.l0, if_pos (by omega), if_pos (by omega), if_pos (by omega), List.drop_eq_getElem_cons hlt]
    by_cases hy2 : i < y.length
    · rw [if_neg (by omega), if_pos (by omega), rdOf_get x i hlt, rdOf_get y i hy2, List.drop_eq_getElem_cons hy2, cmp_f, Option.bind_some, cmpL]
      by_cases h1 : Op.bytesLess (x[i]).toList (y[i]).toList = true
      · rw [if_pos h1, if_pos h1, if_neg (by decide)]
      · rw [if_neg h1, if_neg h1]
        by_cases h2 : x[i] = y[i]
        · rw [if_pos h2, if_pos h2, if_pos rfl, wr64 _ (by omega) (by omega)]
          exact ih (i + 1) k (by omega) (by omega) (by omega) (by omega)
        · rw [if_neg h2, if_neg h2, if_neg (by decide)]
    · rw [if_pos (by omega), List.drop_eq_nil_of_le (show y.length ≤ i by omega)]
      rfl
theorem compare_f (x y : List ByteArray) (k : Nat) (hx : x.length < 4611686018427387904) (hk : x.length + 1 ≤ k) : slices_Compare_string_string.f k x y = some (cmpL x y) := by
  have := compare_l x y hx x.length 0 k (by omega) (by omega) (by omega) (by omega)
  rw [List.drop_zero, List.drop_zero] at this
  exact this
theorem equal_l (x y : List ByteArray) (he : x.length = y.length) (hx : x.length < 4611686018427387904) : ∀ (m i k : Nat), x.length - i = m → i ≤ x.length → m + 1 ≤ k → slices_Equal_string_string.l0 k x y (x.length : Int) (i : Int) = some (decide (x.drop i = y.drop i)) := by
  intro m
  induction m with
  | zero =>
    intro i k hm hi hk
    obtain ⟨k, rfl⟩ : ∃ j, k = j + 1 := ⟨k - 1, by omega⟩
    rw [slices_Equal_string_string.l0, if_neg (by omega), List.drop_eq_nil_of_le (by omega), List.drop_eq_nil_of_le (by omega)]
    rfl
  | succ m ih =>
    intro i k hm hi hk
    obtain ⟨k, rfl⟩ : ∃ j, k = j + 1 := ⟨k - 1, by omega⟩
    have hlt : i < x.length := by omega
    have hlt2 : i < y.length := by omega
    rw [slices_Equal_string_string.l0, if_pos (by omega), if_pos (by omega), if_pos (by omega), if_pos (by omega), rdOf_get x i hlt, rdOf_get y i hlt2, List.drop_eq_getElem_cons hlt, List.drop_eq_getElem_cons hlt2]
    by_cases h : x[i] = y[i]
    · rw [if_pos ((tl_eq _ _).2 h), wr64 _ (by omega) (by omega), h]
      have := ih (i + 1) k (by omega) (by omega) (by omega)
      refine Eq.trans this ?_
      exact congrArg some (decide_eq_decide.2 ⟨fun e => by rw [e], fun e => (List.cons.inj e).2⟩)
    · rw [if_neg (fun e => h ((tl_eq _ _).1 e)), decide_eq_false (fun e => h (List.cons.inj e).1)]
theorem equal_f (x y : List ByteArray) (k : Nat) (hx : x.length < 4611686018427387904) (hk : x.length + 1 ≤ k) : slices_Equal_string_string.f k x y = some (decide (x = y)) := by
  unfold slices_Equal_string_string.f
  by_cases he : x.length = y.length
  · rw [if_pos (by omega)]
    exact equal_l x y he hx x.length 0 k (by omega) (by omega) (by omega)
  · rw [if_neg (by omega), decide_eq_false (fun e => he (by rw [e]))]
theorem texts_l (x y : List ByteArray) (he : x.length = y.length) (hx : x.length < 4611686018427387904) : ∀ (m i k : Nat), x.length - i = m → i ≤ x.length → m + 1 ≤ k → remoralaw13_texts.l0 k x y (i : Int) = some (decide (x.drop i = y.drop i)) := by
  intro m
  induction m with
  | zero =>
    intro i k hm hi hk
    obtain ⟨k, rfl⟩ : ∃ j, k = j + 1 := ⟨k - 1, by omega⟩
    rw [remoralaw13_texts.l0, if_neg (by omega), List.drop_eq_nil_of_le (by omega), List.drop_eq_nil_of_le (by omega)]
    rfl
  | succ m ih =>
    intro i k hm hi hk
    obtain ⟨k, rfl⟩ : ∃ j, k = j + 1 := ⟨k - 1, by omega⟩
    have hlt : i < x.length := by omega
    have hlt2 : i < y.length := by omega
    rw [remoralaw13_texts.l0, if_pos (by omega), if_pos (by omega), if_pos (by omega), rdOf_get x i hlt, rdOf_get y i hlt2, List.drop_eq_getElem_cons hlt, List.drop_eq_getElem_cons hlt2]
    by_cases h : x[i] = y[i]
    · rw [if_pos ((tl_eq _ _).2 h), wr64 _ (by omega) (by omega), h]
      have := ih (i + 1) k (by omega) (by omega) (by omega)
      refine Eq.trans this ?_
      exact congrArg some (decide_eq_decide.2 ⟨fun e => by rw [e], fun e => (List.cons.inj e).2⟩)
    · rw [if_neg (fun e => h ((tl_eq _ _).1 e)), decide_eq_false (fun e => h (List.cons.inj e).1)]
theorem texts_f (x y : List ByteArray) (k : Nat) (hx : x.length < 4611686018427387904) (hk : x.length + 1 ≤ k) : remoralaw13_texts.f k x y = some (decide (x = y)) := by
  unfold remoralaw13_texts.f
  by_cases he : x.length = y.length
  · rw [if_pos (by omega)]
    exact texts_l x y he hx x.length 0 k (by omega) (by omega) (by omega)
  · rw [if_neg (by omega), decide_eq_false (fun e => he (by rw [e]))]
def sumS : List ByteArray → Nat
  | [] => 0
  | a :: t => a.size + sumS t
theorem sumS_app (a b : List ByteArray) : sumS (a ++ b) = sumS a + sumS b := by
  induction a with
  | nil => simp [sumS]
  | cons x t ih => simp only [List.cons_append, sumS, ih]; omega
theorem sumS_take (l : List ByteArray) (n : Nat) : sumS (l.take n) ≤ sumS l := by
  have := sumS_app (l.take n) (l.drop n)
  rw [List.take_append_drop] at this
  omega
theorem sumS_drop (l : List ByteArray) (n : Nat) : sumS (l.drop n) ≤ sumS l := by
  have := sumS_app (l.take n) (l.drop n)
  rw [List.take_append_drop] at this
  omega
theorem sumS_le (l : List ByteArray) (b : Nat) (h : ∀ p ∈ l, p.size ≤ b) : sumS l ≤ b * l.length := by
  induction l with
  | nil => simp [sumS]
  | cons a t ih =>
    have h1 := h a (List.mem_cons_self ..)
    have h2 := ih (fun p hp => h p (List.mem_cons_of_mem _ hp))
    simp only [sumS, List.length_cons, Nat.mul_add]
    omega
theorem lens_sum (l : List ByteArray) : Lib.lens (l.map toL) = sumS l := by
  induction l with
  | nil => rfl
  | cons a t ih =>
    have := toL_size a
    simp only [Lib.lens, List.map_cons, List.sum_cons, sumS] at ih ⊢
    omega
theorem joinB_size (l : List ByteArray) : (joinB l ⟨#[47]⟩).size ≤ sumS l + l.length := by
  rw [← toL_size, toL_joinB]
  cases l with
  | nil => simp [Lib.join]
  | cons a t =>
    rw [List.map_cons, Lib.join_length, ← List.map_cons (f := toL), lens_sum]
    simp
    omega
theorem joinB_size' (l : List ByteArray) (h : l ≠ []) : (joinB l ⟨#[47]⟩).size + 1 = sumS l + l.length := by
  rw [← toL_size, toL_joinB]
  cases l with
  | nil => exact absurd rfl h
  | cons a t =>
    rw [List.map_cons, Lib.join_length, ← List.map_cons (f := toL), lens_sum]
    simp
    omega
theorem sumS_split (a : ByteArray) : sumS (splitL a) ≤ a.size := by
  by_cases h : splitL a = []
  · rw [h]; exact Nat.zero_le _
  · have h1 := joinB_size' _ h
    rw [joinB_split] at h1
    have : (splitL a).length ≠ 0 := fun e => h (List.length_eq_zero_iff.1 e)
    omega
def gN (l : List ByteArray) (i : Nat) : List Int := (Lib.join ((l.take i).map toL) [47]).map (fun u => (u.toNat : Int))
theorem strOf_nums (s : List UInt8) : strOfNums (s.map (fun u => (u.toNat : Int))) = ⟨s.toArray⟩ := by
  have e : ((fun n : Int => UInt8.ofNat n.toNat) ∘ fun u : UInt8 => (u.toNat : Int)) = id := by
    funext u
    simp
  rw [strOfNums, List.map_map, e, List.map_id]
theorem gN_zero (l : List ByteArray) : gN l 0 = [] := rfl
theorem gN_one (l : List ByteArray) (h : 0 < l.length) : gN l 1 = bytesOf (l[0]) := by
  cases l with
  | nil => simp at h
  | cons a t => simp [gN, Lib.join, bytesOf, toL]
theorem gN_succ (l : List ByteArray) (i : Nat) (h0 : 0 < i) (h : i < l.length) : gN l (i + 1) = gN l i ++ [47] ++ bytesOf (l[i]) := by
  cases l with
  | nil => simp at h
  | cons a t =>
    obtain ⟨j, rfl⟩ : ∃ j, i = j + 1 := ⟨i - 1, by omega⟩
    have ht : j < t.length := by simpa using h
    have hj := Lib.joinTail_take_succ [47] (t.map toL) j (toL (t[j])) (by simp [ht])
    simp only [gN, List.take_succ_cons, List.map_cons, Lib.join_cons, List.map_take] at hj ⊢
    rw [hj]
    simp [bytesOf, toL, List.map_append]
theorem gN_len (l : List ByteArray) (i : Nat) : (gN l i).length ≤ sumS l + l.length := by
  have h1 := joinB_size (l.take i)
  have h2 := sumS_take l i
  rw [← toL_size, toL_joinB] at h1
  have h3 : (l.take i).length ≤ l.length := by rw [List.length_take]; omega
  rw [gN, List.length_map]
  omega
theorem glue_l (l : List ByteArray) (hs : sumS l + l.length < 70368744177664) : ∀ (m i k : Nat), l.length - i = m → i ≤ l.length → m + 1 ≤ k → remoraref13_glue.l0 k l (gN l i) (i : Int) = some (joinB l ⟨#[47]⟩) := by
  intro m
  induction m with
  | zero =>
    intro i k hm hi hk
    obtain ⟨k, rfl⟩ : ∃ j, k = j + 1 := ⟨k - 1, by omega⟩
    obtain rfl : i = l.length := by omega
    rw [remoraref13_glue.l0, if_neg (by omega), gN, strOf_nums, List.take_length]
    rfl
  | succ m ih =>
    intro i k hm hi hk
    obtain ⟨k, rfl⟩ : ∃ j, k = j + 1 := ⟨k - 1, by omega⟩
    have hlt : i < l.length := by omega
    have hl := gN_len l i
    have hl2 := gN_len l (i + 1)
    have hrec := ih (i + 1) k (by omega) (by omega) (by omega)
    rw [remoraref13_glue.l0, if_pos (by omega), wr64 _ (by omega) (by omega), rdOf_get l i hlt]
    by_cases h0 : 0 < i
    · rw [gN_succ l i h0 hlt] at hrec hl2
      have hb := bytesOf_length (l[i])
      rw [List.length_append, hb] at hl2
      rw [if_pos (by omega), if_pos (by omega), Option.bind_some, if_pos (by omega), if_pos (by omega)]
      exact hrec
    · obtain rfl : i = 0 := by omega
      rw [gN_one l hlt] at hrec hl2
      have hb := bytesOf_length (l[0])
      rw [if_neg (by omega), if_pos (by omega), gN_zero, if_pos (by rw [List.length_nil]; omega)]
      exact hrec
theorem glue_f (l : List ByteArray) (hs : sumS l + l.length < 70368744177664) (k : Nat) (hk : l.length + 1 ≤ k) : remoraref13_glue.f k l = some (joinB l ⟨#[47]⟩) :=
  glue_l l hs l.length 0 k (by omega) (by omega) (by omega)
theorem join_f (l : List ByteArray) (hs : sumS l + l.length < 70368744177664) : strings_Join.f l ⟨#[47]⟩ = some (joinB l ⟨#[47]⟩) := by
  have := joinB_size l
  rw [strings_Join.f, if_pos ⟨by omega, by omega⟩]
def sml (a : ByteArray) : Prop := a.size ≤ 1048576
theorem psplit_f (a : ByteArray) (h : sml a) : path_Split.f a = some (splitL a) := by
  unfold sml at h
  rw [path_Split.f, if_pos (by omega)]
theorem rsp_f (a : ByteArray) (h : sml a) (k : Nat) (hk : 1048580 ≤ k) : remoraref13_Split.f k a = some (splitL a) := by
  unfold sml at h
  exact rsplit_f a (by omega) k (by omega)
theorem spl_len (a : ByteArray) (h : sml a) : (splitL a).length ≤ 1048577 := by
  unfold sml at h
  have := splitL_len a
  omega
theorem less_f (a b : ByteArray) (ha : sml a) (hb : sml b) (k : Nat) (hk : 1048580 ≤ k) : path_Less.f k a b = some (decide (cmpL (splitL a) (splitL b) < 0)) := by
  have := spl_len a ha
  rw [path_Less.f, psplit_f a ha, Option.bind_some, psplit_f b hb, Option.bind_some, compare_f _ _ k (by omega) (by omega), Option.bind_some]
def preB (y x : List ByteArray) : Bool := decide (x.take y.length = y)
theorem under_f (a b : ByteArray) (ha : sml a) (hb : sml b) (k : Nat) (hk : 1048580 ≤ k) : path_Under.f k a b = some (preB (splitL b) (splitL a)) := by
  have h1 := spl_len a ha
  rw [path_Under.f, psplit_f a ha, Option.bind_some, psplit_f b hb, Option.bind_some, preB]
  by_cases h : (splitL b).length ≤ (splitL a).length
  · rw [if_pos (by omega), if_pos (by omega), if_pos (by omega), Int.toNat_natCast, equal_f _ _ k (by rw [List.length_take]; omega) (by rw [List.length_take]; omega), Option.bind_some]
  · rw [if_neg (by omega), decide_eq_false]
    intro e
    have := congrArg List.length e
    rw [List.length_take] at this
    omega
theorem depth_f (a : ByteArray) (ha : sml a) : path_Depth.f a = some ((splitL a).length : Int) := by
  rw [path_Depth.f, psplit_f a ha, Option.bind_some]
def comN : List ByteArray → List ByteArray → Nat
  | a :: s, b :: t => if a = b then comN s t + 1 else 0
  | _, _ => 0
theorem comN_le : ∀ x y, comN x y ≤ x.length
  | [], _ => by simp [comN]
  | _ :: _, [] => by simp [comN]
  | a :: s, b :: t => by
    have := comN_le s t
    rw [comN]
    split
    · simp only [List.length_cons]; omega
    · exact Nat.zero_le _
theorem common_l (x y : List ByteArray) (hs : sumS x + x.length < 70368744177664) : ∀ (m i k : Nat), x.length - i = m → i ≤ x.length → m + 1 ≤ k → path_Common.l0 k x y (i : Int) = some (joinB (x.take (i + comN (x.drop i) (y.drop i))) ⟨#[47]⟩) := by
  intro m
  have hfin : ∀ i, i ≤ x.length → strings_Join.f (x.take ((i : Int)).toNat) ⟨#[47]⟩ = some (joinB (x.take i) ⟨#[47]⟩) := fun i hi => by
    rw [Int.toNat_natCast]
    refine join_f _ ?_
    have := sumS_take x i
    rw [List.length_take]
    omega
  induction m with
  | zero =>
    intro i k hm hi hk
    obtain ⟨k, rfl⟩ : ∃ j, k = j + 1 := ⟨k - 1, by omega⟩
    obtain rfl : i = x.length := by omega
    rw [path_Common.l0, if_neg (by omega), if_pos (by omega), if_pos (by omega), hfin _ hi, Option.bind_some, List.drop_length]
    simp [comN]
  | succ m ih =>
    intro i k hm hi hk
    obtain ⟨k, rfl⟩ : ∃ j, k = j + 1 := ⟨k - 1, by omega⟩
    have hlt : i < x.length := by omega
    rw [path_Common.l0, if_pos (by omega), List.drop_eq_getElem_cons hlt]
    by_cases hy : i < y.length
    · rw [if_pos (by omega), if_pos (by omega), rdOf_get x i hlt, rdOf_get y i hy, List.drop_eq_getElem_cons hy, comN]
      by_cases h : x[i] = y[i]
      · rw [if_pos ((tl_eq _ _).2 h), if_pos h, wr64 _ (by omega) (by omega)]
        have := ih (i + 1) k (by omega) (by omega) (by omega)
        refine Eq.trans this ?_
        congr 3
        omega
      · rw [if_neg (fun e => h ((tl_eq _ _).1 e)), if_neg h, if_pos (by omega), hfin _ hi, Option.bind_some]
        rfl
    · rw [if_neg (by omega), if_pos (by omega), if_pos (by omega), hfin _ hi, Option.bind_some, List.drop_eq_nil_of_le (show y.length ≤ i by omega)]
      rfl
theorem sumS_sml (a : ByteArray) (h : sml a) : sumS (splitL a) + (splitL a).length < 70368744177664 := by
  have h1 := sumS_split a
  have h2 := spl_len a h
  unfold sml at h
  omega
theorem common_f (a b : ByteArray) (ha : sml a) (hb : sml b) (k : Nat) (hk : 1048580 ≤ k) : path_Common.f k a b = some (joinB ((splitL a).take (comN (splitL a) (splitL b))) ⟨#[47]⟩) := by
  have h1 := spl_len a ha
  rw [path_Common.f, psplit_f a ha, Option.bind_some, psplit_f b hb, Option.bind_some]
  have := common_l (splitL a) (splitL b) (sumS_sml a ha) _ 0 k rfl (by omega) (by omega)
  rw [List.drop_zero, List.drop_zero, Nat.zero_add] at this
  exact this
theorem rcommon_l (x y : List ByteArray) (hs : sumS x + x.length < 70368744177664) : ∀ (m i k : Nat), x.length - i = m → i ≤ x.length → m + 1 + x.length + 1 ≤ k → remoraref13_Common.l0 k x y (i : Int) = some (joinB (x.take (i + comN (x.drop i) (y.drop i))) ⟨#[47]⟩) := by
  intro m
  have hfin : ∀ i k, i ≤ x.length → x.length + 1 ≤ k → remoraref13_glue.f k (x.take ((i : Int)).toNat) = some (joinB (x.take i) ⟨#[47]⟩) := fun i k hi hk => by
    rw [Int.toNat_natCast]
    have := sumS_take x i
    refine glue_f _ ?_ k ?_
    · rw [List.length_take]
      omega
    · rw [List.length_take]
      omega
  induction m with
  | zero =>
    intro i k hm hi hk
    obtain ⟨k, rfl⟩ : ∃ j, k = j + 1 := ⟨k - 1, by omega⟩
    obtain rfl : i = x.length := by omega
    rw [remoraref13_Common.l0, if_neg (by omega), if_pos (by omega), if_pos (by omega), hfin _ k hi (by omega), Option.bind_some, List.drop_length]
    simp [comN]
  | succ m ih =>
    intro i k hm hi hk
    obtain ⟨k, rfl⟩ : ∃ j, k = j + 1 := ⟨k - 1, by omega⟩
    have hlt : i < x.length := by omega
    rw [remoraref13_Common.l0, if_pos (by omega), List.drop_eq_getElem_cons hlt]
    by_cases hy : i < y.length
    · rw [if_pos (by omega), if_pos (by omega), rdOf_get x i hlt, rdOf_get y i hy, List.drop_eq_getElem_cons hy, comN]
      by_cases h : x[i] = y[i]
      · rw [if_pos ((tl_eq _ _).2 h), if_pos h, wr64 _ (by omega) (by omega)]
        have := ih (i + 1) k (by omega) (by omega) (by omega)
        refine Eq.trans this ?_
        congr 3
        omega
      · rw [if_neg (fun e => h ((tl_eq _ _).1 e)), if_neg h, if_pos (by omega), hfin _ k hi (by omega), Option.bind_some]
        rfl
    · rw [if_neg (by omega), if_pos (by omega), if_pos (by omega), hfin _ k hi (by omega), Option.bind_some, List.drop_eq_nil_of_le (show y.length ≤ i by omega)]
      rfl
theorem rcommon_f (a b : ByteArray) (ha : sml a) (hb : sml b) (k : Nat) (hk : 3000000 ≤ k) : remoraref13_Common.f k a b = some (joinB ((splitL a).take (comN (splitL a) (splitL b))) ⟨#[47]⟩) := by
  have h1 := spl_len a ha
  rw [remoraref13_Common.f, rsp_f a ha k (by omega), Option.bind_some, rsp_f b hb k (by omega), Option.bind_some]
  have := rcommon_l (splitL a) (splitL b) (sumS_sml a ha) _ 0 k rfl (by omega) (by omega)
  rw [List.drop_zero, List.drop_zero, Nat.zero_add] at this
  exact this
theorem runder_l (x y : List ByteArray) (hx : y.length < 4611686018427387904) : ∀ (m i k : Nat), y.length - i = m → i ≤ y.length → m + 1 ≤ k → x.take i = y.take i → remoraref13_Under.l0 k x y (i : Int) = some (preB y x) := by
  intro m
  induction m with
  | zero =>
    intro i k hm hi hk he
    obtain ⟨k, rfl⟩ : ∃ j, k = j + 1 := ⟨k - 1, by omega⟩
    obtain rfl : i = y.length := by omega
    rw [List.take_length] at he
    rw [remoraref13_Under.l0, if_neg (by omega), preB, decide_eq_true he]
  | succ m ih =>
    intro i k hm hi hk he
    obtain ⟨k, rfl⟩ : ∃ j, k = j + 1 := ⟨k - 1, by omega⟩
    have hlt : i < y.length := by omega
    rw [remoraref13_Under.l0, if_pos (by omega)]
    by_cases hx2 : i < x.length
    · rw [if_neg (by omega), if_pos (by omega), if_pos (by omega), rdOf_get x i hx2, rdOf_get y i hlt]
      by_cases h : x[i] = y[i]
      · rw [if_pos ((tl_eq _ _).2 h), wr64 _ (by omega) (by omega)]
        exact ih (i + 1) k (by omega) (by omega) (by omega) (by rw [List.take_succ_eq_append_getElem hx2, List.take_succ_eq_append_getElem hlt, he, h])
      · rw [if_neg (fun e => h ((tl_eq _ _).1 e)), preB, decide_eq_false]
        intro e
        apply h
        have h1 : (x.take y.length)[i]? = y[i]? := by rw [e]
        rw [List.getElem?_take_of_lt hlt, List.getElem?_eq_getElem hx2, List.getElem?_eq_getElem hlt] at h1
        exact Option.some.inj h1
    · rw [if_pos (by omega), preB, decide_eq_false]
      intro e
      have := congrArg List.length e
      rw [List.length_take] at this
      omega
theorem runder_f (a b : ByteArray) (ha : sml a) (hb : sml b) (k : Nat) (hk : 1048580 ≤ k) : remoraref13_Under.f k a b = some (preB (splitL b) (splitL a)) := by
  have h1 := spl_len b hb
  rw [remoraref13_Under.f, rsp_f a ha k (by omega), Option.bind_some, rsp_f b hb k (by omega), Option.bind_some]
  exact runder_l _ _ (by omega) _ 0 k rfl (by omega) (by omega) rfl
theorem less_tail (a b : ByteArray) (s t : List ByteArray) (h : a ≠ b) : decide (cmpL (a :: s) (b :: t) < 0) = Op.bytesLess a.toList b.toList := by
  rw [cmpL]
  by_cases h1 : Op.bytesLess a.toList b.toList = true
  · rw [if_pos h1, h1]; rfl
  · rw [if_neg h1, if_neg h, Bool.eq_false_iff.2 h1]; rfl
theorem less_same (a : ByteArray) (s t : List ByteArray) (h : Op.bytesLess a.toList a.toList = false) : cmpL (a :: s) (a :: t) = cmpL s t := by
  rw [cmpL, if_neg (by rw [h]; decide), if_pos rfl]
theorem bl_irr : ∀ l : List UInt8, Op.bytesLess l l = false
  | [] => rfl
  | a :: t => by
    rw [Op.bytesLess, bl_irr t]
    simp
theorem rless_l (x y : List ByteArray) (hx : x.length < 4611686018427387904) : ∀ (m i k : Nat), x.length - i = m → i ≤ x.length → i ≤ y.length → 2 * m + 2 ≤ k → remoraref13_Less.l0 k x y (i : Int) = some (decide (cmpL (x.drop i) (y.drop i) < 0)) := by
  intro m
  induction m with
  | zero =>
    intro i k hm hi hy hk
    obtain ⟨k, rfl⟩ : ∃ j, k = j + 2 := ⟨k - 2, by omega⟩
    obtain rfl : i = x.length := by omega
    rw [remoraref13_Less.l0, if_neg (by omega), remoraref13_Less.j1, if_neg (by decide), List.drop_length]
    by_cases h : x.length < y.length
    · rw [List.drop_eq_getElem_cons h, decide_eq_true (by omega)]; rfl
    · rw [List.drop_eq_nil_of_le (by omega), decide_eq_false (by omega)]; rfl
  | succ m ih =>
    intro i k hm hi hy hk
    obtain ⟨k, rfl⟩ : ∃ j, k = j + 2 := ⟨k - 2, by omega⟩
    have hlt : i < x.length := by omega
    rw [remoraref13_Less.l0, if_pos (by omega), remoraref13_Less.j1, List.drop_eq_getElem_cons hlt]
    by_cases hy2 : i < y.length
    · rw [if_pos (decide_eq_true (by omega)), if_pos (by omega), if_pos (by omega), if_pos (by omega), rdOf_get x i hlt, rdOf_get y i hy2, List.drop_eq_getElem_cons hy2]
      by_cases h : x[i] = y[i]
      · rw [if_pos ((tl_eq _ _).2 h), wr64 _ (by omega) (by omega), h, less_same _ _ _ (bl_irr _)]
        exact ih (i + 1) k (by omega) (by omega) (by omega) (by omega)
      · rw [if_neg (fun e => h ((tl_eq _ _).1 e)), less_tail _ _ _ _ h]
    · rw [if_neg (by rw [decide_eq_false (by omega)]; decide), List.drop_eq_nil_of_le (show y.length ≤ i by omega), decide_eq_false (by omega)]
      rfl
theorem rless_f (a b : ByteArray) (ha : sml a) (hb : sml b) (k : Nat) (hk : 3000000 ≤ k) : remoraref13_Less.f k a b = some (decide (cmpL (splitL a) (splitL b) < 0)) := by
  have h1 := spl_len a ha
  rw [remoraref13_Less.f, rsp_f a ha k (by omega), Option.bind_some, rsp_f b hb k (by omega), Option.bind_some]
  exact rless_l _ _ (by omega) _ 0 k rfl (by omega) (by omega) (by omega)
theorem rel_f (a b : ByteArray) (ha : sml a) (hb : sml b) (k : Nat) (hk : 1048580 ≤ k) : path_Rel.f k a b = some (if preB (splitL b) (splitL a) = true then (joinB ((splitL a).drop (splitL b).length) ⟨#[47]⟩, true) else (⟨#[]⟩, false)) := by
  rw [path_Rel.f, under_f a b ha hb k hk, Option.bind_some]
  by_cases h : preB (splitL b) (splitL a) = true
  · have hle : (splitL b).length ≤ (splitL a).length := by
      have := congrArg List.length (of_decide_eq_true h)
      rw [List.length_take] at this
      omega
    have hs := sumS_sml a ha
    have hd := sumS_drop (splitL a) (splitL b).length
    rw [if_pos h, if_pos h, psplit_f a ha, Option.bind_some, psplit_f b hb, Option.bind_some, if_pos (by omega), if_pos (by omega), Int.toNat_natCast, join_f _ (by rw [List.length_drop]; omega), Option.bind_some]
  · rw [if_neg h, if_neg h]
theorem rrel_f (a b : ByteArray) (ha : sml a) (hb : sml b) (k : Nat) (hk : 3000000 ≤ k) : remoraref13_Rel.f k a b = some (if preB (splitL b) (splitL a) = true then (joinB ((splitL a).drop (splitL b).length) ⟨#[47]⟩, true) else (⟨#[]⟩, false)) := by
  rw [remoraref13_Rel.f, runder_f a b ha hb k (by omega), Option.bind_some]
  by_cases h : preB (splitL b) (splitL a) = true
  · have hle : (splitL b).length ≤ (splitL a).length := by
      have := congrArg List.length (of_decide_eq_true h)
      rw [List.length_take] at this
      omega
    have hs := sumS_sml a ha
    have hl := spl_len a ha
    have hd := sumS_drop (splitL a) (splitL b).length
    rw [if_pos h, if_pos h, rsp_f a ha k (by omega), Option.bind_some, rsp_f b hb k (by omega), Option.bind_some, if_pos (by omega), if_pos (by omega), Int.toNat_natCast, glue_f _ (by rw [List.length_drop]; omega) k (by rw [List.length_drop]; omega), Option.bind_some]
  · rw [if_neg h, if_neg h]
theorem awake13_100 : remoralaw13_awake.f 100 = some true := by kernel_rfl
theorem awake13 (k : Nat) (hk : 100 ≤ k) : remoralaw13_awake.f k = some true := by
  induction k with
  | zero => omega
  | succ k ih =>
    by_cases h : k + 1 = 100
    · rw [h]; exact awake13_100
    · exact remoralaw13_awake.mono k _ (ih (by omega))
end Go.Proofs.Ytdomeeaaidjmpaa.PA
/-! ### YtdomeeaaidjmpaaXBaseSpec -/
namespace Go.Proofs.Ytdomeeaaidjmpaa.PA
open Go.RowKit Go.Proofs.YtdomeeaaidjmpaaW.PrintWords Go.Proofs.YtdomeeaaidjmpaaW.PrintLast Go.Proofs.YtdomeeaaidjmpaaW.PrintMore
attribute [local go_sem] max2_int min2_int max_two min_two max_three min_three max_four min_four
set_option linter.unusedVariables false
set_option linter.unusedSimpArgs false
theorem last_l (a : ByteArray) (hs : a.size < 4611686018427387904) : ∀ j k, j ≤ a.size → j + 1 ≤ k → bytealg_LastIndexByteString.l0 k a 47 ((j : Int) - 1) = some (((splitTo a j).2 : Int) - 1)
  | 0, k, _, hk => by
    obtain ⟨k, rfl⟩ : ∃ j, k = j + 1 := ⟨k - 1, by omega⟩
    rw [bytealg_LastIndexByteString.l0, if_neg (by omega)]
    rfl
  | j + 1, k, hj, hk => by
    obtain ⟨k, rfl⟩ : ∃ j, k = j + 1 := ⟨k - 1, by omega⟩
    have e : (((j + 1 : Nat) : Int) - 1) = (j : Int) := by omega
    rw [e, bytealg_LastIndexByteString.l0, if_pos (by omega), if_pos (by omega), if_pos (by omega)]
    by_cases hb : bt a (j : Int) = 47
    · rw [if_pos hb, splitTo_hit a j hb]
      show some (j : Int) = some (((j + 1 : Nat) : Int) - 1)
      rw [e]
    · rw [if_neg hb, splitTo_miss a j hb, wr64 _ (by omega) (by omega)]
      exact last_l a hs j k (by omega) (by omega)
theorem last_f (a : ByteArray) (ha : sml a) (k : Nat) (hk : 1048580 ≤ k) : strings_LastIndexByte.f k a 47 = some (((splitTo a a.size).2 : Int) - 1) := by
  unfold sml at ha
  rw [strings_LastIndexByte.f, bytealg_LastIndexByteString.f, wr64 _ (by omega) (by omega), last_l a (by omega) a.size k (by omega) (by omega), Option.bind_some]
def baseB (a : ByteArray) : ByteArray := a.extract (splitTo a a.size).2 a.size
def parB (a : ByteArray) : ByteArray := a.extract 0 ((splitTo a a.size).2 - 1)
theorem base_f (a : ByteArray) (ha : sml a) (k : Nat) (hk : 1048580 ≤ k) : path_Base.f k a = some (baseB a) := by
  have h1 := splitTo_le a a.size
  have ha' := ha
  unfold sml at ha'
  rw [path_Base.f, last_f a ha k hk, Option.bind_some]
  have e : wrap64 ((((splitTo a a.size).2 : Int) - 1) + 1) = ((splitTo a a.size).2 : Int) := by rw [wr64 _ (by omega) (by omega)]; omega
  rw [e, if_pos (by omega), if_pos (by omega), Int.toNat_natCast]
  rfl
theorem parent_f (a : ByteArray) (ha : sml a) (k : Nat) (hk : 1048580 ≤ k) : path_Parent.f k a = some (parB a) := by
  have h1 := splitTo_le a a.size
  rw [path_Parent.f, last_f a ha k hk, Option.bind_some]
  have e : mx (((splitTo a a.size).2 : Int) - 1) 0 = (((splitTo a a.size).2 - 1 : Nat) : Int) := by
    unfold mx
    split <;> omega
  rw [e, if_pos (by omega), if_pos (by omega), Int.toNat_natCast]
  rfl
theorem from_zero (a : ByteArray) : ∀ k, (splitTo a k).1.length = 0 ↔ (splitTo a k).2 = 0
  | 0 => ⟨fun _ => rfl, fun _ => rfl⟩
  | k + 1 => by
    by_cases hb : bt a (k : Int) = 47
    · rw [splitTo_hit a k hb]; simp
    · rw [splitTo_miss a k hb]; exact from_zero a k
theorem rbase_f (a : ByteArray) (ha : sml a) (k : Nat) (hk : 1048580 ≤ k) : remoraref13_Base.f k a = some (baseB a) := by
  have hl := spl_len a ha
  rw [remoraref13_Base.f, rsp_f a ha k hk, Option.bind_some]
  by_cases h : a.size = 0
  · have e := (split_nil_iff a).2 h
    rw [e, if_pos (by decide), size_zero h]
    rfl
  · have e : splitL a = (splitTo a a.size).1 ++ [a.extract (splitTo a a.size).2 a.size] := by rw [splitL, if_neg h]
    have el : (splitL a).length = (splitTo a a.size).1.length + 1 := by rw [e]; simp
    have ew : wrap64 (((splitL a).length : Int) - 1) = ((splitTo a a.size).1.length : Int) := by rw [wr64 _ (by omega) (by omega)]; omega
    rw [if_neg (by omega), ew, if_pos (by omega), if_pos (by omega), rdOf_get _ _ (by omega)]
    congr 1
    rw [List.getElem_of_eq e (by omega)]
    simp [baseB]
theorem rparent_f (a : ByteArray) (ha : sml a) (k : Nat) (hk : 1048580 ≤ k) : remoraref13_Parent.f k a = some (parB a) := by
  have hl := spl_len a ha
  rw [remoraref13_Parent.f, rsp_f a ha k hk, Option.bind_some]
  by_cases h : a.size = 0
  · have e := (split_nil_iff a).2 h
    rw [e, if_pos (by decide), size_zero h]
    rfl
  · have e : splitL a = (splitTo a a.size).1 ++ [a.extract (splitTo a a.size).2 a.size] := by rw [splitL, if_neg h]
    have el : (splitL a).length = (splitTo a a.size).1.length + 1 := by rw [e]; simp
    have hz := from_zero a a.size
    by_cases h2 : (splitTo a a.size).1.length = 0
    · rw [if_pos (by omega), parB, hz.1 h2]
      congr 1
      apply toL_inj
      rw [toL_extract]
      rfl
    · have ew : wrap64 (((splitL a).length : Int) - 1) = ((splitTo a a.size).1.length : Int) := by rw [wr64 _ (by omega) (by omega)]; omega
      have et : (splitL a).take (splitTo a a.size).1.length = (splitTo a a.size).1 := by rw [e]; simp
      have hs := sumS_sml a ha
      have ht := sumS_take (splitL a) (splitTo a a.size).1.length
      rw [et] at ht
      rw [if_neg (by omega), ew, if_pos (by omega), if_pos (by omega), Int.toNat_natCast, et, glue_f _ (by omega) k (by omega), Option.bind_some, joinB_to a a.size (Nat.le_refl _) (fun e => h2 (hz.2 e))]
      rfl
theorem rdepth_f (a : ByteArray) (ha : sml a) (k : Nat) (hk : 1048580 ≤ k) : remoraref13_Depth.f k a = some ((splitL a).length : Int) := by
  rw [remoraref13_Depth.f, rsp_f a ha k hk, Option.bind_some]
end Go.Proofs.Ytdomeeaaidjmpaa.PA
/-! ### YtdomeeaaidjmpaaXRightRef -/
namespace Go.Proofs.Ytdomeeaaidjmpaa.PA
open Go.RowKit Go.Proofs.YtdomeeaaidjmpaaW.PrintWords Go.Proofs.YtdomeeaaidjmpaaW.PrintLast Go.Proofs.YtdomeeaaidjmpaaW.PrintMore
attribute [local go_sem] max2_int min2_int max_two min_two max_three min_three max_four min_four
set_option linter.unusedVariables false
set_option linter.unusedSimpArgs false
theorem rright_l (l : List ByteArray) (hsz : ∀ s ∈ l, s.size < 4398046511104) (hl : l.length < 9223372036854775807) : ∀ k j : Nat, j ≤ l.length → l.length - j + 50 < k → remoraref13_Right.l0 k l (j : Int) = some ((l.drop j).all partB)
  | 0, j, _, h => by omega
  | k + 1, j, hj, h => by
    unfold remoraref13_Right.l0
    by_cases hlt : j < l.length
    · rw [if_pos (show (j : Int) < (l.length : Int) by omega), if_pos (show 0 ≤ (j : Int) by omega)]
      have e : rdOf ByteArray.empty l (j : Int) = l[j]'hlt := by
        simp [rdOf, hlt]
      have hs := hsz _ (List.getElem_mem hlt)
      rw [e, List.drop_eq_getElem_cons hlt, List.all_cons]
      have ih := rright_l l hsz hl k (j + 1) (by omega) (by omega)
      have e2 : wrap64 ((j : Int) + 1) = ((j + 1 : Nat) : Int) := by rw [wr64 _ (by omega) (by omega)]; rfl
      rw [e2]
      generalize l[j]'hlt = s at *
      unfold partB
      by_cases h1 : s.toList = ([] : List UInt8)
      · rw [if_pos h1, beq_iff_eq.mpr h1]
        rfl
      · rw [if_neg h1, beq_eq_false_iff_ne.mpr h1]
        by_cases h3 : s.toList = ([46] : List UInt8)
        · rw [if_pos h3, beq_iff_eq.mpr h3]
          simp
        · rw [if_neg h3, beq_eq_false_iff_ne.mpr h3]
          by_cases h4 : s.toList = ([46, 46] : List UInt8)
          · rw [if_pos h4, beq_iff_eq.mpr h4]
            simp
          · rw [if_neg h4, beq_eq_false_iff_ne.mpr h4]
            by_cases h2 : (s.size : Int) > 48
            · rw [if_pos h2, decide_eq_false (show ¬ (s.size : Int) ≤ 48 by omega)]
              rfl
            · rw [if_neg h2, decide_eq_true (show (s.size : Int) ≤ 48 by omega), rnought_f s hs k (by omega), Option.bind_some]
              by_cases hn : 0 ≤ Lib.indexByte s.data.toList 0
              · rw [decide_eq_true hn, if_pos rfl, decide_eq_false (show ¬ Lib.indexByte s.data.toList 0 < 0 by omega)]
                rfl
              · rw [decide_eq_false hn, if_neg (by decide), decide_eq_true (show Lib.indexByte s.data.toList 0 < 0 by omega), ih]
                rfl
    · obtain rfl : j = l.length := by omega
      rw [if_neg (by omega), List.drop_length]
      rfl
theorem extract_le (s : ByteArray) (a b : Nat) : (s.extract a b).size ≤ s.size := by
  rw [ByteArray.size_extract]
  omega
theorem splitTo_sizes (s : ByteArray) : ∀ k, ∀ t ∈ (splitTo s k).1, t.size ≤ s.size
  | 0 => by simp [splitTo]
  | k + 1 => by
    have ih := splitTo_sizes s k
    unfold splitTo
    split
    · intro t ht
      rcases List.mem_append.1 ht with h | h
      · exact ih t h
      · rw [List.mem_singleton.1 h]
        exact extract_le _ _ _
    · exact ih
theorem splitL_sizes (s : ByteArray) : ∀ t ∈ splitL s, t.size ≤ s.size := by
  unfold splitL
  split
  · simp
  · intro t ht
    rcases List.mem_append.1 ht with h | h
    · exact splitTo_sizes s _ t h
    · rw [List.mem_singleton.1 h]
      exact extract_le _ _ _
theorem rright_f (s : ByteArray) (hs : s.size < 4398046511104) (k : Nat) (hk : s.size + 60 < k) : remoraref13_Right.f k s = some (rightB s) := by
  unfold remoraref13_Right.f
  rw [rsplit_f s hs k (by omega), Option.bind_some]
  have hl := splitL_len s
  have hz := splitL_sizes s
  unfold rightB
  cases k with
  | zero => omega
  | succ k =>
    have hj : ∀ b, remoraref13_Right.j0 (k + 1) (splitL s) b = if b = true then some false else remoraref13_Right.l0 k (splitL s) 0 := fun _ => rfl
    have hr := rright_l (splitL s) (fun t ht => by have := hz t ht; omega) (by omega) k 0 (by omega) (by omega)
    rw [List.drop_zero] at hr
    by_cases h1 : ((splitL s).length : Int) > 12
    · rw [if_pos h1, hj, if_pos rfl, decide_eq_false (show ¬ ((splitL s).length : Int) ≤ 12 by omega)]
      simp
    · rw [if_neg h1, hj, decide_eq_true (show ((splitL s).length : Int) ≤ 12 by omega)]
      by_cases h2 : (s.size : Int) > 200
      · rw [decide_eq_true h2, if_pos rfl, decide_eq_false (show ¬ (s.size : Int) ≤ 200 by omega)]
        simp
      · rw [decide_eq_false h2, if_neg (by decide), decide_eq_true (show (s.size : Int) ≤ 200 by omega)]
        rw [show ((0 : Nat) : Int) = 0 from rfl] at hr
        rw [hr]
        simp
end Go.Proofs.Ytdomeeaaidjmpaa.PA
/-! ### YtdomeeaaidjmpaaXCleanSpec -/
namespace Go.Proofs.Ytdomeeaaidjmpaa.PA
open Go.RowKit Go.Proofs.YtdomeeaaidjmpaaW.PrintWords Go.Proofs.YtdomeeaaidjmpaaW.PrintLast Go.Proofs.YtdomeeaaidjmpaaW.PrintMore
attribute [local go_sem] max2_int min2_int max_two min_two max_three min_three max_four min_four
set_option linter.unusedVariables false
set_option linter.unusedSimpArgs false
def skipB (s : ByteArray) : Bool := if s.toList = ([] : List UInt8) then true else (s.toList == ([46] : List UInt8))
def errB (s : ByteArray) : Int := if s.toList = ([46, 46] : List UInt8) then 16 else if 0 ≤ Lib.indexByte s.data.toList 0 then 9 else if (s.size : Int) > 48 then 7 else 0
def cleanP : List ByteArray → List ByteArray → List ByteArray × Int
  | acc, [] => (acc, 0)
  | acc, s :: t => if skipB s = true then cleanP acc t else if errB s = 0 then cleanP (acc ++ [s]) t else (acc, errB s)
def finR (r : List ByteArray × Int) : ByteArray × Int :=
  if r.2 = 0 then (if (r.1.length : Int) > 12 then ((⟨#[]⟩ : ByteArray), 7) else if ((joinB r.1 ⟨#[47]⟩).size : Int) > 200 then ((⟨#[]⟩ : ByteArray), 7) else (joinB r.1 ⟨#[47]⟩, 0)) else ((⟨#[]⟩ : ByteArray), r.2)
def cleanR (l : List ByteArray) : ByteArray × Int := finR (cleanP [] l)
theorem err_zero (s : ByteArray) (h : errB s = 0) : ¬ s.toList = ([46, 46] : List UInt8) ∧ ¬ 0 ≤ Lib.indexByte s.data.toList 0 ∧ ¬ (s.size : Int) > 48 := by
  unfold errB at h
  by_cases h1 : s.toList = ([46, 46] : List UInt8)
  · rw [if_pos h1] at h; exact absurd h (by decide)
  · rw [if_neg h1] at h
    by_cases h2 : 0 ≤ Lib.indexByte s.data.toList 0
    · rw [if_pos h2] at h; exact absurd h (by decide)
    · rw [if_neg h2] at h
      by_cases h3 : (s.size : Int) > 48
      · rw [if_pos h3] at h; exact absurd h (by decide)
      · exact ⟨h1, h2, h3⟩
theorem skip_if (s : ByteArray) (β : Type) (f : Bool → β) : (if s.toList = ([] : List UInt8) then f true else f (s.toList == ([46] : List UInt8))) = f (skipB s) := by
  unfold skipB
  split <;> rfl
theorem fin_join (acc : List ByteArray) (h : sumS acc + acc.length < 70368744177664) : ((strings_Join.f acc (⟨#[47]⟩ : ByteArray)).bind fun t101 => (if (acc.length : Int) > 12 then (some ((⟨#[]⟩ : ByteArray), (7 : Int))) else (if (t101.size : Int) > 200 then (some ((⟨#[]⟩ : ByteArray), 7)) else (some (t101, 0))))) = some (finR (acc, 0)) := by
  rw [join_f acc h, Option.bind_some, finR, if_pos rfl]
  dsimp only
  split
  · rfl
  · split <;> rfl
theorem clean_l (l : List ByteArray) (hl : l.length ≤ 3000000) : ∀ (m i k : Nat) (acc : List ByteArray), l.length - i = m → i ≤ l.length → acc.length ≤ i → sumS acc ≤ 48 * i → 2 * m + 1 ≤ k → path_clean.l0 k acc l (l.length : Int) (i : Int) = some (finR (cleanP acc (l.drop i))) := by
  intro m
  induction m with
  | zero =>
    intro i k acc hm hi ha hs hk
    obtain ⟨k, rfl⟩ : ∃ j, k = j + 1 := ⟨k - 1, by omega⟩
    obtain rfl : i = l.length := by omega
    rw [path_clean.l0, if_neg (by omega), List.drop_length, cleanP]
    exact fin_join acc (by omega)
  | succ m ih =>
    intro i k acc hm hi ha hs hk
    obtain ⟨k, rfl⟩ : ∃ j, k = j + 2 := ⟨k - 2, by omega⟩
    have hlt : i < l.length := by omega
    rw [path_clean.l0, if_pos (by omega), if_pos (by omega), if_pos (by omega), rdOf_get l i hlt, List.drop_eq_getElem_cons hlt, cleanP]
    generalize l[i] = s
    refine (skip_if s _ (fun b => path_clean.j1 (k + 1) acc s l (l.length : Int) (i : Int) b)).trans ?_
    rw [path_clean.j1, wr64 _ (by omega) (by omega)]
    by_cases hsk : skipB s = true
    · rw [if_pos hsk, if_pos hsk]
      exact ih (i + 1) k acc (by omega) (by omega) (by omega) (by omega) (by omega)
    · rw [if_neg hsk, if_neg hsk]
      have hix : strings_IndexByte.f s 0 = some (Lib.indexByte s.data.toList 0) := rfl
      rw [hix, Option.bind_some]
      by_cases he : errB s = 0
      · obtain ⟨e1, e2, e3⟩ := err_zero s he
        rw [if_pos he, if_neg e1, if_neg (by omega), if_neg e3, if_pos (by omega)]
        have hsum : sumS (acc ++ [s]) = sumS acc + s.size := by rw [sumS_app]; rfl
        exact ih (i + 1) k (acc ++ [s]) (by omega) (by omega) (by simp; omega) (by omega) (by omega)
      · rw [if_neg he]
        have hf : finR (acc, errB s) = ((⟨#[]⟩ : ByteArray), errB s) := by rw [finR, if_neg he]
        rw [hf]
        unfold errB at he ⊢
        by_cases h1 : s.toList = ([46, 46] : List UInt8)
        · rw [if_pos h1, if_pos h1]
        · rw [if_neg h1] at he ⊢
          rw [if_neg h1]
          by_cases h2 : 0 ≤ Lib.indexByte s.data.toList 0
          · rw [if_pos h2, if_pos (by omega)]
          · rw [if_neg h2] at he
            rw [if_neg h2, if_neg h2]
            by_cases h3 : (s.size : Int) > 48
            · rw [if_pos h3, if_pos h3]
            · rw [if_neg h3] at he; exact absurd rfl he
theorem clean_f (l : List ByteArray) (hl : l.length ≤ 3000000) (k : Nat) (hk : 6000010 ≤ k) : path_clean.f k l = some (cleanR l) :=
  clean_l l hl l.length 0 k [] (by omega) (by omega) (by simp) (by simp [sumS]) (by omega)
theorem rfin_glue (acc : List ByteArray) (h : sumS acc + acc.length < 70368744177664) (k : Nat) (hk : acc.length + 1 ≤ k) : (if (acc.length : Int) > 12 then (some ((⟨#[]⟩ : ByteArray), (7 : Int))) else ((remoraref13_glue.f k acc).bind fun t111 => (if (t111.size : Int) > 200 then (some ((⟨#[]⟩ : ByteArray), 7)) else ((remoraref13_glue.f k acc).bind fun t112 => (some (t112, 0)))))) = some (finR (acc, 0)) := by
  rw [glue_f acc h k hk, Option.bind_some, Option.bind_some, finR, if_pos rfl]
  dsimp only
  split
  · rfl
  · split <;> rfl
theorem rclean_l (l : List ByteArray) (hl : l.length ≤ 3000000) (hz : ∀ s ∈ l, s.size ≤ 1048576) : ∀ (m i k : Nat) (acc : List ByteArray), l.length - i = m → i ≤ l.length → acc.length ≤ i → sumS acc ≤ 48 * i → 2 * m + 4100000 ≤ k → remoraref13_clean.l0 k l acc (i : Int) = some (finR (cleanP acc (l.drop i))) := by
  intro m
  induction m with
  | zero =>
    intro i k acc hm hi ha hs hk
    obtain ⟨k, rfl⟩ : ∃ j, k = j + 1 := ⟨k - 1, by omega⟩
    obtain rfl : i = l.length := by omega
    rw [remoraref13_clean.l0, if_neg (by omega), List.drop_length, cleanP]
    exact rfin_glue acc (by omega) k (by omega)
  | succ m ih =>
    intro i k acc hm hi ha hs hk
    obtain ⟨k, rfl⟩ : ∃ j, k = j + 2 := ⟨k - 2, by omega⟩
    have hlt : i < l.length := by omega
    have hsz := hz _ (List.getElem_mem hlt)
    rw [remoraref13_clean.l0, if_pos (by omega), if_pos (by omega), rdOf_get l i hlt, List.drop_eq_getElem_cons hlt, cleanP]
    refine (skip_if (l[i]) _ (fun b => remoraref13_clean.j1 (k + 1) l acc (i : Int) b)).trans ?_
    rw [remoraref13_clean.j1, wr64 _ (by omega) (by omega), rdOf_get l i hlt]
    generalize l[i] = s at hsz ⊢
    by_cases hsk : skipB s = true
    · rw [if_pos hsk, if_pos hsk]
      exact ih (i + 1) k acc (by omega) (by omega) (by omega) (by omega) (by omega)
    · rw [if_neg hsk, if_neg hsk, if_pos (by omega), if_pos (by omega), rnought_f s (by omega) k (by omega), Option.bind_some]
      by_cases he : errB s = 0
      · obtain ⟨e1, e2, e3⟩ := err_zero s he
        rw [if_pos he, if_neg e1, if_neg (by rw [decide_eq_false e2]; decide), if_neg e3, if_pos (by omega)]
        have hsum : sumS (acc ++ [s]) = sumS acc + s.size := by rw [sumS_app]; rfl
        exact ih (i + 1) k (acc ++ [s]) (by omega) (by omega) (by simp; omega) (by omega) (by omega)
      · rw [if_neg he]
        have hf : finR (acc, errB s) = ((⟨#[]⟩ : ByteArray), errB s) := by rw [finR, if_neg he]
        rw [hf]
        unfold errB at he ⊢
        by_cases h1 : s.toList = ([46, 46] : List UInt8)
        · rw [if_pos h1, if_pos h1]
        · rw [if_neg h1] at he ⊢
          rw [if_neg h1]
          by_cases h2 : 0 ≤ Lib.indexByte s.data.toList 0
          · rw [if_pos h2, if_pos (decide_eq_true h2)]
          · rw [if_neg h2] at he ⊢
            rw [if_neg (by rw [decide_eq_false h2]; decide)]
            by_cases h3 : (s.size : Int) > 48
            · rw [if_pos h3, if_pos h3]
            · rw [if_neg h3] at he; exact absurd rfl he
theorem rclean_f (l : List ByteArray) (hl : l.length ≤ 3000000) (hz : ∀ s ∈ l, s.size ≤ 1048576) (k : Nat) (hk : 10200010 ≤ k) : remoraref13_clean.f k l = some (cleanR l) :=
  rclean_l l hl hz l.length 0 k [] (by omega) (by omega) (by simp) (by simp [sumS]) (by omega)
theorem pClean_f (a : ByteArray) (ha : sml a) (k : Nat) (hk : 6000010 ≤ k) : path_Clean.f k a = some (cleanR (splitL a)) := by
  have := spl_len a ha
  rw [path_Clean.f, psplit_f a ha, Option.bind_some, clean_f _ (by omega) k hk, Option.bind_some]
theorem rClean_f (a : ByteArray) (ha : sml a) (k : Nat) (hk : 10200010 ≤ k) : remoraref13_Clean.f k a = some (cleanR (splitL a)) := by
  have := spl_len a ha
  rw [remoraref13_Clean.f, rsp_f a ha k (by omega), Option.bind_some, rclean_f _ (by omega) (fun s hs => Nat.le_trans (splitL_sizes a s hs) ha) k hk, Option.bind_some]
def splitsL : List ByteArray → List ByteArray
  | [] => []
  | a :: t => splitL a ++ splitsL t
theorem splits_app (a b : List ByteArray) : splitsL (a ++ b) = splitsL a ++ splitsL b := by
  induction a with
  | nil => rfl
  | cons x t ih => simp only [List.cons_append, splitsL, ih, List.append_assoc]
theorem splits_len (l : List ByteArray) (b : Nat) (h : ∀ a ∈ l, a.size ≤ b) : (splitsL l).length ≤ (b + 1) * l.length := by
  induction l with
  | nil => simp [splitsL]
  | cons a t ih =>
    have h1 := h a (List.mem_cons_self ..)
    have h2 := ih (fun p hp => h p (List.mem_cons_of_mem _ hp))
    have h3 := splitL_len a
    simp only [splitsL, List.length_append, List.length_cons, Nat.mul_add]
    omega
theorem splits_size (l : List ByteArray) (b : Nat) (h : ∀ a ∈ l, a.size ≤ b) : ∀ s ∈ splitsL l, s.size ≤ b := by
  induction l with
  | nil => simp [splitsL]
  | cons a t ih =>
    intro s hs
    rcases List.mem_append.1 (show s ∈ splitL a ++ splitsL t from hs) with h1 | h1
    · exact Nat.le_trans (splitL_sizes a s h1) (h a (List.mem_cons_self ..))
    · exact ih (fun p hp => h p (List.mem_cons_of_mem _ hp)) s h1
theorem splits_take (l : List ByteArray) (i : Nat) (h : i < l.length) : splitsL (l.take (i + 1)) = splitsL (l.take i) ++ splitL (l[i]) := by
  rw [List.take_succ_eq_append_getElem h, splits_app]
  simp [splitsL]
theorem pJoin_l (l : List ByteArray) (hz : ∀ a ∈ l, a.size ≤ 4000) (hl : l.length ≤ 700) : ∀ (m i k : Nat), l.length - i = m → i ≤ l.length → m + 6000020 ≤ k → path_Join.l0 k (splitsL (l.take i)) l (l.length : Int) (i : Int) = some (cleanR (splitsL l)) := by
  intro m
  have htl : ∀ i, i ≤ l.length → (splitsL (l.take i)).length ≤ 2800700 := fun i hi => by
    have h1 := splits_len (l.take i) 4000 (fun a ha => hz a (List.mem_of_mem_take ha))
    rw [List.length_take] at h1
    have : (4000 + 1) * min i l.length ≤ 4001 * 700 := Nat.mul_le_mul_left _ (by omega)
    omega
  induction m with
  | zero =>
    intro i k hm hi hk
    obtain ⟨k, rfl⟩ : ∃ j, k = j + 1 := ⟨k - 1, by omega⟩
    obtain rfl : i = l.length := by omega
    have h1 := htl l.length (by omega)
    rw [List.take_length] at h1 ⊢
    rw [path_Join.l0, if_neg (by omega), clean_f _ (by omega) k (by omega), Option.bind_some]
  | succ m ih =>
    intro i k hm hi hk
    obtain ⟨k, rfl⟩ : ∃ j, k = j + 1 := ⟨k - 1, by omega⟩
    have hlt : i < l.length := by omega
    have hsz := hz _ (List.getElem_mem hlt)
    have hsm : sml (l[i]) := by unfold sml; omega
    have h1 := htl i (by omega)
    have h2 := splitL_len (l[i])
    have hrec := ih (i + 1) k (by omega) (by omega) (by omega)
    rw [splits_take l i hlt] at hrec
    rw [path_Join.l0, if_pos (by omega), if_pos (by omega), if_pos (by omega), rdOf_get l i hlt, psplit_f _ hsm, Option.bind_some, if_pos (by omega), wr64 _ (by omega) (by omega)]
    exact hrec
theorem pJoin_f (l : List ByteArray) (hz : ∀ a ∈ l, a.size ≤ 4000) (hl : l.length ≤ 700) (k : Nat) (hk : 6000800 ≤ k) : path_Join.f k l = some (cleanR (splitsL l)) :=
  pJoin_l l hz hl l.length 0 k (by omega) (by omega) (by omega)
theorem rJoin_l (l : List ByteArray) (hz : ∀ a ∈ l, a.size ≤ 4000) (hl : l.length ≤ 700) : ∀ (m i k : Nat), l.length - i = m → i ≤ l.length → m + 10200020 ≤ k → remoraref13_Join.l0 k l (splitsL (l.take i)) (i : Int) = some (cleanR (splitsL l)) := by
  intro m
  have htl : ∀ i, i ≤ l.length → (splitsL (l.take i)).length ≤ 2800700 := fun i hi => by
    have h1 := splits_len (l.take i) 4000 (fun a ha => hz a (List.mem_of_mem_take ha))
    rw [List.length_take] at h1
    have : (4000 + 1) * min i l.length ≤ 4001 * 700 := Nat.mul_le_mul_left _ (by omega)
    omega
  induction m with
  | zero =>
    intro i k hm hi hk
    obtain ⟨k, rfl⟩ : ∃ j, k = j + 1 := ⟨k - 1, by omega⟩
    obtain rfl : i = l.length := by omega
    have h1 := htl l.length (by omega)
    rw [List.take_length] at h1 ⊢
    rw [remoraref13_Join.l0, if_neg (by omega), rclean_f _ (by omega) (fun s hs => Nat.le_trans (splits_size l 4000 hz s hs) (by omega)) k (by omega), Option.bind_some]
  | succ m ih =>
    intro i k hm hi hk
    obtain ⟨k, rfl⟩ : ∃ j, k = j + 1 := ⟨k - 1, by omega⟩
    have hlt : i < l.length := by omega
    have hsz := hz _ (List.getElem_mem hlt)
    have hsm : sml (l[i]) := by unfold sml; omega
    have h1 := htl i (by omega)
    have h2 := splitL_len (l[i])
    have hrec := ih (i + 1) k (by omega) (by omega) (by omega)
    rw [splits_take l i hlt] at hrec
    rw [remoraref13_Join.l0, if_pos (by omega), if_pos (by omega), rdOf_get l i hlt, rsp_f _ hsm k (by omega), Option.bind_some, if_pos (by omega), wr64 _ (by omega) (by omega)]
    exact hrec
theorem rJoin_f (l : List ByteArray) (hz : ∀ a ∈ l, a.size ≤ 4000) (hl : l.length ≤ 700) (k : Nat) (hk : 10200800 ≤ k) : remoraref13_Join.f k l = some (cleanR (splitsL l)) :=
  rJoin_l l hz hl l.length 0 k (by omega) (by omega) (by omega)
end Go.Proofs.Ytdomeeaaidjmpaa.PA
/-! ### YtdomeeaaidjmpaaXCleanFacts -/
namespace Go.Proofs.Ytdomeeaaidjmpaa.PA
open Go.RowKit Go.Proofs.YtdomeeaaidjmpaaW.PrintWords Go.Proofs.YtdomeeaaidjmpaaW.PrintLast Go.Proofs.YtdomeeaaidjmpaaW.PrintMore
attribute [local go_sem] max2_int min2_int max_two min_two max_three min_three max_four min_four
set_option linter.unusedVariables false
set_option linter.unusedSimpArgs false
def keepB (s : ByteArray) : Bool := !skipB s
theorem good_iff (s : ByteArray) : partB s = true ↔ skipB s = false ∧ errB s = 0 := by
  unfold partB skipB errB
  rw [Bool.and_eq_true, Bool.and_eq_true, Bool.and_eq_true, Bool.and_eq_true, decide_eq_true_iff, decide_eq_true_iff]
  by_cases h1 : s.toList = ([] : List UInt8)
  · rw [if_pos h1, h1]
    simp
  · rw [if_neg h1, beq_eq_false_iff_ne.2 h1]
    by_cases h2 : s.toList = ([46] : List UInt8)
    · rw [beq_iff_eq.2 h2]
      simp
    · rw [beq_eq_false_iff_ne.2 h2]
      by_cases h3 : s.toList = ([46, 46] : List UInt8)
      · rw [beq_iff_eq.2 h3, if_pos h3]
        simp
      · rw [beq_eq_false_iff_ne.2 h3, if_neg h3]
        by_cases h4 : 0 ≤ Lib.indexByte s.data.toList 0
        · rw [if_pos h4]
          simp
          intro _
          omega
        · rw [if_neg h4]
          by_cases h5 : (s.size : Int) > 48
          · rw [if_pos h5]
            simp
            omega
          · rw [if_neg h5]
            simp
            exact ⟨by omega, by omega⟩
theorem cleanP_good : ∀ (l acc : List ByteArray), (∀ s ∈ l, partB s = true) → cleanP acc l = (acc ++ l, 0)
  | [], acc, _ => by rw [cleanP, List.append_nil]
  | s :: t, acc, h => by
    have hs := (good_iff s).1 (h s (List.mem_cons_self ..))
    rw [cleanP, hs.1, if_neg (by decide), if_pos hs.2, cleanP_good t _ (fun x hx => h x (List.mem_cons_of_mem _ hx)), List.append_assoc]
    rfl
theorem cleanP_zero : ∀ (l acc : List ByteArray), (cleanP acc l).2 = 0 → (cleanP acc l).1 = acc ++ l.filter keepB ∧ ∀ s ∈ l.filter keepB, partB s = true
  | [], acc, _ => ⟨by simp [cleanP], by simp⟩
  | s :: t, acc, h => by
    rw [cleanP] at h ⊢
    by_cases hk : skipB s = true
    · rw [if_pos hk] at h ⊢
      have ih := cleanP_zero t acc h
      rw [List.filter_cons_of_neg (by rw [keepB, hk]; decide)]
      exact ih
    · have hk' := Bool.eq_false_iff.2 hk
      rw [if_neg hk] at h ⊢
      by_cases he : errB s = 0
      · rw [if_pos he] at h ⊢
        have ih := cleanP_zero t (acc ++ [s]) h
        rw [List.filter_cons_of_pos (by rw [keepB, hk']; decide), ih.1, List.append_assoc]
        refine ⟨rfl, fun x hx => ?_⟩
        rcases List.mem_cons.1 hx with h1 | h1
        · rw [h1]; exact (good_iff s).2 ⟨hk', he⟩
        · exact ih.2 x h1
      · rw [if_neg he] at h
        exact absurd h he
theorem partB_ne (s : ByteArray) (h : partB s = true) : s.size ≠ 0 := by
  intro e
  rw [size_zero e] at h
  have e2 : partB ⟨#[]⟩ = false := by simp [partB, ByteArray.toList_eq]
  rw [e2] at h
  exact absurd h (by decide)
theorem clean_right (a : ByteArray) (h : rightB a = true) : cleanR (splitL a) = (a, 0) := by
  unfold rightB at h
  rw [Bool.and_eq_true, Bool.and_eq_true, decide_eq_true_iff, decide_eq_true_iff, List.all_eq_true] at h
  obtain ⟨⟨h1, h2⟩, h3⟩ := h
  rw [cleanR, cleanP_good _ _ h1, List.nil_append, finR, if_pos rfl]
  dsimp only
  rw [joinB_split, if_neg (by omega), if_neg (by omega)]
theorem clean_back (l : List ByteArray) (hno : ∀ s ∈ l, (47 : UInt8) ∉ toL s) (h : (cleanR l).2 = 0) : splitL (cleanR l).1 = l.filter keepB ∧ rightB (cleanR l).1 = true ∧ (l.filter keepB).length ≤ 12 := by
  unfold cleanR at h ⊢
  have hz : (cleanP [] l).2 = 0 := by
    by_cases hz : (cleanP [] l).2 = 0
    · exact hz
    · rw [finR, if_neg hz] at h
      exact h
  obtain ⟨e1, e2⟩ := cleanP_zero l [] hz
  rw [List.nil_append] at e1
  rw [finR, if_pos hz, e1] at h ⊢
  by_cases h12 : ((l.filter keepB).length : Int) > 12
  · rw [if_pos h12] at h; exact absurd h (by decide)
  · rw [if_neg h12] at h ⊢
    by_cases h200 : ((joinB (l.filter keepB) ⟨#[47]⟩).size : Int) > 200
    · rw [if_pos h200] at h; exact absurd h (by decide)
    · rw [if_neg h200]
      have es : splitL (joinB (l.filter keepB) ⟨#[47]⟩) = l.filter keepB := split_joinB _ (fun p hp => partB_ne p (e2 p hp)) (fun p hp => hno p (List.mem_filter.1 hp).1)
      dsimp only
      refine ⟨es, ?_, by omega⟩
      unfold rightB
      rw [es, Bool.and_eq_true, Bool.and_eq_true, decide_eq_true_iff, decide_eq_true_iff, List.all_eq_true]
      exact ⟨⟨e2, by omega⟩, by omega⟩
end Go.Proofs.Ytdomeeaaidjmpaa.PA
/-! ### YtdomeeaaidjmpaaXPathBackLaw -/
namespace Go.Proofs.Ytdomeeaaidjmpaa.PA
open Go.RowKit Go.Proofs.YtdomeeaaidjmpaaW.PrintWords Go.Proofs.YtdomeeaaidjmpaaW.PrintLast Go.Proofs.YtdomeeaaidjmpaaW.PrintMore
attribute [local go_sem] max2_int min2_int max_two min_two max_three min_three max_four min_four
set_option linter.unusedVariables false
set_option linter.unusedSimpArgs false
theorem right_parts (p : ByteArray) (h : rightB p = true) : (∀ s ∈ splitL p, partB s = true) ∧ (splitL p).length ≤ 12 ∧ p.size ≤ 200 := by
  unfold rightB at h
  rw [Bool.and_eq_true, Bool.and_eq_true, decide_eq_true_iff, decide_eq_true_iff, List.all_eq_true] at h
  exact ⟨h.1.1, by omega, by omega⟩
theorem split_sub (p : ByteArray) (hg : ∀ s ∈ splitL p, partB s = true) (l : List ByteArray) (hl : ∀ s ∈ l, s ∈ splitL p) : splitL (joinB l ⟨#[47]⟩) = l :=
  split_joinB l (fun s hs => partB_ne s (hg s (hl s hs))) (fun s hs => split_no47 p s (hl s hs))
theorem comN_take : ∀ x y, x.take (comN x y) = y.take (comN x y) ∧ comN x y ≤ y.length
  | [], _ => by simp [comN]
  | _ :: _, [] => by simp [comN]
  | a :: s, b :: t => by
    have ih := comN_take s t
    rw [comN]
    by_cases h : a = b
    · rw [if_pos h, List.take_succ_cons, List.take_succ_cons, ih.1, h]
      exact ⟨rfl, by simp only [List.length_cons]; omega⟩
    · rw [if_neg h]
      exact ⟨rfl, Nat.zero_le _⟩
theorem comN_comm : ∀ x y, comN x y = comN y x
  | [], [] => rfl
  | [], _ :: _ => rfl
  | _ :: _, [] => rfl
  | a :: s, b :: t => by
    rw [comN, comN, comN_comm s t]
    by_cases h : a = b
    · rw [if_pos h, if_pos h.symm]
    · rw [if_neg h, if_neg (fun e => h e.symm)]
theorem comN_ge : ∀ (m : Nat) (x y : List ByteArray), m ≤ x.length → y.take m = x.take m → m ≤ comN x y
  | 0, _, _, _, _ => Nat.zero_le _
  | m + 1, [], _, h, _ => absurd h (by simp)
  | m + 1, _ :: _, [], _, h => by simp at h
  | m + 1, a :: s, b :: t, hl, h => by
    rw [List.take_succ_cons, List.take_succ_cons] at h
    have h1 := List.cons.inj h
    have ih := comN_ge m s t (by simpa using hl) h1.2
    rw [comN, if_pos h1.1.symm]
    omega
theorem comN_le' (x y) : comN x y ≤ x.length := by
  rw [comN_comm]
  exact (comN_take y x).2
theorem under_same (x y : List ByteArray) (m : Nat) (hm : m ≤ x.length) : preB (x.take m) (x.take (comN x y)) = preB (x.take m) y := by
  have hc := comN_take x y
  have hle := comN_le' x y
  have hlen : (x.take m).length = m := by rw [List.length_take]; omega
  unfold preB
  rw [hlen]
  refine decide_eq_decide.2 ⟨fun h => ?_, fun h => ?_⟩
  · have h1 := congrArg List.length h
    rw [List.length_take, List.length_take, List.length_take] at h1
    have hmn : m ≤ comN x y := by omega
    have h2 : (y.take (comN x y)).take m = y.take m := by rw [List.take_take, Nat.min_eq_left hmn]
    rw [← h2, ← hc.1]
    exact h
  · have hmn := comN_ge m x y hm h
    rw [List.take_take, Nat.min_eq_left hmn]
theorem joinB_take_size (l : List ByteArray) (m : Nat) : (joinB (l.take m) ⟨#[47]⟩).size ≤ (joinB l ⟨#[47]⟩).size := by
  by_cases h : l.take m = []
  · rw [h]; exact Nat.zero_le _
  · have hl : l ≠ [] := fun e => h (by rw [e]; simp)
    have h1 := joinB_size' _ h
    have h2 := joinB_size' _ hl
    have h3 := sumS_take l m
    have h4 : (l.take m).length ≤ l.length := by rw [List.length_take]; omega
    omega
theorem par_parts (p : ByteArray) (hg : ∀ s ∈ splitL p, partB s = true) : splitL (parB p) = (splitL p).take ((splitL p).length - 1) ∧ splitL (parB p) ++ splitL (baseB p) = splitL p ∧ (parB p).size ≤ p.size ∧ (baseB p).size ≤ p.size := by
  have hsz : (parB p).size ≤ p.size ∧ (baseB p).size ≤ p.size := ⟨extract_le _ _ _, extract_le _ _ _⟩
  by_cases h : p.size = 0
  · have e := (split_nil_iff p).2 h
    have e1 := (split_nil_iff (parB p)).2 (by omega)
    have e2 := (split_nil_iff (baseB p)).2 (by omega)
    rw [e, e1, e2]
    exact ⟨rfl, rfl, hsz⟩
  · have e : splitL p = (splitTo p p.size).1 ++ [baseB p] := by rw [splitL, if_neg h]; rfl
    have e1 : splitL (parB p) = (splitTo p p.size).1 := by
      by_cases hf : (splitTo p p.size).2 = 0
      · have h0 := (from_zero p p.size).2 hf
        have h1 : (parB p).size = 0 := by
          rw [parB, hf, ← toL_size, toL_extract]
          simp
        rw [(split_nil_iff _).2 h1, List.length_eq_zero_iff.1 h0]
      · have hj := joinB_to p p.size (Nat.le_refl _) hf
        rw [parB, ← hj]
        exact split_sub p hg _ (fun s hs => by rw [e]; exact List.mem_append_left _ hs)
    have e2 : splitL (baseB p) = [baseB p] := by
      have := split_sub p hg [baseB p] (fun s hs => by rw [e]; exact List.mem_append_right _ hs)
      have ej : joinB [baseB p] ⟨#[47]⟩ = baseB p := by
        apply toL_inj
        rw [toL_joinB]
        simp [Lib.join_one]
      rw [ej] at this
      exact this
    refine ⟨?_, ?_, hsz⟩
    · rw [e1, e]
      simp
    · rw [e1, e2, ← e]
theorem pathBack_j (a b : ByteArray) (ha : sml a) (hb : sml b) (k : Nat) (hk : 7000000 ≤ k) (hra : rightB a = true) (hrb : rightB b = true) : remoralaw13_PathBack.j0 k a b false = some true := by
  obtain ⟨k, rfl⟩ : ∃ j, k = j + 2 := ⟨k - 2, by omega⟩
  obtain ⟨g1, n1, s1⟩ := right_parts a hra
  obtain ⟨g2, n2, s2⟩ := right_parts b hrb
  have hcl := clean_right a hra
  have hj : joinB (splitL a) ⟨#[47]⟩ = a := joinB_split a
  have hsum := sumS_split a
  obtain ⟨p1, p2, p3, p4⟩ := par_parts a g1
  have hc := comN_take (splitL a) (splitL b)
  have hcm := comN_comm (splitL a) (splitL b)
  have hcle := comN_le' (splitL a) (splitL b)
  have htopS := joinB_take_size (splitL a) (comN (splitL a) (splitL b))
  have htop := split_sub a g1 ((splitL a).take (comN (splitL a) (splitL b))) (fun s hs => List.mem_of_mem_take hs)
  have hrel := split_sub a g1 ((splitL a).drop (comN (splitL a) (splitL b))) (fun s hs => List.mem_of_mem_drop hs)
  have hrelS := joinB_size ((splitL a).drop (comN (splitL a) (splitL b)))
  have hrelS2 := sumS_drop (splitL a) (comN (splitL a) (splitL b))
  rw [hj] at htopS
  have us := under_same (splitL a) (splitL b) ((splitL a).length - 1) (by omega)
  have hpre : preB ((splitL a).take (comN (splitL a) (splitL b))) (splitL a) = true := by
    unfold preB
    rw [List.length_take, Nat.min_eq_left hcle]
    exact decide_eq_true rfl
  have hpre2 : preB ((splitL a).take (comN (splitL a) (splitL b))) (splitL b) = true := by
    unfold preB
    rw [List.length_take, Nat.min_eq_left hcle]
    exact decide_eq_true hc.1.symm
  have htl : ((splitL a).take (comN (splitL a) (splitL b))).length = comN (splitL a) (splitL b) := by rw [List.length_take]; omega
  have hdl : ((splitL a).drop (comN (splitL a) (splitL b))).length ≤ 12 := by rw [List.length_drop]; omega
  have hother : joinB ((splitL b).take (comN (splitL b) (splitL a))) ⟨#[47]⟩ = joinB ((splitL a).take (comN (splitL a) (splitL b))) ⟨#[47]⟩ := by rw [← hcm, ← hc.1]
  have hrt : rightB (joinB ((splitL a).take (comN (splitL a) (splitL b))) ⟨#[47]⟩) = true := by
    unfold rightB
    rw [htop, Bool.and_eq_true, Bool.and_eq_true, decide_eq_true_iff, decide_eq_true_iff, List.all_eq_true]
    exact ⟨⟨fun s hs => g1 s (List.mem_of_mem_take hs), by omega⟩, by omega⟩
  have hcomb : splitsL [joinB ((splitL a).take (comN (splitL a) (splitL b))) ⟨#[47]⟩, joinB ((splitL a).drop (comN (splitL a) (splitL b))) ⟨#[47]⟩] = splitL a := by
    simp only [splitsL, htop, hrel, List.append_nil, List.take_append_drop]
  have hcomb2 : splitsL [parB a, baseB a] = splitL a := by
    simp only [splitsL, List.append_nil, p2]
  rw [remoralaw13_PathBack.j0, if_neg (by decide), common_f a b ha hb (k + 1) (by omega), Option.bind_some]
  generalize htop0 : joinB ((splitL a).take (comN (splitL a) (splitL b))) ⟨#[47]⟩ = top at *
  have hts : sml top := by unfold sml; omega
  rw [rel_f a top ha hts (k + 1) (by omega), Option.bind_some, htop, htl, if_pos hpre]
  dsimp only
  generalize hrel0 : joinB ((splitL a).drop (comN (splitL a) (splitL b))) ⟨#[47]⟩ = rel at *
  have hJ1 := pJoin_f [top, rel] (fun s hs => by
    rcases List.mem_cons.1 hs with h | h
    · rw [h]; omega
    · rcases List.mem_cons.1 h with h | h
      · rw [h]; omega
      · exact absurd h (by simp)) (by simp) (k + 1) (by omega)
  have hJ2 := pJoin_f [parB a, baseB a] (fun s hs => by
    rcases List.mem_cons.1 hs with h | h
    · rw [h]; omega
    · rcases List.mem_cons.1 h with h | h
      · rw [h]; omega
      · exact absurd h (by simp)) (by simp) (k + 1) (by omega)
  rw [hcomb, hcl] at hJ1
  rw [hcomb2, hcl] at hJ2
  have hps : sml (parB a) := by unfold sml; omega
  rw [hJ1, Option.bind_some, parent_f a ha (k + 1) (by omega), Option.bind_some, base_f a ha (k + 1) (by omega), Option.bind_some, hJ2, Option.bind_some, if_pos rfl, if_pos rfl, if_pos rfl, if_pos rfl, if_pos rfl, right_f top (by omega) (k + 1) (by omega), Option.bind_some, if_pos hrt, under_f b top hb hts (k + 1) (by omega), Option.bind_some, htop, if_pos hpre2, common_f b a hb ha (k + 1) (by omega), Option.bind_some, hother, bne_self_eq_false]
  rw [remoralaw13_PathBack.j1, if_neg (by decide), parent_f a ha k (by omega), Option.bind_some, under_f top (parB a) hts hps k (by omega), Option.bind_some, under_f b (parB a) hb hps k (by omega), Option.bind_some, htop, p1, us, if_pos (beq_self_eq_true _), depth_f (parB a) hps, Option.bind_some, depth_f a ha, Option.bind_some, p1]
  have hd : (((splitL a).take ((splitL a).length - 1)).length : Int) = mx 0 (wrap64 (((splitL a).length : Int) - 1)) := by
    rw [wr64 _ (by omega) (by omega), List.length_take]
    unfold mx
    split <;> omega
  rw [if_pos hd, awake13 k (by omega)]
  rfl
theorem pathBack_f (a b : ByteArray) (ha : sml a) (hb : sml b) : remoralaw13_PathBack.f 8000000 a b = some true := by
  generalize hk : 8000000 = k
  have hk1 : 8000000 ≤ k := by omega
  clear hk
  have ha' := ha
  have hb' := hb
  unfold sml at ha' hb'
  have hno : ∀ k, 100 < k → remoralaw13_PathBack.j0 k a b true = some true := fun k hk => by
    obtain ⟨k, rfl⟩ : ∃ j, k = j + 1 := ⟨k - 1, by omega⟩
    rw [remoralaw13_PathBack.j0, if_pos rfl, awake13 k (by omega)]
    rfl
  rw [remoralaw13_PathBack.f, right_f a (by omega) k (by omega), Option.bind_some]
  by_cases h1 : rightB a = true
  · rw [if_pos h1, right_f b (by omega) k (by omega), Option.bind_some]
    by_cases h2 : rightB b = true
    · rw [h2]
      exact pathBack_j a b ha hb k (by omega) h1 h2
    · rw [Bool.eq_false_iff.2 h2]
      exact hno k (by omega)
  · rw [if_neg h1]
    exact hno k (by omega)
theorem pathBack_law (a0 a1 : ByteArray) (h0 : a0.size ≤ 1048576) (h1 : a1.size ≤ 1048576) (w : World) :
    Calls Try.prog 8 #[.string a0, .string a1] w fun e w' => e = .returned (.bool true) ∧ Below w.heap.size w w' :=
  remoralaw13_PathBack.calls 8000000 a0 a1 true w (pathBack_f a0 a1 h0 h1)
end Go.Proofs.Ytdomeeaaidjmpaa.PA
namespace Go.Proofs.Ytdomeeaaidjmpaa.pathBackUptoRow
open Go.ChangeShapes Go.WideShapes Go.ChangeAt Go.RowKit Go.Proofs.Ytdomeeaaidjmpaa.PA
open Go.ChangeMaps (open_string shut_string)
theorem own : ownKnob Try.prog.godebug = none := by kernel_rfl
set_option maxHeartbeats 1000000 in
set_option maxRecDepth 100000 in
theorem lifted (os : Os) (started : os.Started) (H : Type) (enc : TypeId × Value → H) (F : Stop.Interp) :
    ReturnsInHanded {} Try.checked os 8 .any ((Rows.OpenSpec.upto Rows.pathBackSpec).pre6 enc Try.prog Try.f8 Rows.pathBackUptoRow.domain false) (((Rows.OpenSpec.upto Rows.pathBackSpec).at F).post enc Try.prog Try.f8 false true false false) := by
  refine returnsInHanded_of_cond (C := Try.checked) (s := (Rows.OpenSpec.upto Rows.pathBackSpec)) (k := Rows.uptoSmall) rfl own started (by kernel_rfl) Try.func8
    (OpenSpec.witness (enc := enc) (C := Try.checked) (s := (Rows.OpenSpec.upto Rows.pathBackSpec)) (k := Rows.uptoSmall) rfl false ⟨#[], #[.string .empty, .string .empty], []⟩ 8 (by kernel_rfl) (by kernel_rfl) (by kernel_rfl)
      (x := ([.lit (.string []), .lit (.string [])], [], [])) (by kernel_rfl) rfl (by kernel_rfl)) ?_
  intro W base args ds gs before hval0 hW _ hk _
  have hval : ∀ (j : Nat) t v, Try.f8.params[j]? = some t → args[j]? = some v → Value.okWide Try.prog W .any base t v := hval0
  have hW' := hW
  obtain ⟨p, q, hA0, hV, rfl, hfz, hnd⟩ := hW
  have hA : DataW.TrodAll enc Try.prog W 0 (fun _ => true) true Try.f8.params.toList args.toList ds p := hA0
  rw [Try.params8] at hA hval
  obtain ⟨v0, vs0, d0, ds0, p0, q0, hargs, rfl, rfl, h0, r0⟩ := trodAll_cons hA
  obtain ⟨v1, vs1, d1, ds1, p1, q1, rfl, rfl, rfl, h1, r1⟩ := trodAll_cons r0
  obtain ⟨rfl, rfl, rfl⟩ := trodAll_nil r1
  obtain rfl : args = #[v0, v1] := by cases args; simp_all
  obtain ⟨rfl, rfl⟩ := trodVars_none hV
  obtain ⟨a0, rfl, rfl, rfl, y0⟩ := open_string Try.underlying9 (hval 0 9 v0 rfl rfl) h0
  obtain ⟨a1, rfl, rfl, rfl, y1⟩ := open_string Try.underlying9 (hval 1 9 v1 rfl rfl) h1
  clear hA0 hval0
  simp only [List.append_nil] at hW' hk
  have hb : Rows.uptoBulkAll [DataW.lit (H := H) (.string a0.data.toList), DataW.lit (H := H) (.string a1.data.toList)] ≤ 1048576 := of_decide_eq_true hk
  simp only [Rows.uptoBulkAll, Rows.uptoBulk] at hb
  have e0 : a0.data.toList.length = a0.size := by rw [Array.length_toList]; rfl
  have e1 : a1.data.toList.length = a1.size := by rw [Array.length_toList]; rfl
  refine (pathBack_law a0 a1 (by omega) (by omega) W).mono fun e W' ⟨he, bel⟩ => ?_
  subst he
  exact ⟨_, rfl, _, _, _, [], _, [], hW', trodAll_mk1 (shut_bool Try.underlying4 _), (trodAll_cons_mk (shut_string Try.underlying9 y0) (trodAll_cons_mk (shut_string Try.underlying9 y1) trodAll_mk0)), rfl, bel.frame _, fun h => by cases h⟩
theorem proved : Rows.PathBackUptoSaid :=
  OpenClaim.holds_of_cond 8 Try.f8 rfl rfl rfl rfl rfl rfl rfl ⟨rfl, rfl, rfl, rfl, rfl⟩ rfl rfl rfl rfl rfl (by kernel_rfl) Try.func8 (by kernel_rfl)
    (of_decide_eq_true (by kernel_rfl)) (by unfold Func.isWrapper; first | (rw [if_pos (by decide +kernel)]; kernel_rfl) | (rw [if_neg (by decide +kernel)]; exact ⟨rfl, rfl⟩))
    (fun os started H enc _ F => lifted os started H enc F)
#print axioms proved
end Go.Proofs.Ytdomeeaaidjmpaa.pathBackUptoRow
namespace Go.Proofs.Ytdomeeaaidjmpaa
/-- The row, under a short name, for the claim. -/
theorem pathBack_holds : Rows.PathBackUptoSaid := pathBackUptoRow.proved
end Go.Proofs.Ytdomeeaaidjmpaa
namespace Go.Proofs.Ytdomeeaaidjmpaa.PA
end Go.Proofs.Ytdomeeaaidjmpaa.PA
