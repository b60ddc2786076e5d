/- RulesBelow: for any rules, paths and flag the law returns true and leaves its arguments as they were. No condition. -/
import Derived.Test.YtioehkeocddniaaDoorNG1
import Derived.Test.YtioehkeocddniaaDoorNG3
import Derived.Test.YtioehkeocddniaaDoorNG7
import Derived.Test.YtioehkeocddniaaDoorNG4
import Derived.Test.YtioehkeocddniaaDoorNG6
import Derived.Test.YtioehkeocddniaaDoorNG9
import Derived.Test.YtioehkeocddniaaDoorNG2
import Derived.Below
import Derived.Carry
import Derived.ChangeOld
import Derived.LaidMore
import Derived.Lay
import Derived.OpenShut
import Derived.ProofKit
import Derived.SevenTiedAt
import Derived.ShutString
import Derived.SizedLaws
import Derived.Stop.Joined
import Derived.Test.YtioehkeocddniaaDoorCards
import Derived.Test.YtioehkeocddniaaDoorRows
import Derived.Test.YtioehkeocddniaaDoorTie
import Derived.Test.YtioehkeocddniaaDoorNG5
import Derived.WalkKit
namespace Go.Proofs.YtioehkeocddniaaDoor.PA
open Go.RowKit Go.Proofs.YtioehkeocddniaaDoorW.PrintWords Go.Proofs.YtioehkeocddniaaDoorW.PrintLast Go.Proofs.YtioehkeocddniaaDoorW.PrintMore
attribute [local go_sem] max2_int min2_int max_two min_two max_three min_three max_four min_four   -- for this text's walks alone
set_option linter.unusedVariables false
set_option linter.unusedSimpArgs false
mutual
def path_clean.l0 : Nat → List ByteArray → List ByteArray → Int → Int → Option (ByteArray × Int)
 | 0, _, _, _, _ => none
 | k + 1, x4, x8, x9, x10 => if x10 < x9 then (if 0 ≤ x10 then (if x10 < (x8.length : Int) then (if (rdOf ByteArray.empty x8 x10).toList = ([] : List UInt8) then (path_clean.j1 k x4 (rdOf ByteArray.empty x8 x10) x8 x9 x10 true) else (path_clean.j1 k x4 (rdOf ByteArray.empty x8 x10) x8 x9 x10 ((rdOf ByteArray.empty x8 x10).toList == ([46] : List UInt8)))) else (none)) else (none)) else ((strings_Join.f x4 (⟨#[47]⟩ : ByteArray)).bind fun t101 => (if (x4.length : Int) > 12 then (some ((⟨#[]⟩ : ByteArray), 7)) else (if (t101.size : Int) > 200 then (some ((⟨#[]⟩ : ByteArray), 7)) else (some (t101, 0)))))
def path_clean.j1 : Nat → List ByteArray → ByteArray → List ByteArray → Int → Int → Bool → Option (ByteArray × Int)
 | 0, _, _, _, _, _, _ => none
 | k + 1, x4, x6, x8, x9, x10, x14 => if x14 = true then (path_clean.l0 k x4 x8 x9 (wrap64 (x10 + 1))) else (if x6.toList = ([46, 46] : List UInt8) then (some ((⟨#[]⟩ : ByteArray), 16)) else ((strings_IndexByte.f x6 0).bind fun t103 => (if t103 ≥ 0 then (some ((⟨#[]⟩ : ByteArray), 9)) else (if (x6.size : Int) > 48 then (some ((⟨#[]⟩ : ByteArray), 7)) else (if x4.length < 8796093022208 then (path_clean.l0 k (x4 ++ [x6]) x8 x9 (wrap64 (x10 + 1))) else (none))))))
end
def path_clean.f (k : Nat) (l0 : List ByteArray) : Option (ByteArray × Int) := path_clean.l0 k ([] : List ByteArray) l0 (l0.length : Int) 0
set_option maxHeartbeats 8000000 in
set_option maxRecDepth 100000 in
theorem path_clean.calls (k : Nat) (A0 : Option Addr) (c0 : Nat) (l0 : List ByteArray) (r1 : ByteArray) (r2 : Int) (w : World) (hr0 : Kd.C Kd.string w A0 l0.length l0) (hc0 : l0.length ≤ c0) (h : path_clean.f k l0 = some (r1, r2)) :
  Calls Tryd.prog 56 #[.slice A0 l0.length c0] w fun e w' => e = .returned (.tuple #[.string r1, .int .i64 r2]) ∧ Below w.heap.size w w' := by
 have HR0 := Aside0.mk hr0
 have HC0 := Aside0.mk hc0
 clear hr0 hc0
 have HB := Aside0.mk (Below.refl w.heap.size w)
 have H : (path_clean.l0 k ([] : List ByteArray) l0 (l0.length : Int) 0) = some (r1, r2) := h
 clear h
 have H' := Aside0.mk H
 clear H
 go_enter Tryd.func56, Tryd.ntmps56
 go_wp2
 go_loopg [4, 10] k (fun kq v4 v10 w' => ∃ (x4_1 : List ByteArray) (x10_1 : Int), v10 = .int .i64 x10_1 ∧ Aside0 (path_clean.l0 kq x4_1 l0 (l0.length : Int) x10_1 = some (r1, r2)) ∧ Aside0 (kq ≤ k) ∧ Aside0 (Kd.R Kd.string 9 w' w.heap.size (fun _ => True) v4 x4_1) ∧ Aside0 (Below w.heap.size w w'))
 case atStart => exact ⟨(([] : List ByteArray)), (0), (by first | rfl | (simp; done) | (simp [*]; done)), H', ⟨Nat.le_refl _⟩, ⟨by first | exact Kd.R_nil _ _ _ _ _ | exact Kd.N_nil _ _ _ _ _ | exact Kd.V_nil _ _ _ _ _ | exact Kd.Q_nil _ _ _ _ _ | exact Kd.S_nil _ _ _ _ _⟩, ⟨by repeat (first | (with_reducible first | exact HB.out | apply below_alloc | apply pw_below_drewN | apply below_drew1) | exact HB.out)⟩⟩
 case round =>
  clear H'
  obtain ⟨x4_1, x10_1, rfl, HA, HK1, HO_4, HB⟩ := hrel
  cases gk with
  | zero => exact absurd HA.out (by simp [path_clean.l0])
  | succ k1 =>
   have H := HA.out
   clear HA
   simp only [path_clean.l0] at H
   by_cases c2 : x10_1 < (l0.length : Int)
   ·rw [if_pos c2] at H
    have c2b0 : decide (x10_1 < (l0.length : Int)) = true := decide_eq_true c2
    clear c2
    by_cases c3 : 0 ≤ x10_1
    ·rw [if_pos c3] at H
     have c3b0 : decide (0 ≤ x10_1) = true := decide_eq_true c3
     clear c3
     by_cases c4 : x10_1 < (l0.length : Int)
     ·rw [if_pos c4] at H
      have c4b0 : decide (x10_1 < (l0.length : Int)) = true := decide_eq_true c4
      clear c4
      have HC5 := Aside0.mk H
      clear H
      have p102 : 0 ≤ (x10_1 : Int) := of_decide_eq_true (by first | (with_reducible assumption) | assumption)
      have q102 : x10_1 < (l0.length : Int) := of_decide_eq_true (by first | (with_reducible assumption) | assumption)
      obtain ⟨ad102, e102, hx102_0⟩ := Kd.at_string HR0.out x10_1 p102 q102
      cases e102
      replace hx102_0 := (HB.out.cell (World.block_lt_of_cell? w _ hx102_0)).trans hx102_0
      replace p102 := eq_true p102
      replace q102 := eq_true q102
      go_upto_region 5 with (fail)
      go_cut [14] (fun v14 wc => ∃ (kq : Nat) (x14_4 : Bool), v14 = .bool x14_4 ∧ Aside0 (path_clean.j1 kq x4_1 (rdOf ByteArray.empty l0 x10_1) l0 (l0.length : Int) x10_1 x14_4 = some (r1, r2)) ∧ Aside0 (kq ≤ k1) ∧ Aside0 (Kd.R Kd.string 9 wc w.heap.size (fun _ => True) u4 x4_1) ∧ Aside0 (Below w.heap.size w wc))
      case first =>
       have H := HC5.out
       clear HC5
       by_cases c6 : (rdOf ByteArray.empty l0 x10_1).toList = ([] : List UInt8)
       ·rw [if_pos c6] at H
        have c6b0 : ((rdOf ByteArray.empty l0 x10_1).toList == ([] : List UInt8)) = true := beq_iff_eq.mpr c6
        have c6b1 : ((rdOf ByteArray.empty l0 x10_1).toList != ([] : List UInt8)) = false := bne_eq_false_iff_eq.mpr c6
        clear c6
        (first | rw [c6b0] | (simp only [i64_w, i32_w]; rw [c6b0]) | skip)
        have H' := Aside0.mk H
        clear H
        go_wp2
        go_meet
        case rel => exact ⟨_, (true), (by first | rfl | (simp; done) | (simp [*]; done)), H', ⟨by have := HK1.out; first | omega | exact Nat.le_refl _⟩, ⟨by (with_reducible repeat (first | apply Kd.R_alloc | apply Kd.R_drewN | apply Kd.R_drew)); exact HO_4.out⟩, ⟨by repeat (first | (with_reducible first | exact HB.out | apply below_alloc | apply pw_below_drewN | apply below_drew1) | exact HB.out)⟩⟩
       ·rw [if_neg c6] at H
        have c6b0 : ((rdOf ByteArray.empty l0 x10_1).toList == ([] : List UInt8)) = false := beq_eq_false_iff_ne.mpr c6
        have c6b1 : ((rdOf ByteArray.empty l0 x10_1).toList != ([] : List UInt8)) = true := bne_iff_ne.mpr c6
        (first | rw [c6b0] | (simp only [i64_w, i32_w]; rw [c6b0]) | skip)
        have H' := Aside0.mk H
        clear H
        go_wp2
        go_meet
        case rel => exact ⟨_, (((rdOf ByteArray.empty l0 x10_1).toList == ([46] : List UInt8))), (by first | rfl | (simp; done) | (simp [*]; done)), H', ⟨by have := HK1.out; first | omega | exact Nat.le_refl _⟩, ⟨by (with_reducible repeat (first | apply Kd.R_alloc | apply Kd.R_drewN | apply Kd.R_drew)); exact HO_4.out⟩, ⟨by repeat (first | (with_reducible first | exact HB.out | apply below_alloc | apply pw_below_drewN | apply below_drew1) | exact HB.out)⟩⟩
      case rest =>
       clear HC5
       try clear p1
       try clear q1
       try clear hx1
       try clear c2
       try clear c2b0
       try clear p2
       try clear c3
       try clear c3b0
       try clear c4
       try clear c4b0
       try clear c5
       try clear c6
       try clear c6b0
       try clear c6b1
       try clear hx102_0
       try clear p102
       try clear q102
       obtain ⟨kq, x14_4, rfl, HA, HJ4, HO_4, HB⟩ := hcut
       cases kq with
       | zero => exact absurd HA.out (by simp [path_clean.j1])
       | succ kj4 =>
        have H := HA.out
        clear HA
        simp only [path_clean.j1] at H
        by_cases c7 : x14_4 = true
        ·subst c7
         have H1 : (path_clean.l0 kj4 x4_1 l0 (l0.length : Int) (wrap64 (x10_1 + 1))) = some (r1, r2) := by rw [if_pos rfl] at H; exact H
         clear H
         have H := H1
         clear H1
         have H' := Aside0.mk H
         clear H
         go_wp2
         go_roundg kj4
         case measure => have := HK1.out; have := HJ4.out; omega
         case rel => exact ⟨(x4_1), (wrap64 (x10_1 + 1)), (by first | rfl | (simp; done) | (simp [*]; done)), H', ⟨by have := HK1.out; have := HJ4.out; omega⟩, ⟨by (with_reducible repeat (first | apply Kd.R_alloc | apply Kd.R_drewN | apply Kd.R_drew)); exact HO_4.out⟩, ⟨by repeat (first | (with_reducible first | exact HB.out | apply below_alloc | apply pw_below_drewN | apply below_drew1) | exact HB.out)⟩⟩
        ·replace c7 := Bool.eq_false_iff.mpr c7
         subst c7
         have H1 : (if (rdOf ByteArray.empty l0 x10_1).toList = ([46, 46] : List UInt8) then (some ((⟨#[]⟩ : ByteArray), 16)) else ((strings_IndexByte.f (rdOf ByteArray.empty l0 x10_1) 0).bind fun t103 => (if t103 ≥ 0 then (some ((⟨#[]⟩ : ByteArray), 9)) else (if ((rdOf ByteArray.empty l0 x10_1).size : Int) > 48 then (some ((⟨#[]⟩ : ByteArray), 7)) else (if x4_1.length < 8796093022208 then (path_clean.l0 kj4 (x4_1 ++ [(rdOf ByteArray.empty l0 x10_1)]) l0 (l0.length : Int) (wrap64 (x10_1 + 1))) else (none)))))) = some (r1, r2) := by rw [if_neg (show ¬ (false = true) by decide)] at H; exact H
         clear H
         have H := H1
         clear H1
         by_cases c8 : (rdOf ByteArray.empty l0 x10_1).toList = ([46, 46] : List UInt8)
         ·rw [if_pos c8] at H
          have c8b0 : ((rdOf ByteArray.empty l0 x10_1).toList == ([46, 46] : List UInt8)) = true := beq_iff_eq.mpr c8
          have c8b1 : ((rdOf ByteArray.empty l0 x10_1).toList != ([46, 46] : List UInt8)) = false := bne_eq_false_iff_eq.mpr c8
          clear c8
          simp only [Option.some.injEq, Prod.mk.injEq] at H
          obtain ⟨rfl, rfl⟩ := H
          go_wp2
          go_ret2
          exact ⟨by first | rfl | (simp [errW_none, errW_some] <;> rfl) | (simp [*, errW_none, errW_some] <;> rfl), by repeat (first | (with_reducible first | exact HB.out | apply below_alloc | apply pw_below_drewN | apply below_drew1) | exact HB.out)⟩
         ·rw [if_neg c8] at H
          have c8b0 : ((rdOf ByteArray.empty l0 x10_1).toList == ([46, 46] : List UInt8)) = false := beq_eq_false_iff_ne.mpr c8
          have c8b1 : ((rdOf ByteArray.empty l0 x10_1).toList != ([46, 46] : List UInt8)) = true := bne_iff_ne.mpr c8
          replace H := Option.bind_eq_some_iff.mp H
          obtain ⟨t103, A90, H⟩ := H
          replace H : (if t103 ≥ 0 then (some ((⟨#[]⟩ : ByteArray), 9)) else (if ((rdOf ByteArray.empty l0 x10_1).size : Int) > 48 then (some ((⟨#[]⟩ : ByteArray), 7)) else (if x4_1.length < 8796093022208 then (path_clean.l0 kj4 (x4_1 ++ [(rdOf ByteArray.empty l0 x10_1)]) l0 (l0.length : Int) (wrap64 (x10_1 + 1))) else (none)))) = some (r1, r2) := H
          have A9 := Aside0.mk A90
          clear A90
          by_cases c10 : t103 ≥ 0
          ·rw [if_pos c10] at H
           have c10b0 : decide (0 ≤ t103) = true := decide_eq_true c10
           clear c10
           simp only [Option.some.injEq, Prod.mk.injEq] at H
           obtain ⟨rfl, rfl⟩ := H
           go_wp2_with (first | ((with_reducible refine gate_callee (f := 68) rfl ?_); refine goesL_ (some 26) rfl rfl Tryd.func68 (by kernel_rfl) rfl #[.string (rdOf ByteArray.empty l0 x10_1), .int .u8 0] rfl (by (try simp only [List.map_toArray, List.map_cons, List.map_nil]); first | done | rfl | (simp only [List.length_drop, List.length_take]; rfl)) ?_; (with_reducible refine (strings_IndexByte.calls (rdOf ByteArray.empty l0 x10_1) 0 t103 _ A9.out).mono ?_); rintro e w' ⟨rfl, ⟨nd, rfl⟩⟩; refine ⟨_, rfl, ?_⟩))
           go_ret2
           exact ⟨by first | rfl | (simp [errW_none, errW_some] <;> rfl) | (simp [*, errW_none, errW_some] <;> rfl), by repeat (first | (with_reducible first | exact HB.out | apply below_alloc | apply pw_below_drewN | apply below_drew1) | exact HB.out)⟩
          ·rw [if_neg c10] at H
           have c10b0 : decide (0 ≤ t103) = false := decide_eq_false c10
           clear c10
           by_cases c11 : ((rdOf ByteArray.empty l0 x10_1).size : Int) > 48
           ·rw [if_pos c11] at H
            have c11b0 : decide (48 < ((rdOf ByteArray.empty l0 x10_1).size : Int)) = true := decide_eq_true c11
            have c11b1 : decide (48 < (rdOf ByteArray.empty l0 x10_1).size) = true := decide_eq_true (by omega)
            clear c11
            simp only [Option.some.injEq, Prod.mk.injEq] at H
            obtain ⟨rfl, rfl⟩ := H
            go_wp2_with (first | ((with_reducible refine gate_callee (f := 68) rfl ?_); refine goesL_ (some 26) rfl rfl Tryd.func68 (by kernel_rfl) rfl #[.string (rdOf ByteArray.empty l0 x10_1), .int .u8 0] rfl (by (try simp only [List.map_toArray, List.map_cons, List.map_nil]); first | done | rfl | (simp only [List.length_drop, List.length_take]; rfl)) ?_; (with_reducible refine (strings_IndexByte.calls (rdOf ByteArray.empty l0 x10_1) 0 t103 _ A9.out).mono ?_); rintro e w' ⟨rfl, ⟨nd, rfl⟩⟩; refine ⟨_, rfl, ?_⟩))
            go_ret2
            exact ⟨by first | rfl | (simp [errW_none, errW_some] <;> rfl) | (simp [*, errW_none, errW_some] <;> rfl), by repeat (first | (with_reducible first | exact HB.out | apply below_alloc | apply pw_below_drewN | apply below_drew1) | exact HB.out)⟩
           ·rw [if_neg c11] at H
            have c11b0 : decide (48 < ((rdOf ByteArray.empty l0 x10_1).size : Int)) = false := decide_eq_false c11
            have c11b1 : decide (48 < (rdOf ByteArray.empty l0 x10_1).size) = false := decide_eq_false (by omega)
            clear c11
            by_cases c12 : x4_1.length < 8796093022208
            ·rw [if_pos c12] at H
             have LMc12 := Aside0.mk c12
             clear c12
             obtain ⟨y104, hy104⟩ : ∃ y_ : List ByteArray, y_ = (x4_1 ++ [(rdOf ByteArray.empty l0 x10_1)]) := ⟨_, rfl⟩
             replace H : (path_clean.l0 kj4 y104 l0 (l0.length : Int) (wrap64 (x10_1 + 1))) = some (r1, r2) := by first | (rw [hy104]; with_reducible exact H) | (have H2_ := (Option.bind_some _ _).symm.trans H; rw [hy104]; with_reducible exact H2_) | (have H2_ := (Option.bind_some _ _).symm.trans H; with_reducible exact H2_) | with_reducible exact H | (rw [hy104]; exact H) | exact H
             have Ny104 := Aside0.mk hy104
             clear hy104
             have H' := Aside0.mk H
             clear H
             go_wp2_with (first | ((with_reducible refine gate_callee (f := 68) rfl ?_); refine goesL_ (some 26) rfl rfl Tryd.func68 (by kernel_rfl) rfl #[.string (rdOf ByteArray.empty l0 x10_1), .int .u8 0] rfl (by (try simp only [List.map_toArray, List.map_cons, List.map_nil]); first | done | rfl | (simp only [List.length_drop, List.length_take]; rfl)) ?_; (with_reducible refine (strings_IndexByte.calls (rdOf ByteArray.empty l0 x10_1) 0 t103 _ A9.out).mono ?_); rintro e w' ⟨rfl, ⟨nd, rfl⟩⟩; refine ⟨_, rfl, ?_⟩) | ((with_reducible refine gate_builtin (b := .append) (xs := #[.tmp 32, .tmp 34]) rfl ?_); (try (refine gate_guard (by rfl) ?_; dsimp only)); at_builtin; refine Kd.R_append Kd.string (w0 := w) w.heap.size rfl (.tmp 32) (.tmp 34) 53 9 (.string ⟨#[]⟩) 16 rfl Tryd.underlying53 info9 rfl (by decide) (by omega) u4 x4_1 (rdOf ByteArray.empty l0 x10_1) [.string (rdOf ByteArray.empty l0 x10_1)] (fun _ => True) (fun _ => False) rfl rfl ?aP (fun _ hk => hk.elim) ?aF ?aO ?aB ?aS ?aL ?_; (case aP => exact rfl); (case aB => exact (by repeat (first | (with_reducible first | exact HB.out | apply below_alloc | apply pw_below_drewN | apply below_drew1) | exact HB.out))); (case aF => exact (fun _ _ => trivial)); (case aO => exact (by (with_reducible repeat (first | apply Kd.R_alloc | apply Kd.R_drewN | apply Kd.R_drew)); exact HO_4.out)); (case aS => exact (below_size (by repeat (first | (with_reducible first | exact HB.out | apply below_alloc | apply pw_below_drewN | apply below_drew1) | exact HB.out)))); (case aL => have := LMc12.out; omega); intro v105 w13 ho hb hg hat; rw [← Ny104.out] at ho; have n0_ := Aside0.mk (hb); have n1_ := Aside0.mk (ho); clear HB; clear HO_4; have HB := n0_; have HO106 := n1_; clear n0_ n1_; clear ho hb hg hat))
             go_roundg kj4
             case measure => have := HK1.out; have := HJ4.out; omega
             case rel => exact ⟨(y104), (wrap64 (x10_1 + 1)), (by first | rfl | (simp; done) | (simp [*]; done)), H', ⟨by have := HK1.out; have := HJ4.out; omega⟩, ⟨by (with_reducible repeat (first | apply Kd.R_alloc | apply Kd.R_drewN | apply Kd.R_drew)); exact HO106.out⟩, ⟨by repeat (first | (with_reducible first | exact HB.out | apply below_alloc | apply pw_below_drewN | apply below_drew1) | exact HB.out)⟩⟩
            ·rw [if_neg c12] at H
             exact absurd H (by simp)
     ·rw [if_neg c4] at H
      exact absurd H (by simp)
    ·rw [if_neg c3] at H
     exact absurd H (by simp)
   ·rw [if_neg c2] at H
    have c2b0 : decide (x10_1 < (l0.length : Int)) = false := decide_eq_false c2
    clear c2
    replace H := Option.bind_eq_some_iff.mp H
    obtain ⟨t101, A140, H⟩ := H
    replace H : (if (x4_1.length : Int) > 12 then (some ((⟨#[]⟩ : ByteArray), 7)) else (if (t101.size : Int) > 200 then (some ((⟨#[]⟩ : ByteArray), 7)) else (some (t101, 0)))) = some (r1, r2) := H
    have A14 := Aside0.mk A140
    clear A140
    by_cases c15 : (x4_1.length : Int) > 12
    ·rw [if_pos c15] at H
     have c15b0 : decide (12 < (x4_1.length : Int)) = true := decide_eq_true c15
     have c15b1 : decide (12 < x4_1.length) = true := decide_eq_true (by omega)
     clear c15
     simp only [Option.some.injEq, Prod.mk.injEq] at H
     obtain ⟨rfl, rfl⟩ := H
     obtain ⟨Ao16, co16, eo16⟩ := Kd.R_slice HO_4.out
     subst eo16
     go_wp2_with (first | ((with_reducible refine gate_callee (f := 71) rfl ?_); refine goesL_ (some 38) rfl rfl Tryd.func71 (by kernel_rfl) rfl #[.slice Ao16 x4_1.length co16, .string (⟨#[47]⟩ : ByteArray)] rfl (by (try simp only [List.map_toArray, List.map_cons, List.map_nil]); first | done | rfl | (simp only [List.length_drop, List.length_take]; rfl)) ?_; (with_reducible refine (strings_Join.calls _ _ x4_1 (⟨#[47]⟩ : ByteArray) t101 _ ?side1 ?side2 A14.out).mono ?_); (case side1 => repeat (first | exact (Kd.R_reads' HO_4.out).2.2 | (with_reducible refine Kd.C_alloc ?_ _) | (with_reducible refine Kd.C_drewN ?_ _) | (with_reducible refine Kd.C_drew ?_))); (case side2 => exact (Kd.R_reads' HO_4.out).2.1); rintro e w17 ⟨rfl, hb⟩; refine ⟨_, rfl, ?_⟩; have n0_ := Aside0.mk (Kd.R_below (by (with_reducible repeat (first | apply Kd.R_alloc | apply Kd.R_drewN | apply Kd.R_drew)); exact HO_4.out) hb); have n1_ := Aside0.mk (below_step (by repeat (first | (with_reducible first | exact HB.out | apply below_alloc | apply pw_below_drewN | apply below_drew1) | exact HB.out)) hb); clear HO_4; clear HB; have HO_4 := n0_; have HB := n1_; clear n0_ n1_; (try clear hb); (try clear hb2); (try clear hk); (try clear hi)))
     go_ret2
     exact ⟨by first | rfl | (simp [errW_none, errW_some] <;> rfl) | (simp [*, errW_none, errW_some] <;> rfl), by repeat (first | (with_reducible first | exact HB.out | apply below_alloc | apply pw_below_drewN | apply below_drew1) | exact HB.out)⟩
    ·rw [if_neg c15] at H
     have c15b0 : decide (12 < (x4_1.length : Int)) = false := decide_eq_false c15
     have c15b1 : decide (12 < x4_1.length) = false := decide_eq_false (by omega)
     clear c15
     by_cases c18 : (t101.size : Int) > 200
     ·rw [if_pos c18] at H
      have c18b0 : decide (200 < (t101.size : Int)) = true := decide_eq_true c18
      have c18b1 : decide (200 < t101.size) = true := decide_eq_true (by omega)
      clear c18
      simp only [Option.some.injEq, Prod.mk.injEq] at H
      obtain ⟨rfl, rfl⟩ := H
      obtain ⟨Ao19, co19, eo19⟩ := Kd.R_slice HO_4.out
      subst eo19
      go_wp2_with (first | ((with_reducible refine gate_callee (f := 71) rfl ?_); refine goesL_ (some 38) rfl rfl Tryd.func71 (by kernel_rfl) rfl #[.slice Ao19 x4_1.length co19, .string (⟨#[47]⟩ : ByteArray)] rfl (by (try simp only [List.map_toArray, List.map_cons, List.map_nil]); first | done | rfl | (simp only [List.length_drop, List.length_take]; rfl)) ?_; (with_reducible refine (strings_Join.calls _ _ x4_1 (⟨#[47]⟩ : ByteArray) t101 _ ?side1 ?side2 A14.out).mono ?_); (case side1 => repeat (first | exact (Kd.R_reads' HO_4.out).2.2 | (with_reducible refine Kd.C_alloc ?_ _) | (with_reducible refine Kd.C_drewN ?_ _) | (with_reducible refine Kd.C_drew ?_))); (case side2 => exact (Kd.R_reads' HO_4.out).2.1); rintro e w20 ⟨rfl, hb⟩; refine ⟨_, rfl, ?_⟩; have n0_ := Aside0.mk (Kd.R_below (by (with_reducible repeat (first | apply Kd.R_alloc | apply Kd.R_drewN | apply Kd.R_drew)); exact HO_4.out) hb); have n1_ := Aside0.mk (below_step (by repeat (first | (with_reducible first | exact HB.out | apply below_alloc | apply pw_below_drewN | apply below_drew1) | exact HB.out)) hb); clear HO_4; clear HB; have HO_4 := n0_; have HB := n1_; clear n0_ n1_; (try clear hb); (try clear hb2); (try clear hk); (try clear hi)))
      go_ret2
      exact ⟨by first | rfl | (simp [errW_none, errW_some] <;> rfl) | (simp [*, errW_none, errW_some] <;> rfl), by repeat (first | (with_reducible first | exact HB.out | apply below_alloc | apply pw_below_drewN | apply below_drew1) | exact HB.out)⟩
     ·rw [if_neg c18] at H
      have c18b0 : decide (200 < (t101.size : Int)) = false := decide_eq_false c18
      have c18b1 : decide (200 < t101.size) = false := decide_eq_false (by omega)
      clear c18
      simp only [Option.some.injEq, Prod.mk.injEq] at H
      obtain ⟨rfl, rfl⟩ := H
      obtain ⟨Ao21, co21, eo21⟩ := Kd.R_slice HO_4.out
      subst eo21
      go_wp2_with (first | ((with_reducible refine gate_callee (f := 71) rfl ?_); refine goesL_ (some 38) rfl rfl Tryd.func71 (by kernel_rfl) rfl #[.slice Ao21 x4_1.length co21, .string (⟨#[47]⟩ : ByteArray)] rfl (by (try simp only [List.map_toArray, List.map_cons, List.map_nil]); first | done | rfl | (simp only [List.length_drop, List.length_take]; rfl)) ?_; (with_reducible refine (strings_Join.calls _ _ x4_1 (⟨#[47]⟩ : ByteArray) t101 _ ?side1 ?side2 A14.out).mono ?_); (case side1 => repeat (first | exact (Kd.R_reads' HO_4.out).2.2 | (with_reducible refine Kd.C_alloc ?_ _) | (with_reducible refine Kd.C_drewN ?_ _) | (with_reducible refine Kd.C_drew ?_))); (case side2 => exact (Kd.R_reads' HO_4.out).2.1); rintro e w22 ⟨rfl, hb⟩; refine ⟨_, rfl, ?_⟩; have n0_ := Aside0.mk (Kd.R_below (by (with_reducible repeat (first | apply Kd.R_alloc | apply Kd.R_drewN | apply Kd.R_drew)); exact HO_4.out) hb); have n1_ := Aside0.mk (below_step (by repeat (first | (with_reducible first | exact HB.out | apply below_alloc | apply pw_below_drewN | apply below_drew1) | exact HB.out)) hb); clear HO_4; clear HB; have HO_4 := n0_; have HB := n1_; clear n0_ n1_; (try clear hb); (try clear hb2); (try clear hk); (try clear hi)))
      go_ret2
      exact ⟨by first | rfl | (simp [errW_none, errW_some] <;> rfl) | (simp [*, errW_none, errW_some] <;> rfl), by repeat (first | (with_reducible first | exact HB.out | apply below_alloc | apply pw_below_drewN | apply below_drew1) | exact HB.out)⟩
end Go.Proofs.YtioehkeocddniaaDoor.PA
namespace Go.Proofs.YtioehkeocddniaaDoor.PA
open Go.RowKit Go.Proofs.YtioehkeocddniaaDoorW.PrintWords Go.Proofs.YtioehkeocddniaaDoorW.PrintLast Go.Proofs.YtioehkeocddniaaDoorW.PrintMore
attribute [local go_sem] max2_int min2_int max_two min_two max_three min_three max_four min_four   -- for this text's walks alone
set_option linter.unusedVariables false
set_option linter.unusedSimpArgs false
def path_Join.l0 : Nat → List ByteArray → List ByteArray → Int → Int → Option (ByteArray × Int)
 | 0, _, _, _, _ => none
 | k + 1, x4, x7, x8, x9 => if x9 < x8 then (if 0 ≤ x9 then (if x9 < (x7.length : Int) then ((path_Split.f (rdOf ByteArray.empty x7 x9)).bind fun t102 => (if x4.length + t102.length < 8796093022208 then (path_Join.l0 k (x4 ++ t102) x7 x8 (wrap64 (x9 + 1))) else (none))) else (none)) else (none)) else ((path_clean.f k x4).bind fun bt108 => (some (bt108.1, bt108.2)))
def path_Join.f (k : Nat) (l0 : List ByteArray) : Option (ByteArray × Int) := path_Join.l0 k ([] : List ByteArray) l0 (l0.length : Int) 0
set_option maxHeartbeats 8000000 in
set_option maxRecDepth 100000 in
theorem path_Join.calls (k : Nat) (A0 : Option Addr) (c0 : Nat) (l0 : List ByteArray) (r1 : ByteArray) (r2 : Int) (w : World) (hr0 : Kd.C Kd.string w A0 l0.length l0) (hc0 : l0.length ≤ c0) (h : path_Join.f k l0 = some (r1, r2)) :
  Calls Tryd.prog 34 #[.slice A0 l0.length c0] w fun e w' => e = .returned (.tuple #[.string r1, .int .i64 r2]) ∧ Below w.heap.size w w' := by
 have HR0 := Aside0.mk hr0
 have HC0 := Aside0.mk hc0
 clear hr0 hc0
 have HB := Aside0.mk (Below.refl w.heap.size w)
 have H : (path_Join.l0 k ([] : List ByteArray) l0 (l0.length : Int) 0) = some (r1, r2) := h
 clear h
 have H' := Aside0.mk H
 clear H
 go_enter Tryd.func34, Tryd.ntmps34
 go_wp2
 go_loopg [4, 9] k (fun kq v4 v9 w' => ∃ (x4_1 : List ByteArray) (x9_1 : Int), v9 = .int .i64 x9_1 ∧ Aside0 (path_Join.l0 kq x4_1 l0 (l0.length : Int) x9_1 = some (r1, r2)) ∧ Aside0 (kq ≤ k) ∧ Aside0 (Kd.R Kd.string 9 w' w.heap.size (fun _ => True) v4 x4_1) ∧ Aside0 (Below w.heap.size w w'))
 case atStart => exact ⟨(([] : List ByteArray)), (0), (by first | rfl | (simp; done) | (simp [*]; done)), H', ⟨Nat.le_refl _⟩, ⟨by first | exact Kd.R_nil _ _ _ _ _ | exact Kd.N_nil _ _ _ _ _ | exact Kd.V_nil _ _ _ _ _ | exact Kd.Q_nil _ _ _ _ _ | exact Kd.S_nil _ _ _ _ _⟩, ⟨by repeat (first | (with_reducible first | exact HB.out | apply below_alloc | apply pw_below_drewN | apply below_drew1) | exact HB.out)⟩⟩
 case round =>
  clear H'
  obtain ⟨x4_1, x9_1, rfl, HA, HK1, HO_4, HB⟩ := hrel
  cases gk with
  | zero => exact absurd HA.out (by simp [path_Join.l0])
  | succ k1 =>
   have H := HA.out
   clear HA
   simp only [path_Join.l0] at H
   by_cases c2 : x9_1 < (l0.length : Int)
   ·rw [if_pos c2] at H
    have c2b0 : decide (x9_1 < (l0.length : Int)) = true := decide_eq_true c2
    clear c2
    by_cases c3 : 0 ≤ x9_1
    ·rw [if_pos c3] at H
     have c3b0 : decide (0 ≤ x9_1) = true := decide_eq_true c3
     clear c3
     by_cases c4 : x9_1 < (l0.length : Int)
     ·rw [if_pos c4] at H
      have c4b0 : decide (x9_1 < (l0.length : Int)) = true := decide_eq_true c4
      clear c4
      replace H := Option.bind_eq_some_iff.mp H
      obtain ⟨t102, A50, H⟩ := H
      replace H : (if x4_1.length + t102.length < 8796093022208 then (path_Join.l0 k1 (x4_1 ++ t102) l0 (l0.length : Int) (wrap64 (x9_1 + 1))) else (none)) = some (r1, r2) := H
      have A5 := Aside0.mk A50
      clear A50
      by_cases c6 : x4_1.length + t102.length < 8796093022208
      ·rw [if_pos c6] at H
       have LMc6 := Aside0.mk c6
       clear c6
       obtain ⟨y105, hy105⟩ : ∃ y_ : List ByteArray, y_ = (x4_1 ++ t102) := ⟨_, rfl⟩
       replace H : (path_Join.l0 k1 y105 l0 (l0.length : Int) (wrap64 (x9_1 + 1))) = some (r1, r2) := by first | (rw [hy105]; with_reducible exact H) | (have H2_ := (Option.bind_some _ _).symm.trans H; rw [hy105]; with_reducible exact H2_) | (have H2_ := (Option.bind_some _ _).symm.trans H; with_reducible exact H2_) | with_reducible exact H | (rw [hy105]; exact H) | exact H
       have Ny105 := Aside0.mk hy105
       clear hy105
       have H' := Aside0.mk H
       clear H
       have p101 : 0 ≤ (x9_1 : Int) := of_decide_eq_true (by first | (with_reducible assumption) | assumption)
       have q101 : x9_1 < (l0.length : Int) := of_decide_eq_true (by first | (with_reducible assumption) | assumption)
       obtain ⟨ad101, e101, hx101_0⟩ := Kd.at_string HR0.out x9_1 p101 q101
       cases e101
       replace hx101_0 := (HB.out.cell (World.block_lt_of_cell? w _ hx101_0)).trans hx101_0
       replace p101 := eq_true p101
       replace q101 := eq_true q101
       go_wp2_with (first | ((with_reducible refine gate_callee (f := 49) rfl ?_); refine goesL_ (some 15) rfl rfl Tryd.func49 (by kernel_rfl) rfl #[.string (rdOf ByteArray.empty l0 x9_1)] rfl (by (try simp only [List.map_toArray, List.map_cons, List.map_nil]); first | done | rfl | (simp only [List.length_drop, List.length_take]; rfl)) ?_; (with_reducible refine (path_Split.calls (rdOf ByteArray.empty l0 x9_1) t102 _ A5.out).mono ?_); rintro e w7 ⟨v103, rfl, ho0, hb⟩; refine ⟨_, rfl, ?_⟩; have n0_ := Aside0.mk (Kd.R_elder' (by (with_reducible repeat (first | apply Kd.R_alloc | apply Kd.R_drewN | apply Kd.R_drew)); exact HO_4.out) (Kd.R_base ho0) hb); have n1_ := Aside0.mk (Kd.R_lower (Kd.R_new' ho0 (Kd.R_lt (by (with_reducible repeat (first | apply Kd.R_alloc | apply Kd.R_drewN | apply Kd.R_drew)); exact HO_4.out))) (below_size (by repeat (first | (with_reducible first | exact HB.out | apply below_alloc | apply pw_below_drewN | apply below_drew1) | exact HB.out)))); have n2_ := Aside0.mk (below_step (by repeat (first | (with_reducible first | exact HB.out | apply below_alloc | apply pw_below_drewN | apply below_drew1) | exact HB.out)) hb); clear HO_4; clear HB; have HO_4 := n0_; have HO104 := n1_; have HB := n2_; clear n0_ n1_ n2_; (try clear hb); (try clear hb2); (try clear hk); (try clear hi); (try clear ho0); obtain ⟨Ao9, co9, eo9⟩ := Kd.R_slice HO104.out; subst eo9) | ((with_reducible refine gate_builtin (b := .append) (xs := #[.tmp 13, .tmp 15]) rfl ?_); at_builtin; refine Kd.R_append_rows Kd.string (w0 := w) w.heap.size rfl (.tmp 13) (.tmp 15) 53 9 (.string ⟨#[]⟩) 16 rfl Tryd.underlying53 info9 rfl (by decide) (by omega) u4 x4_1 t102 _ _ _ (fun k_ => some k_ ≠ (.slice Ao9 t102.length co9 : Value).ownBlock) (fun _ => False) rfl rfl ?aO ?aR (fun _ _ h => h) (fun _ h => h.elim) ?aF ?aB ?aS ?aL ?_; (case aR => repeat (first | exact (Kd.R_reads' HO104.out).2.2 | (with_reducible refine Kd.C_alloc ?_ _) | (with_reducible refine Kd.C_drewN ?_ _) | (with_reducible refine Kd.C_drew ?_))); (case aB => exact (by repeat (first | (with_reducible first | exact HB.out | apply below_alloc | apply pw_below_drewN | apply below_drew1) | exact HB.out))); (case aF => exact (fun k_ hk => Kd.fresh' (Kd.R_lt (by (with_reducible repeat (first | apply Kd.R_alloc | apply Kd.R_drewN | apply Kd.R_drew)); exact HO104.out)) k_ hk)); (case aO => exact (by (with_reducible repeat (first | apply Kd.R_alloc | apply Kd.R_drewN | apply Kd.R_drew)); exact Kd.R_mono HO_4.out (fun _ hk => hk.2))); (case aS => exact (below_size (by repeat (first | (with_reducible first | exact HB.out | apply below_alloc | apply pw_below_drewN | apply below_drew1) | exact HB.out)))); (case aL => have := LMc6.out; omega); intro v106 w8 ho hb hg hat; rw [← Ny105.out] at ho; have n0_ := Aside0.mk (Kd.R_after (ok := (fun _ => True)) (by (with_reducible repeat (first | apply Kd.R_alloc | apply Kd.R_drewN | apply Kd.R_drew)); exact HO104.out) hg hat); have n1_ := Aside0.mk (hb); have n2_ := Aside0.mk (ho); clear HO104; clear HB; clear HO_4; have HO104 := n0_; have HB := n1_; have HO107 := n2_; clear n0_ n1_ n2_; clear ho hb hg hat))
       go_roundg k1
       case measure => have := HK1.out; omega
       case rel => exact ⟨(y105), (wrap64 (x9_1 + 1)), (by first | rfl | (simp; done) | (simp [*]; done)), H', ⟨by have := HK1.out; omega⟩, ⟨by (with_reducible repeat (first | apply Kd.R_alloc | apply Kd.R_drewN | apply Kd.R_drew)); exact Kd.R_mono HO107.out (fun _ hk => trivial)⟩, ⟨by repeat (first | (with_reducible first | exact HB.out | apply below_alloc | apply pw_below_drewN | apply below_drew1) | exact HB.out)⟩⟩
      ·rw [if_neg c6] at H
       exact absurd H (by simp)
     ·rw [if_neg c4] at H
      exact absurd H (by simp)
    ·rw [if_neg c3] at H
     exact absurd H (by simp)
   ·rw [if_neg c2] at H
    have c2b0 : decide (x9_1 < (l0.length : Int)) = false := decide_eq_false c2
    clear c2
    replace H := Option.bind_eq_some_iff.mp H
    obtain ⟨⟨t108, t109⟩, A100, H⟩ := H
    replace H : (some (t108, t109)) = some (r1, r2) := H
    have A10 := Aside0.mk A100
    clear A100
    simp only [Option.some.injEq, Prod.mk.injEq] at H
    obtain ⟨rfl, rfl⟩ := H
    obtain ⟨Ao11, co11, eo11⟩ := Kd.R_slice HO_4.out
    subst eo11
    go_wp2_with (first | ((with_reducible refine gate_callee (f := 56) rfl ?_); refine goesL_ (some 19) rfl rfl Tryd.func56 (by kernel_rfl) rfl #[.slice Ao11 x4_1.length co11] rfl (by (try simp only [List.map_toArray, List.map_cons, List.map_nil]); first | done | rfl | (simp only [List.length_drop, List.length_take]; rfl)) ?_; (with_reducible refine (path_clean.calls k1 _ _ x4_1 t108 t109 _ ?side1 ?side2 A10.out).mono ?_); (case side1 => repeat (first | exact (Kd.R_reads' HO_4.out).2.2 | (with_reducible refine Kd.C_alloc ?_ _) | (with_reducible refine Kd.C_drewN ?_ _) | (with_reducible refine Kd.C_drew ?_))); (case side2 => exact (Kd.R_reads' HO_4.out).2.1); rintro e w12 ⟨rfl, hb⟩; refine ⟨_, rfl, ?_⟩; have n0_ := Aside0.mk (Kd.R_below (by (with_reducible repeat (first | apply Kd.R_alloc | apply Kd.R_drewN | apply Kd.R_drew)); exact HO_4.out) hb); have n1_ := Aside0.mk (below_step (by repeat (first | (with_reducible first | exact HB.out | apply below_alloc | apply pw_below_drewN | apply below_drew1) | exact HB.out)) hb); clear HO_4; clear HB; have HO_4 := n0_; have HB := n1_; clear n0_ n1_; (try clear hb); (try clear hb2); (try clear hk); (try clear hi)))
    go_ret2
    exact ⟨by first | rfl | (simp [errW_none, errW_some] <;> rfl) | (simp [*, errW_none, errW_some] <;> rfl), by repeat (first | (with_reducible first | exact HB.out | apply below_alloc | apply pw_below_drewN | apply below_drew1) | exact HB.out)⟩
end Go.Proofs.YtioehkeocddniaaDoor.PA
namespace Go.Proofs.YtioehkeocddniaaDoor.PA
open Go.RowKit Go.Proofs.YtioehkeocddniaaDoorW.PrintWords Go.Proofs.YtioehkeocddniaaDoorW.PrintLast Go.Proofs.YtioehkeocddniaaDoorW.PrintMore
attribute [local go_sem] max2_int min2_int max_two min_two max_three min_three max_four min_four   -- for this text's walks alone
set_option linter.unusedVariables false
set_option linter.unusedSimpArgs false
mutual
def remoralaw15_RulesBelow.j0 : Nat → List (S24) → ByteArray → ByteArray → Bool → Bool → Option (Bool)
 | 0, _, _, _, _, _ => none
 | k + 1, x0, x1, x2, x3, x25 => if x25 = true then ((remoralaw15_awake.f).bind fun t102 => (some t102)) else ((path_Join.f k (([x1, x2] : List ByteArray))).bind fun bt106 => (if bt106.2 = 0 then ((path_Right.f k x1).bind fun t108 => (if t108 = true then (if x1.toList = ([] : List UInt8) then (remoralaw15_RulesBelow.j1 k x0 x1 x3 bt106.1 true) else (remoralaw15_RulesBelow.j1 k x0 x1 x3 bt106.1 (bt106.1.toList == x1.toList))) else (remoralaw15_RulesBelow.j1 k x0 x1 x3 bt106.1 true))) else (remoralaw15_RulesBelow.j1 k x0 x1 x3 bt106.1 true)))
def remoralaw15_RulesBelow.j1 : Nat → List (S24) → ByteArray → Bool → ByteArray → Bool → Option (Bool)
 | 0, _, _, _, _, _ => none
 | k + 1, x0, x1, x3, x9, x49 => if x49 = true then ((remoralaw15_awake.f).bind fun t109 => (some t109)) else ((rules_Hidden.f k x0 x1 true).bind fun t110 => (if t110 = true then ((rules_Hidden.f k x0 x9 x3).bind fun t111 => (remoralaw15_RulesBelow.j2 k x0 x3 x9 (!t111))) else (remoralaw15_RulesBelow.j2 k x0 x3 x9 false)))
def remoralaw15_RulesBelow.j2 : Nat → List (S24) → Bool → ByteArray → Bool → Option (Bool)
 | 0, _, _, _, _ => none
 | k + 1, x0, x3, x9, x60 => if x60 = true then (some false) else ((rules_Hidden.f k x0 x9 x3).bind fun t112 => (if t112 = true then (remoralaw15_RulesBelow.l0 k x0 x9 x3) else ((remoralaw15_awake.f).bind fun t113 => (some t113))))
def remoralaw15_RulesBelow.l0 : Nat → List (S24) → ByteArray → Bool → Option (Bool)
 | 0, _, _, _ => none
 | k + 1, x0, x11, x12 => if x11.toList = ([] : List UInt8) then (some false) else ((rules_Act.f k x0 x11 x12 false).bind fun t114 => (if t114 = 2 then ((remoralaw15_awake.f).bind fun t115 => (some t115)) else ((path_Parent.f k x11).bind fun t116 => (remoralaw15_RulesBelow.l0 k x0 t116 true))))
end
def remoralaw15_RulesBelow.f (k : Nat) (l0 : List (S24)) (a1 : ByteArray) (a2 : ByteArray) (a3 : Bool) : Option (Bool) := (remoralaw15_light.f k l0).bind fun t101 => (if t101 = true then (if (a1.size : Int) > 300 then (remoralaw15_RulesBelow.j0 k l0 a1 a2 a3 true) else (remoralaw15_RulesBelow.j0 k l0 a1 a2 a3 (decide ((a2.size : Int) > 300)))) else (remoralaw15_RulesBelow.j0 k l0 a1 a2 a3 true))
set_option maxHeartbeats 8000000 in
set_option maxRecDepth 100000 in
theorem remoralaw15_RulesBelow.calls (k : Nat) (A0 : Option Addr) (c0 : Nat) (l0 : List (S24)) (a1 : ByteArray) (a2 : ByteArray) (a3 : Bool) (r : Bool) (w : World) (hr0 : Kd.C k24 w A0 l0.length l0) (hc0 : l0.length ≤ c0) (h : remoralaw15_RulesBelow.f k l0 a1 a2 a3 = some r) :
  Calls Tryd.prog 9 #[.slice A0 l0.length c0, .string a1, .string a2, .bool a3] w fun e w' => e = .returned (.bool r) ∧ Below w.heap.size w w' := by
 have HR0 := Aside0.mk hr0
 have HC0 := Aside0.mk hc0
 clear hr0 hc0
 have HB := Aside0.mk (Below.refl w.heap.size w)
 have H : ((remoralaw15_light.f k l0).bind fun t101 => (if t101 = true then (if (a1.size : Int) > 300 then (remoralaw15_RulesBelow.j0 k l0 a1 a2 a3 true) else (remoralaw15_RulesBelow.j0 k l0 a1 a2 a3 (decide ((a2.size : Int) > 300)))) else (remoralaw15_RulesBelow.j0 k l0 a1 a2 a3 true))) = some r := h
 clear h
 have HC5 := Aside0.mk H
 clear H
 go_enter Tryd.func9, Tryd.ntmps9
 go_upto_region 1 with (fail)
 go_cut [25] (fun v25 wc => ∃ (kq : Nat) (x25_4 : Bool), v25 = .bool x25_4 ∧ Aside0 (remoralaw15_RulesBelow.j0 kq l0 a1 a2 a3 x25_4 = some r) ∧ Aside0 (kq ≤ k) ∧ Aside0 (Below w.heap.size w wc))
 case first =>
  have H := HC5.out
  clear HC5
  replace H := Option.bind_eq_some_iff.mp H
  obtain ⟨t101, A60, H⟩ := H
  replace H : (if t101 = true then (if (a1.size : Int) > 300 then (remoralaw15_RulesBelow.j0 k l0 a1 a2 a3 true) else (remoralaw15_RulesBelow.j0 k l0 a1 a2 a3 (decide ((a2.size : Int) > 300)))) else (remoralaw15_RulesBelow.j0 k l0 a1 a2 a3 true)) = some r := H
  have A6 := Aside0.mk A60
  clear A60
  by_cases c7 : t101 = true
  ·subst c7
   have H1 : (if (a1.size : Int) > 300 then (remoralaw15_RulesBelow.j0 k l0 a1 a2 a3 true) else (remoralaw15_RulesBelow.j0 k l0 a1 a2 a3 (decide ((a2.size : Int) > 300)))) = some r := by rw [if_pos rfl] at H; exact H
   clear H
   have H := H1
   clear H1
   by_cases c8 : (a1.size : Int) > 300
   ·rw [if_pos c8] at H
    have c8b0 : decide (300 < (a1.size : Int)) = true := decide_eq_true c8
    have c8b1 : decide (300 < a1.size) = true := decide_eq_true (by omega)
    clear c8
    (first | rw [c8b0] | (simp only [i64_w, i32_w]; rw [c8b0]) | skip)
    have H' := Aside0.mk H
    clear H
    go_wp2_with (first | ((with_reducible refine gate_callee (f := 16) rfl ?_); refine goesL_ (some 14) rfl rfl Tryd.func16 (by kernel_rfl) rfl #[.slice A0 l0.length c0] rfl (by (try simp only [List.map_toArray, List.map_cons, List.map_nil]); first | done | rfl | (simp only [List.length_drop, List.length_take]; rfl)) ?_; (with_reducible refine (remoralaw15_light.calls k _ _ l0 true _ ?side1 ?side2 A6.out).mono ?_); (case side1 => repeat (first | exact (Kd.C_below HR0.out HB.out) | (with_reducible refine Kd.C_alloc ?_ _) | (with_reducible refine Kd.C_drewN ?_ _) | (with_reducible refine Kd.C_drew ?_))); (case side2 => exact HC0.out); rintro e w9 ⟨rfl, hb⟩; refine ⟨_, rfl, ?_⟩; have n0_ := Aside0.mk (below_step (by repeat (first | (with_reducible first | exact HB.out | apply below_alloc | apply pw_below_drewN | apply below_drew1) | exact HB.out)) hb); clear HB; have HB := n0_; clear n0_; (try clear hb); (try clear hb2); (try clear hk); (try clear hi)))
    go_meet
    case rel => exact ⟨_, (true), (by first | rfl | (simp; done) | (simp [*]; done)), H', ⟨by first | omega | exact Nat.le_refl _⟩, ⟨by repeat (first | (with_reducible first | exact HB.out | apply below_alloc | apply pw_below_drewN | apply below_drew1) | exact HB.out)⟩⟩
   ·rw [if_neg c8] at H
    have c8b0 : decide (300 < (a1.size : Int)) = false := decide_eq_false c8
    have c8b1 : decide (300 < a1.size) = false := decide_eq_false (by omega)
    clear c8
    (first | rw [c8b0] | (simp only [i64_w, i32_w]; rw [c8b0]) | skip)
    have H' := Aside0.mk H
    clear H
    go_wp2_with (first | ((with_reducible refine gate_callee (f := 16) rfl ?_); refine goesL_ (some 14) rfl rfl Tryd.func16 (by kernel_rfl) rfl #[.slice A0 l0.length c0] rfl (by (try simp only [List.map_toArray, List.map_cons, List.map_nil]); first | done | rfl | (simp only [List.length_drop, List.length_take]; rfl)) ?_; (with_reducible refine (remoralaw15_light.calls k _ _ l0 true _ ?side1 ?side2 A6.out).mono ?_); (case side1 => repeat (first | exact (Kd.C_below HR0.out HB.out) | (with_reducible refine Kd.C_alloc ?_ _) | (with_reducible refine Kd.C_drewN ?_ _) | (with_reducible refine Kd.C_drew ?_))); (case side2 => exact HC0.out); rintro e w10 ⟨rfl, hb⟩; refine ⟨_, rfl, ?_⟩; have n0_ := Aside0.mk (below_step (by repeat (first | (with_reducible first | exact HB.out | apply below_alloc | apply pw_below_drewN | apply below_drew1) | exact HB.out)) hb); clear HB; have HB := n0_; clear n0_; (try clear hb); (try clear hb2); (try clear hk); (try clear hi)))
    go_meet
    case rel => exact ⟨_, (decide ((a2.size : Int) > 300)), (by first | rfl | (simp; done) | (simp [*]; done)), H', ⟨by first | omega | exact Nat.le_refl _⟩, ⟨by repeat (first | (with_reducible first | exact HB.out | apply below_alloc | apply pw_below_drewN | apply below_drew1) | exact HB.out)⟩⟩
  ·replace c7 := Bool.eq_false_iff.mpr c7
   subst c7
   have H1 : (remoralaw15_RulesBelow.j0 k l0 a1 a2 a3 true) = some r := by rw [if_neg (show ¬ (false = true) by decide)] at H; exact H
   clear H
   have H := H1
   clear H1
   have H' := Aside0.mk H
   clear H
   go_wp2_with (first | ((with_reducible refine gate_callee (f := 16) rfl ?_); refine goesL_ (some 14) rfl rfl Tryd.func16 (by kernel_rfl) rfl #[.slice A0 l0.length c0] rfl (by (try simp only [List.map_toArray, List.map_cons, List.map_nil]); first | done | rfl | (simp only [List.length_drop, List.length_take]; rfl)) ?_; (with_reducible refine (remoralaw15_light.calls k _ _ l0 false _ ?side1 ?side2 A6.out).mono ?_); (case side1 => repeat (first | exact (Kd.C_below HR0.out HB.out) | (with_reducible refine Kd.C_alloc ?_ _) | (with_reducible refine Kd.C_drewN ?_ _) | (with_reducible refine Kd.C_drew ?_))); (case side2 => exact HC0.out); rintro e w11 ⟨rfl, hb⟩; refine ⟨_, rfl, ?_⟩; have n0_ := Aside0.mk (below_step (by repeat (first | (with_reducible first | exact HB.out | apply below_alloc | apply pw_below_drewN | apply below_drew1) | exact HB.out)) hb); clear HB; have HB := n0_; clear n0_; (try clear hb); (try clear hb2); (try clear hk); (try clear hi)))
   go_meet
   case rel => exact ⟨_, (true), (by first | rfl | (simp; done) | (simp [*]; done)), H', ⟨by first | omega | exact Nat.le_refl _⟩, ⟨by repeat (first | (with_reducible first | exact HB.out | apply below_alloc | apply pw_below_drewN | apply below_drew1) | exact HB.out)⟩⟩
 case rest =>
  clear HC5
  try clear c1
  try clear p2
  try clear c7
  try clear c8
  try clear c8b0
  try clear c8b1
  try clear c9
  obtain ⟨kq, x25_4, rfl, HA, HJ4, HB⟩ := hcut
  cases kq with
  | zero => exact absurd HA.out (by simp [remoralaw15_RulesBelow.j0])
  | succ kj4 =>
   have H := HA.out
   clear HA
   simp only [remoralaw15_RulesBelow.j0] at H
   by_cases c12 : x25_4 = true
   ·subst c12
    have H1 : ((remoralaw15_awake.f).bind fun t102 => (some t102)) = some r := by rw [if_pos rfl] at H; exact H
    clear H
    have H := H1
    clear H1
    replace H := Option.bind_eq_some_iff.mp H
    obtain ⟨t102, A130, H⟩ := H
    replace H : (some t102) = some r := H
    have A13 := Aside0.mk A130
    clear A130
    obtain rfl := Option.some.inj H
    go_wp2_with (first | ((with_reducible refine gate_callee (f := 10) rfl ?_); refine goesL_ (some 26) rfl rfl Tryd.func10 (by kernel_rfl) rfl #[] rfl (by (try simp only [List.map_toArray, List.map_cons, List.map_nil]); first | done | rfl | (simp only [List.length_drop, List.length_take]; rfl)) ?_; (with_reducible refine (remoralaw15_awake.calls  t102 _ A13.out).mono ?_); rintro e w14 ⟨rfl, hb⟩; refine ⟨_, rfl, ?_⟩; have n0_ := Aside0.mk (below_step (by repeat (first | (with_reducible first | exact HB.out | apply below_alloc | apply pw_below_drewN | apply below_drew1) | exact HB.out)) hb); clear HB; have HB := n0_; clear n0_; (try clear hb); (try clear hb2); (try clear hk); (try clear hi)))
    go_ret
    exact ⟨by first | rfl | (simp [errW_none, errW_some] <;> rfl) | (simp [*, errW_none, errW_some] <;> rfl), by repeat (first | (with_reducible first | exact HB.out | apply below_alloc | apply pw_below_drewN | apply below_drew1) | exact HB.out)⟩
   ·replace c12 := Bool.eq_false_iff.mpr c12
    subst c12
    have H1 : ((path_Join.f kj4 (([a1, a2] : List ByteArray))).bind fun bt106 => (if bt106.2 = 0 then ((path_Right.f kj4 a1).bind fun t108 => (if t108 = true then (if a1.toList = ([] : List UInt8) then (remoralaw15_RulesBelow.j1 kj4 l0 a1 a3 bt106.1 true) else (remoralaw15_RulesBelow.j1 kj4 l0 a1 a3 bt106.1 (bt106.1.toList == a1.toList))) else (remoralaw15_RulesBelow.j1 kj4 l0 a1 a3 bt106.1 true))) else (remoralaw15_RulesBelow.j1 kj4 l0 a1 a3 bt106.1 true))) = some r := by rw [if_neg (show ¬ (false = true) by decide)] at H; exact H
    clear H
    have H := H1
    clear H1
    obtain ⟨y103, hy103⟩ : ∃ y_ : List ByteArray, y_ = (([a1, a2] : List ByteArray)) := ⟨_, rfl⟩
    replace H : ((path_Join.f kj4 y103).bind fun bt106 => (if bt106.2 = 0 then ((path_Right.f kj4 a1).bind fun t108 => (if t108 = true then (if a1.toList = ([] : List UInt8) then (remoralaw15_RulesBelow.j1 kj4 l0 a1 a3 bt106.1 true) else (remoralaw15_RulesBelow.j1 kj4 l0 a1 a3 bt106.1 (bt106.1.toList == a1.toList))) else (remoralaw15_RulesBelow.j1 kj4 l0 a1 a3 bt106.1 true))) else (remoralaw15_RulesBelow.j1 kj4 l0 a1 a3 bt106.1 true))) = some r := by first | (rw [hy103]; with_reducible exact H) | (have H2_ := (Option.bind_some _ _).symm.trans H; rw [hy103]; with_reducible exact H2_) | (have H2_ := (Option.bind_some _ _).symm.trans H; with_reducible exact H2_) | with_reducible exact H | (rw [hy103]; exact H) | exact H
    have Ny103 := Aside0.mk hy103
    clear hy103
    replace H := Option.bind_eq_some_iff.mp H
    obtain ⟨⟨t106, t107⟩, A150, H⟩ := H
    replace H : (if t107 = 0 then ((path_Right.f kj4 a1).bind fun t108 => (if t108 = true then (if a1.toList = ([] : List UInt8) then (remoralaw15_RulesBelow.j1 kj4 l0 a1 a3 t106 true) else (remoralaw15_RulesBelow.j1 kj4 l0 a1 a3 t106 (t106.toList == a1.toList))) else (remoralaw15_RulesBelow.j1 kj4 l0 a1 a3 t106 true))) else (remoralaw15_RulesBelow.j1 kj4 l0 a1 a3 t106 true)) = some r := H
    have A15 := Aside0.mk A150
    clear A150
    have HC16 := Aside0.mk H
    clear H
    go_upto_region 4 with (first | ((with_reducible refine gate_dst (N := 30) rfl ?_); (try (refine gate_guard (by rfl) ?_; dsimp only)); refine Kd.R_lit Kd.string _ 9 ?hg (N := 30) ?hd (xs := ([a1, a2] : List ByteArray)) (inner := [.string a1, .string a2]) (ok := fun _ => True) (okp := fun _ => True) ?hr ?hp (fun _ hk => hk) trivial (Below.refl _ _) (Nat.le_refl _) (by simp) ?_; (case hd => rfl); (case hg => rfl); (case hr => first | (go_simp; done) | (go_simp; rfl)); (case hp => exact (Reps.one (show Kd.M Kd.string _ _ _ a1 [.string a1] from rfl) (Reps.one (show Kd.M Kd.string _ _ _ a2 [.string a2] from rfl) (Reps.none _ _)))); intro v104 w17 ho18 hb hg_ hnew_; clear hg_ hnew_; (first | rw [← Ny103.out] at ho18 | (simp only [Int.reduceToNat] at ho18; rw [← Ny103.out] at ho18)); have n0_ := Aside0.mk (Kd.R_lower ho18 (below_size (by repeat (first | (with_reducible first | exact HB.out | apply below_alloc | apply pw_below_drewN | apply below_drew1) | exact HB.out)))); have n1_ := Aside0.mk (below_step (by repeat (first | (with_reducible first | exact HB.out | apply below_alloc | apply pw_below_drewN | apply below_drew1) | exact HB.out)) hb); clear HB; have HO105 := n0_; have HB := n1_; clear n0_ n1_; clear hb ho18; obtain ⟨Ao19, co19, eo19⟩ := Kd.R_slice HO105.out; subst eo19) | ((with_reducible refine gate_callee (f := 34) rfl ?_); refine goesL_ (some 31) rfl rfl Tryd.func34 (by kernel_rfl) rfl #[.slice Ao19 y103.length co19] rfl (by (try simp only [List.map_toArray, List.map_cons, List.map_nil]); first | done | rfl | (simp only [List.length_drop, List.length_take]; rfl)) ?_; (with_reducible refine (path_Join.calls kj4 _ _ y103 t106 t107 _ ?side1 ?side2 A15.out).mono ?_); (case side1 => repeat (first | exact (Kd.R_reads' HO105.out).2.2 | (with_reducible refine Kd.C_alloc ?_ _) | (with_reducible refine Kd.C_drewN ?_ _) | (with_reducible refine Kd.C_drew ?_))); (case side2 => exact (Kd.R_reads' HO105.out).2.1); rintro e w20 ⟨rfl, hb⟩; refine ⟨_, rfl, ?_⟩; have n0_ := Aside0.mk (Kd.R_below (by (with_reducible repeat (first | apply Kd.R_alloc | apply Kd.R_drewN | apply Kd.R_drew)); exact HO105.out) hb); have n1_ := Aside0.mk (below_step (by repeat (first | (with_reducible first | exact HB.out | apply below_alloc | apply pw_below_drewN | apply below_drew1) | exact HB.out)) hb); clear HO105; clear HB; have HO105 := n0_; have HB := n1_; clear n0_ n1_; (try clear hb); (try clear hb2); (try clear hk); (try clear hi)))
    (try simp only [Act.put, List.setIfInBounds_toArray, List.set_cons_zero, List.set_cons_succ])
    go_cut [49] (fun v49 wc => ∃ (kq : Nat) (x49_15 : Bool), v49 = .bool x49_15 ∧ Aside0 (remoralaw15_RulesBelow.j1 kq l0 a1 a3 t106 x49_15 = some r) ∧ Aside0 (kq ≤ kj4) ∧ Aside0 (Below w.heap.size w wc))
    case first =>
     have H := HC16.out
     clear HC16
     by_cases c21 : t107 = 0
     ·rw [if_pos c21] at H
      have c21b0 : (t107 == 0) = true := beq_iff_eq.mpr c21
      have c21b1 : (t107 != 0) = false := bne_eq_false_iff_eq.mpr c21
      clear c21
      (first | rw [c21b0] | (simp only [i64_w, i32_w]; rw [c21b0]) | skip)
      replace H := Option.bind_eq_some_iff.mp H
      obtain ⟨t108, A220, H⟩ := H
      replace H : (if t108 = true then (if a1.toList = ([] : List UInt8) then (remoralaw15_RulesBelow.j1 kj4 l0 a1 a3 t106 true) else (remoralaw15_RulesBelow.j1 kj4 l0 a1 a3 t106 (t106.toList == a1.toList))) else (remoralaw15_RulesBelow.j1 kj4 l0 a1 a3 t106 true)) = some r := H
      have A22 := Aside0.mk A220
      clear A220
      by_cases c23 : t108 = true
      ·subst c23
       have H1 : (if a1.toList = ([] : List UInt8) then (remoralaw15_RulesBelow.j1 kj4 l0 a1 a3 t106 true) else (remoralaw15_RulesBelow.j1 kj4 l0 a1 a3 t106 (t106.toList == a1.toList))) = some r := by rw [if_pos rfl] at H; exact H
       clear H
       have H := H1
       clear H1
       by_cases c24 : a1.toList = ([] : List UInt8)
       ·rw [if_pos c24] at H
        have c24b0 : (a1.toList == ([] : List UInt8)) = true := beq_iff_eq.mpr c24
        have c24b1 : (a1.toList != ([] : List UInt8)) = false := bne_eq_false_iff_eq.mpr c24
        clear c24
        have H' := Aside0.mk H
        clear H
        go_wp2_with (first | (go_at_call 25; (with_reducible refine (path_Right.calls kj4 a1 true _ A22.out).mono ?_); rintro e w25 ⟨rfl, hb⟩; have n0_ := Aside0.mk (Kd.R_below (by (with_reducible repeat (first | apply Kd.R_alloc | apply Kd.R_drewN | apply Kd.R_drew)); exact HO105.out) hb); have n1_ := Aside0.mk (below_step (by repeat (first | (with_reducible first | exact HB.out | apply below_alloc | apply pw_below_drewN | apply below_drew1) | exact HB.out)) hb); clear HO105; clear HB; have HO105 := n0_; have HB := n1_; clear n0_ n1_; (try clear hb); (try clear hb2); (try clear hk); (try clear hi)))
        go_meet
        case rel => exact ⟨_, (true), (by first | rfl | (simp; done) | (simp [*]; done)), H', ⟨by have := HJ4.out; first | omega | exact Nat.le_refl _⟩, ⟨by repeat (first | (with_reducible first | exact HB.out | apply below_alloc | apply pw_below_drewN | apply below_drew1) | exact HB.out)⟩⟩
       ·rw [if_neg c24] at H
        have c24b0 : (a1.toList == ([] : List UInt8)) = false := beq_eq_false_iff_ne.mpr c24
        have c24b1 : (a1.toList != ([] : List UInt8)) = true := bne_iff_ne.mpr c24
        have H' := Aside0.mk H
        clear H
        go_wp2_with (first | (go_at_call 25; (with_reducible refine (path_Right.calls kj4 a1 true _ A22.out).mono ?_); rintro e w26 ⟨rfl, hb⟩; have n0_ := Aside0.mk (Kd.R_below (by (with_reducible repeat (first | apply Kd.R_alloc | apply Kd.R_drewN | apply Kd.R_drew)); exact HO105.out) hb); have n1_ := Aside0.mk (below_step (by repeat (first | (with_reducible first | exact HB.out | apply below_alloc | apply pw_below_drewN | apply below_drew1) | exact HB.out)) hb); clear HO105; clear HB; have HO105 := n0_; have HB := n1_; clear n0_ n1_; (try clear hb); (try clear hb2); (try clear hk); (try clear hi)))
        go_meet
        case rel => exact ⟨_, ((t106.toList == a1.toList)), (by first | rfl | (simp; done) | (simp [*]; done)), H', ⟨by have := HJ4.out; first | omega | exact Nat.le_refl _⟩, ⟨by repeat (first | (with_reducible first | exact HB.out | apply below_alloc | apply pw_below_drewN | apply below_drew1) | exact HB.out)⟩⟩
      ·replace c23 := Bool.eq_false_iff.mpr c23
       subst c23
       have H1 : (remoralaw15_RulesBelow.j1 kj4 l0 a1 a3 t106 true) = some r := by rw [if_neg (show ¬ (false = true) by decide)] at H; exact H
       clear H
       have H := H1
       clear H1
       have H' := Aside0.mk H
       clear H
       go_wp2_with (first | (go_at_call 25; (with_reducible refine (path_Right.calls kj4 a1 false _ A22.out).mono ?_); rintro e w27 ⟨rfl, hb⟩; have n0_ := Aside0.mk (Kd.R_below (by (with_reducible repeat (first | apply Kd.R_alloc | apply Kd.R_drewN | apply Kd.R_drew)); exact HO105.out) hb); have n1_ := Aside0.mk (below_step (by repeat (first | (with_reducible first | exact HB.out | apply below_alloc | apply pw_below_drewN | apply below_drew1) | exact HB.out)) hb); clear HO105; clear HB; have HO105 := n0_; have HB := n1_; clear n0_ n1_; (try clear hb); (try clear hb2); (try clear hk); (try clear hi)))
       go_meet
       case rel => exact ⟨_, (true), (by first | rfl | (simp; done) | (simp [*]; done)), H', ⟨by have := HJ4.out; first | omega | exact Nat.le_refl _⟩, ⟨by repeat (first | (with_reducible first | exact HB.out | apply below_alloc | apply pw_below_drewN | apply below_drew1) | exact HB.out)⟩⟩
     ·rw [if_neg c21] at H
      have c21b0 : (t107 == 0) = false := beq_eq_false_iff_ne.mpr c21
      have c21b1 : (t107 != 0) = true := bne_iff_ne.mpr c21
      (first | rw [c21b0] | (simp only [i64_w, i32_w]; rw [c21b0]) | skip)
      have H' := Aside0.mk H
      clear H
      go_wp2
      go_meet
      case rel => exact ⟨_, (true), (by first | rfl | (simp; done) | (simp [*]; done)), H', ⟨by have := HJ4.out; first | omega | exact Nat.le_refl _⟩, ⟨by repeat (first | (with_reducible first | exact HB.out | apply below_alloc | apply pw_below_drewN | apply below_drew1) | exact HB.out)⟩⟩
    case rest =>
     clear HC16
     try clear c1
     try clear c2
     try clear p2
     try clear c3
     try clear c7
     try clear c8
     try clear c8b0
     try clear c8b1
     try clear c9
     try clear c10
     try clear c12
     try clear c16
     try clear c21
     try clear c21b0
     try clear c21b1
     try clear c23
     try clear c24
     try clear c24b0
     try clear c24b1
     try clear p2
     obtain ⟨kq, x49_15, rfl, HA, HJ15, HB⟩ := hcut
     cases kq with
     | zero => exact absurd HA.out (by simp [remoralaw15_RulesBelow.j1])
     | succ kj15 =>
      have H := HA.out
      clear HA
      simp only [remoralaw15_RulesBelow.j1] at H
      by_cases c28 : x49_15 = true
      ·subst c28
       have H1 : ((remoralaw15_awake.f).bind fun t109 => (some t109)) = some r := by rw [if_pos rfl] at H; exact H
       clear H
       have H := H1
       clear H1
       replace H := Option.bind_eq_some_iff.mp H
       obtain ⟨t109, A290, H⟩ := H
       replace H : (some t109) = some r := H
       have A29 := Aside0.mk A290
       clear A290
       obtain rfl := Option.some.inj H
       go_wp2_with (first | ((with_reducible refine gate_callee (f := 10) rfl ?_); refine goesL_ (some 50) rfl rfl Tryd.func10 (by kernel_rfl) rfl #[] rfl (by (try simp only [List.map_toArray, List.map_cons, List.map_nil]); first | done | rfl | (simp only [List.length_drop, List.length_take]; rfl)) ?_; (with_reducible refine (remoralaw15_awake.calls  t109 _ A29.out).mono ?_); rintro e w30 ⟨rfl, hb⟩; refine ⟨_, rfl, ?_⟩; have n0_ := Aside0.mk (below_step (by repeat (first | (with_reducible first | exact HB.out | apply below_alloc | apply pw_below_drewN | apply below_drew1) | exact HB.out)) hb); clear HB; have HB := n0_; clear n0_; (try clear hb); (try clear hb2); (try clear hk); (try clear hi)))
       go_ret
       exact ⟨by first | rfl | (simp [errW_none, errW_some] <;> rfl) | (simp [*, errW_none, errW_some] <;> rfl), by repeat (first | (with_reducible first | exact HB.out | apply below_alloc | apply pw_below_drewN | apply below_drew1) | exact HB.out)⟩
      ·replace c28 := Bool.eq_false_iff.mpr c28
       subst c28
       have H1 : ((rules_Hidden.f kj15 l0 a1 true).bind fun t110 => (if t110 = true then ((rules_Hidden.f kj15 l0 t106 a3).bind fun t111 => (remoralaw15_RulesBelow.j2 kj15 l0 a3 t106 (!t111))) else (remoralaw15_RulesBelow.j2 kj15 l0 a3 t106 false))) = some r := by rw [if_neg (show ¬ (false = true) by decide)] at H; exact H
       clear H
       have H := H1
       clear H1
       have HC31 := Aside0.mk H
       clear H
       go_upto_region 6 with (fail)
       go_cut [60] (fun v60 wc => ∃ (kq : Nat) (x60_30 : Bool), v60 = .bool x60_30 ∧ Aside0 (remoralaw15_RulesBelow.j2 kq l0 a3 t106 x60_30 = some r) ∧ Aside0 (kq ≤ kj15) ∧ Aside0 (Below w.heap.size w wc))
       case first =>
        have H := HC31.out
        clear HC31
        replace H := Option.bind_eq_some_iff.mp H
        obtain ⟨t110, A320, H⟩ := H
        replace H : (if t110 = true then ((rules_Hidden.f kj15 l0 t106 a3).bind fun t111 => (remoralaw15_RulesBelow.j2 kj15 l0 a3 t106 (!t111))) else (remoralaw15_RulesBelow.j2 kj15 l0 a3 t106 false)) = some r := H
        have A32 := Aside0.mk A320
        clear A320
        by_cases c33 : t110 = true
        ·subst c33
         have H1 : ((rules_Hidden.f kj15 l0 t106 a3).bind fun t111 => (remoralaw15_RulesBelow.j2 kj15 l0 a3 t106 (!t111))) = some r := by rw [if_pos rfl] at H; exact H
         clear H
         have H := H1
         clear H1
         replace H := Option.bind_eq_some_iff.mp H
         obtain ⟨t111, A340, H⟩ := H
         replace H : (remoralaw15_RulesBelow.j2 kj15 l0 a3 t106 (!t111)) = some r := H
         have A34 := Aside0.mk A340
         clear A340
         have H' := Aside0.mk H
         clear H
         go_wp2_with (first | ((with_reducible refine gate_callee (f := 21) rfl ?_); refine goesL_ (some 53) rfl rfl Tryd.func21 (by kernel_rfl) rfl #[.slice A0 l0.length c0, .string a1, .bool true] rfl (by (try simp only [List.map_toArray, List.map_cons, List.map_nil]); first | done | rfl | (simp only [List.length_drop, List.length_take]; rfl)) ?_; (with_reducible refine (rules_Hidden.calls kj15 _ _ l0 a1 true true _ ?side1 ?side2 A32.out).mono ?_); (case side1 => repeat (first | exact (Kd.C_below HR0.out HB.out) | (with_reducible refine Kd.C_alloc ?_ _) | (with_reducible refine Kd.C_drewN ?_ _) | (with_reducible refine Kd.C_drew ?_))); (case side2 => exact HC0.out); rintro e w35 ⟨rfl, hb⟩; refine ⟨_, rfl, ?_⟩; have n0_ := Aside0.mk (below_step (by repeat (first | (with_reducible first | exact HB.out | apply below_alloc | apply pw_below_drewN | apply below_drew1) | exact HB.out)) hb); clear HB; have HB := n0_; clear n0_; (try clear hb); (try clear hb2); (try clear hk); (try clear hi)) | (go_at_call 21; (with_reducible refine (rules_Hidden.calls kj15 _ _ l0 t106 a3 t111 _ ?side1 ?side2 A34.out).mono ?_); (case side1 => repeat (first | exact (Kd.C_below HR0.out HB.out) | (with_reducible refine Kd.C_alloc ?_ _) | (with_reducible refine Kd.C_drewN ?_ _) | (with_reducible refine Kd.C_drew ?_))); (case side2 => exact HC0.out); rintro e w36 ⟨rfl, hb⟩; have n0_ := Aside0.mk (below_step (by repeat (first | (with_reducible first | exact HB.out | apply below_alloc | apply pw_below_drewN | apply below_drew1) | exact HB.out)) hb); clear HB; have HB := n0_; clear n0_; (try clear hb); (try clear hb2); (try clear hk); (try clear hi)))
         go_meet
         case rel => exact ⟨_, (!t111), (by first | rfl | (simp; done) | (simp [*]; done)), H', ⟨by have := HJ4.out; have := HJ15.out; first | omega | exact Nat.le_refl _⟩, ⟨by repeat (first | (with_reducible first | exact HB.out | apply below_alloc | apply pw_below_drewN | apply below_drew1) | exact HB.out)⟩⟩
        ·replace c33 := Bool.eq_false_iff.mpr c33
         subst c33
         have H1 : (remoralaw15_RulesBelow.j2 kj15 l0 a3 t106 false) = some r := by rw [if_neg (show ¬ (false = true) by decide)] at H; exact H
         clear H
         have H := H1
         clear H1
         have H' := Aside0.mk H
         clear H
         go_wp2_with (first | ((with_reducible refine gate_callee (f := 21) rfl ?_); refine goesL_ (some 53) rfl rfl Tryd.func21 (by kernel_rfl) rfl #[.slice A0 l0.length c0, .string a1, .bool true] rfl (by (try simp only [List.map_toArray, List.map_cons, List.map_nil]); first | done | rfl | (simp only [List.length_drop, List.length_take]; rfl)) ?_; (with_reducible refine (rules_Hidden.calls kj15 _ _ l0 a1 true false _ ?side1 ?side2 A32.out).mono ?_); (case side1 => repeat (first | exact (Kd.C_below HR0.out HB.out) | (with_reducible refine Kd.C_alloc ?_ _) | (with_reducible refine Kd.C_drewN ?_ _) | (with_reducible refine Kd.C_drew ?_))); (case side2 => exact HC0.out); rintro e w37 ⟨rfl, hb⟩; refine ⟨_, rfl, ?_⟩; have n0_ := Aside0.mk (below_step (by repeat (first | (with_reducible first | exact HB.out | apply below_alloc | apply pw_below_drewN | apply below_drew1) | exact HB.out)) hb); clear HB; have HB := n0_; clear n0_; (try clear hb); (try clear hb2); (try clear hk); (try clear hi)))
         go_meet
         case rel => exact ⟨_, (false), (by first | rfl | (simp; done) | (simp [*]; done)), H', ⟨by have := HJ4.out; have := HJ15.out; first | omega | exact Nat.le_refl _⟩, ⟨by repeat (first | (with_reducible first | exact HB.out | apply below_alloc | apply pw_below_drewN | apply below_drew1) | exact HB.out)⟩⟩
       case rest =>
        clear HC31
        try clear c1
        try clear c2
        try clear p2
        try clear c3
        try clear c7
        try clear c8
        try clear c8b0
        try clear c8b1
        try clear c9
        try clear c10
        try clear c12
        try clear c16
        try clear c21
        try clear c21b0
        try clear c21b1
        try clear c23
        try clear c24
        try clear c24b0
        try clear c24b1
        try clear c28
        try clear c33
        try clear c34
        try clear p2
        obtain ⟨kq, x60_30, rfl, HA, HJ30, HB⟩ := hcut
        cases kq with
        | zero => exact absurd HA.out (by simp [remoralaw15_RulesBelow.j2])
        | succ kj30 =>
         have H := HA.out
         clear HA
         simp only [remoralaw15_RulesBelow.j2] at H
         by_cases c38 : x60_30 = true
         ·subst c38
          have H1 : (some false) = some r := by rw [if_pos rfl] at H; exact H
          clear H
          have H := H1
          clear H1
          obtain rfl := Option.some.inj H
          go_wp2
          go_ret
          exact ⟨by first | rfl | (simp [errW_none, errW_some] <;> rfl) | (simp [*, errW_none, errW_some] <;> rfl), by repeat (first | (with_reducible first | exact HB.out | apply below_alloc | apply pw_below_drewN | apply below_drew1) | exact HB.out)⟩
         ·replace c38 := Bool.eq_false_iff.mpr c38
          subst c38
          have H1 : ((rules_Hidden.f kj30 l0 t106 a3).bind fun t112 => (if t112 = true then (remoralaw15_RulesBelow.l0 kj30 l0 t106 a3) else ((remoralaw15_awake.f).bind fun t113 => (some t113)))) = some r := by rw [if_neg (show ¬ (false = true) by decide)] at H; exact H
          clear H
          have H := H1
          clear H1
          replace H := Option.bind_eq_some_iff.mp H
          obtain ⟨t112, A390, H⟩ := H
          replace H : (if t112 = true then (remoralaw15_RulesBelow.l0 kj30 l0 t106 a3) else ((remoralaw15_awake.f).bind fun t113 => (some t113))) = some r := H
          have A39 := Aside0.mk A390
          clear A390
          by_cases c40 : t112 = true
          ·subst c40
           have H1 : (remoralaw15_RulesBelow.l0 kj30 l0 t106 a3) = some r := by rw [if_pos rfl] at H; exact H
           clear H
           have H := H1
           clear H1
           have H' := Aside0.mk H
           clear H
           go_wp2_with (first | ((with_reducible refine gate_callee (f := 21) rfl ?_); refine goesL_ (some 64) rfl rfl Tryd.func21 (by kernel_rfl) rfl #[.slice A0 l0.length c0, .string t106, .bool a3] rfl (by (try simp only [List.map_toArray, List.map_cons, List.map_nil]); first | done | rfl | (simp only [List.length_drop, List.length_take]; rfl)) ?_; (with_reducible refine (rules_Hidden.calls kj30 _ _ l0 t106 a3 true _ ?side1 ?side2 A39.out).mono ?_); (case side1 => repeat (first | exact (Kd.C_below HR0.out HB.out) | (with_reducible refine Kd.C_alloc ?_ _) | (with_reducible refine Kd.C_drewN ?_ _) | (with_reducible refine Kd.C_drew ?_))); (case side2 => exact HC0.out); rintro e w41 ⟨rfl, hb⟩; refine ⟨_, rfl, ?_⟩; have n0_ := Aside0.mk (below_step (by repeat (first | (with_reducible first | exact HB.out | apply below_alloc | apply pw_below_drewN | apply below_drew1) | exact HB.out)) hb); clear HB; have HB := n0_; clear n0_; (try clear hb); (try clear hb2); (try clear hk); (try clear hi)))
           go_loopg [11, 12] kj30 (fun kq v11 v12 w' => ∃ (x11_4 : ByteArray) (x12_4 : Bool), v11 = .string x11_4 ∧ v12 = .bool x12_4 ∧ Aside0 (remoralaw15_RulesBelow.l0 kq l0 x11_4 x12_4 = some r) ∧ Aside0 (kq ≤ kj30) ∧ Aside0 (Below w.heap.size w w'))
           case atStart => exact ⟨(t106), (a3), (by first | rfl | (simp; done) | (simp [*]; done)), (by first | rfl | (simp; done) | (simp [*]; done)), H', ⟨Nat.le_refl _⟩, ⟨by repeat (first | (with_reducible first | exact HB.out | apply below_alloc | apply pw_below_drewN | apply below_drew1) | exact HB.out)⟩⟩
           case round =>
            clear H'
            try clear c1
            try clear c2
            try clear p2
            try clear c3
            try clear c4
            try clear c7
            try clear c8
            try clear c8b0
            try clear c8b1
            try clear c9
            try clear c10
            try clear c12
            try clear c16
            try clear c21
            try clear c21b0
            try clear c21b1
            try clear c23
            try clear c24
            try clear c24b0
            try clear c24b1
            try clear c28
            try clear c33
            try clear c34
            try clear c38
            try clear c40
            try clear p2
            obtain ⟨x11_4, x12_4, rfl, rfl, HA, HK4, HB⟩ := hrel
            cases gk with
            | zero => exact absurd HA.out (by simp [remoralaw15_RulesBelow.l0])
            | succ k4 =>
             have H := HA.out
             clear HA
             simp only [remoralaw15_RulesBelow.l0] at H
             by_cases c42 : x11_4.toList = ([] : List UInt8)
             ·rw [if_pos c42] at H
              have c42b0 : (x11_4.toList == ([] : List UInt8)) = true := beq_iff_eq.mpr c42
              have c42b1 : (x11_4.toList != ([] : List UInt8)) = false := bne_eq_false_iff_eq.mpr c42
              clear c42
              obtain rfl := Option.some.inj H
              go_wp2
              go_ret
              exact ⟨by first | rfl | (simp [errW_none, errW_some] <;> rfl) | (simp [*, errW_none, errW_some] <;> rfl), by repeat (first | (with_reducible first | exact HB.out | apply below_alloc | apply pw_below_drewN | apply below_drew1) | exact HB.out)⟩
             ·rw [if_neg c42] at H
              have c42b0 : (x11_4.toList == ([] : List UInt8)) = false := beq_eq_false_iff_ne.mpr c42
              have c42b1 : (x11_4.toList != ([] : List UInt8)) = true := bne_iff_ne.mpr c42
              replace H := Option.bind_eq_some_iff.mp H
              obtain ⟨t114, A430, H⟩ := H
              replace H : (if t114 = 2 then ((remoralaw15_awake.f).bind fun t115 => (some t115)) else ((path_Parent.f k4 x11_4).bind fun t116 => (remoralaw15_RulesBelow.l0 k4 l0 t116 true))) = some r := H
              have A43 := Aside0.mk A430
              clear A430
              by_cases c44 : t114 = 2
              ·rw [if_pos c44] at H
               have c44b0 : (t114 == 2) = true := beq_iff_eq.mpr c44
               have c44b1 : (t114 != 2) = false := bne_eq_false_iff_eq.mpr c44
               clear c44
               replace H := Option.bind_eq_some_iff.mp H
               obtain ⟨t115, A450, H⟩ := H
               replace H : (some t115) = some r := H
               have A45 := Aside0.mk A450
               clear A450
               obtain rfl := Option.some.inj H
               go_wp2_with (first | (go_at_call 19; (with_reducible refine (rules_Act.calls k4 _ _ l0 x11_4 x12_4 false t114 _ ?side1 ?side2 A43.out).mono ?_); (case side1 => repeat (first | exact (Kd.C_below HR0.out HB.out) | (with_reducible refine Kd.C_alloc ?_ _) | (with_reducible refine Kd.C_drewN ?_ _) | (with_reducible refine Kd.C_drew ?_))); (case side2 => exact HC0.out); rintro e w46 ⟨rfl, hb⟩; have n0_ := Aside0.mk (below_step (by repeat (first | (with_reducible first | exact HB.out | apply below_alloc | apply pw_below_drewN | apply below_drew1) | exact HB.out)) hb); clear HB; have HB := n0_; clear n0_; (try clear hb); (try clear hb2); (try clear hk); (try clear hi)) | (go_at_call 10; (with_reducible refine (remoralaw15_awake.calls  t115 _ A45.out).mono ?_); rintro e w47 ⟨rfl, hb⟩; have n0_ := Aside0.mk (below_step (by repeat (first | (with_reducible first | exact HB.out | apply below_alloc | apply pw_below_drewN | apply below_drew1) | exact HB.out)) hb); clear HB; have HB := n0_; clear n0_; (try clear hb); (try clear hb2); (try clear hk); (try clear hi)))
               go_ret
               exact ⟨by first | rfl | (simp [errW_none, errW_some] <;> rfl) | (simp [*, errW_none, errW_some] <;> rfl), by repeat (first | (with_reducible first | exact HB.out | apply below_alloc | apply pw_below_drewN | apply below_drew1) | exact HB.out)⟩
              ·rw [if_neg c44] at H
               have c44b0 : (t114 == 2) = false := beq_eq_false_iff_ne.mpr c44
               have c44b1 : (t114 != 2) = true := bne_iff_ne.mpr c44
               replace H := Option.bind_eq_some_iff.mp H
               obtain ⟨t116, A480, H⟩ := H
               replace H : (remoralaw15_RulesBelow.l0 k4 l0 t116 true) = some r := H
               have A48 := Aside0.mk A480
               clear A480
               have H' := Aside0.mk H
               clear H
               go_wp2_with (first | (go_at_call 19; (with_reducible refine (rules_Act.calls k4 _ _ l0 x11_4 x12_4 false t114 _ ?side1 ?side2 A43.out).mono ?_); (case side1 => repeat (first | exact (Kd.C_below HR0.out HB.out) | (with_reducible refine Kd.C_alloc ?_ _) | (with_reducible refine Kd.C_drewN ?_ _) | (with_reducible refine Kd.C_drew ?_))); (case side2 => exact HC0.out); rintro e w49 ⟨rfl, hb⟩; have n0_ := Aside0.mk (below_step (by repeat (first | (with_reducible first | exact HB.out | apply below_alloc | apply pw_below_drewN | apply below_drew1) | exact HB.out)) hb); clear HB; have HB := n0_; clear n0_; (try clear hb); (try clear hb2); (try clear hk); (try clear hi)) | ((with_reducible refine gate_callee (f := 35) rfl ?_); refine goesL_ (some 79) rfl rfl Tryd.func35 (by kernel_rfl) rfl #[.string x11_4] rfl (by (try simp only [List.map_toArray, List.map_cons, List.map_nil]); first | done | rfl | (simp only [List.length_drop, List.length_take]; rfl)) ?_; (with_reducible refine (path_Parent.calls k4 x11_4 t116 _ A48.out).mono ?_); rintro e w50 ⟨rfl, hb⟩; refine ⟨_, rfl, ?_⟩; have n0_ := Aside0.mk (below_step (by repeat (first | (with_reducible first | exact HB.out | apply below_alloc | apply pw_below_drewN | apply below_drew1) | exact HB.out)) hb); clear HB; have HB := n0_; clear n0_; (try clear hb); (try clear hb2); (try clear hk); (try clear hi)))
               go_roundg k4
               case measure => have := HJ4.out; have := HJ15.out; have := HJ30.out; have := HK4.out; omega
               case rel => exact ⟨(t116), (true), (by first | rfl | (simp; done) | (simp [*]; done)), (by first | rfl | (simp; done) | (simp [*]; done)), H', ⟨by have := HJ4.out; have := HJ15.out; have := HJ30.out; have := HK4.out; omega⟩, ⟨by repeat (first | (with_reducible first | exact HB.out | apply below_alloc | apply pw_below_drewN | apply below_drew1) | exact HB.out)⟩⟩
          ·replace c40 := Bool.eq_false_iff.mpr c40
           subst c40
           have H1 : ((remoralaw15_awake.f).bind fun t113 => (some t113)) = some r := by rw [if_neg (show ¬ (false = true) by decide)] at H; exact H
           clear H
           have H := H1
           clear H1
           replace H := Option.bind_eq_some_iff.mp H
           obtain ⟨t113, A510, H⟩ := H
           replace H : (some t113) = some r := H
           have A51 := Aside0.mk A510
           clear A510
           obtain rfl := Option.some.inj H
           go_wp2_with (first | ((with_reducible refine gate_callee (f := 21) rfl ?_); refine goesL_ (some 64) rfl rfl Tryd.func21 (by kernel_rfl) rfl #[.slice A0 l0.length c0, .string t106, .bool a3] rfl (by (try simp only [List.map_toArray, List.map_cons, List.map_nil]); first | done | rfl | (simp only [List.length_drop, List.length_take]; rfl)) ?_; (with_reducible refine (rules_Hidden.calls kj30 _ _ l0 t106 a3 false _ ?side1 ?side2 A39.out).mono ?_); (case side1 => repeat (first | exact (Kd.C_below HR0.out HB.out) | (with_reducible refine Kd.C_alloc ?_ _) | (with_reducible refine Kd.C_drewN ?_ _) | (with_reducible refine Kd.C_drew ?_))); (case side2 => exact HC0.out); rintro e w52 ⟨rfl, hb⟩; refine ⟨_, rfl, ?_⟩; have n0_ := Aside0.mk (below_step (by repeat (first | (with_reducible first | exact HB.out | apply below_alloc | apply pw_below_drewN | apply below_drew1) | exact HB.out)) hb); clear HB; have HB := n0_; clear n0_; (try clear hb); (try clear hb2); (try clear hk); (try clear hi)) | ((with_reducible refine gate_callee (f := 10) rfl ?_); refine goesL_ (some 66) rfl rfl Tryd.func10 (by kernel_rfl) rfl #[] rfl (by (try simp only [List.map_toArray, List.map_cons, List.map_nil]); first | done | rfl | (simp only [List.length_drop, List.length_take]; rfl)) ?_; (with_reducible refine (remoralaw15_awake.calls  t113 _ A51.out).mono ?_); rintro e w53 ⟨rfl, hb⟩; refine ⟨_, rfl, ?_⟩; have n0_ := Aside0.mk (below_step (by repeat (first | (with_reducible first | exact HB.out | apply below_alloc | apply pw_below_drewN | apply below_drew1) | exact HB.out)) hb); clear HB; have HB := n0_; clear n0_; (try clear hb); (try clear hb2); (try clear hk); (try clear hi)))
           go_ret
           exact ⟨by first | rfl | (simp [errW_none, errW_some] <;> rfl) | (simp [*, errW_none, errW_some] <;> rfl), by repeat (first | (with_reducible first | exact HB.out | apply below_alloc | apply pw_below_drewN | apply below_drew1) | exact HB.out)⟩
end Go.Proofs.YtioehkeocddniaaDoor.PA
namespace Go.Proofs.YtioehkeocddniaaDoor.PA
open Go.RowKit Go.Proofs.YtioehkeocddniaaDoorW.PrintWords Go.Proofs.YtioehkeocddniaaDoorW.PrintLast Go.Proofs.YtioehkeocddniaaDoorW.PrintMore
attribute [local go_sem] max2_int min2_int max_two min_two max_three min_three max_four min_four
set_option linter.unusedVariables false
set_option linter.unusedSimpArgs false
def skipB (s : ByteArray) : Bool := if s.toList = ([] : List UInt8) then true else (s.toList == ([46] : List UInt8))
def errB (s : ByteArray) : Int := if s.toList = ([46, 46] : List UInt8) then 16 else if 0 ≤ Lib.indexByte s.data.toList 0 then 9 else if (s.size : Int) > 48 then 7 else 0
def cleanP : List ByteArray → List ByteArray → List ByteArray × Int
 | acc, [] => (acc, 0)
 | acc, s :: t => if skipB s = true then cleanP acc t else if errB s = 0 then cleanP (acc ++ [s]) t else (acc, errB s)
def finC (r : List ByteArray × Int) : ByteArray × Int :=
 if r.2 = 0 then (if (r.1.length : Int) > 12 then ((⟨#[]⟩ : ByteArray), 7) else if ((joinB r.1 ⟨#[47]⟩).size : Int) > 200 then ((⟨#[]⟩ : ByteArray), 7) else (joinB r.1 ⟨#[47]⟩, 0)) else ((⟨#[]⟩ : ByteArray), r.2)
def cleanR (l : List ByteArray) : ByteArray × Int := finC (cleanP [] l)
theorem err_zero (s : ByteArray) (h : errB s = 0) : ¬ s.toList = ([46, 46] : List UInt8) ∧ ¬ 0 ≤ Lib.indexByte s.data.toList 0 ∧ ¬ (s.size : Int) > 48 := by
 unfold errB at h
 by_cases h1 : s.toList = ([46, 46] : List UInt8)
 ·rw [if_pos h1] at h; exact absurd h (by decide)
 ·rw [if_neg h1] at h
  by_cases h2 : 0 ≤ Lib.indexByte s.data.toList 0
  ·rw [if_pos h2] at h; exact absurd h (by decide)
  ·rw [if_neg h2] at h
   by_cases h3 : (s.size : Int) > 48
   ·rw [if_pos h3] at h; exact absurd h (by decide)
   ·exact ⟨h1, h2, h3⟩
theorem skip_if (s : ByteArray) (β : Type) (f : Bool → β) : (if s.toList = ([] : List UInt8) then f true else f (s.toList == ([46] : List UInt8))) = f (skipB s) := by
 unfold skipB
 split <;> rfl
theorem fin_join (acc : List ByteArray) (h : sumS acc + acc.length < 70368744177664) : ((strings_Join.f acc (⟨#[47]⟩ : ByteArray)).bind fun t101 => (if (acc.length : Int) > 12 then (some ((⟨#[]⟩ : ByteArray), (7 : Int))) else (if (t101.size : Int) > 200 then (some ((⟨#[]⟩ : ByteArray), 7)) else (some (t101, 0))))) = some (finC (acc, 0)) := by
 rw [join_f acc h, Option.bind_some, finC, if_pos rfl]
 dsimp only
 split
 ·rfl
 ·split <;> rfl
theorem clean_l (l : List ByteArray) (hl : l.length ≤ 3000000) : ∀ (m i k : Nat) (acc : List ByteArray), l.length - i = m → i ≤ l.length → acc.length ≤ i → sumS acc ≤ 48 * i → 2 * m + 1 ≤ k → path_clean.l0 k acc l (l.length : Int) (i : Int) = some (finC (cleanP acc (l.drop i))) := by
 intro m
 induction m with
 | zero =>
  intro i k acc hm hi ha hs hk
  obtain ⟨k, rfl⟩ : ∃ j, k = j + 1 := ⟨k - 1, by omega⟩
  obtain rfl : i = l.length := by omega
  rw [path_clean.l0, if_neg (by omega), List.drop_length, cleanP]
  exact fin_join acc (by omega)
 | succ m ih =>
  intro i k acc hm hi ha hs hk
  obtain ⟨k, rfl⟩ : ∃ j, k = j + 2 := ⟨k - 2, by omega⟩
  have hlt : i < l.length := by omega
  rw [path_clean.l0, if_pos (by omega), if_pos (by omega), if_pos (by omega), rdOf_get l i hlt, List.drop_eq_getElem_cons hlt, cleanP]
  generalize l[i] = s
  refine (skip_if s _ (fun b => path_clean.j1 (k + 1) acc s l (l.length : Int) (i : Int) b)).trans ?_
  rw [path_clean.j1, wr64 _ (by omega) (by omega)]
  by_cases hsk : skipB s = true
  ·rw [if_pos hsk, if_pos hsk]
   exact ih (i + 1) k acc (by omega) (by omega) (by omega) (by omega) (by omega)
  ·rw [if_neg hsk, if_neg hsk]
   have hix : strings_IndexByte.f s 0 = some (Lib.indexByte s.data.toList 0) := rfl
   rw [hix, Option.bind_some]
   by_cases he : errB s = 0
   ·obtain ⟨e1, e2, e3⟩ := err_zero s he
    rw [if_pos he, if_neg e1, if_neg (by omega), if_neg e3, if_pos (by omega)]
    have hsum : sumS (acc ++ [s]) = sumS acc + s.size := by rw [sumS_app]; rfl
    exact ih (i + 1) k (acc ++ [s]) (by omega) (by omega) (by simp; omega) (by omega) (by omega)
   ·rw [if_neg he]
    have hf : finC (acc, errB s) = ((⟨#[]⟩ : ByteArray), errB s) := by rw [finC, if_neg he]
    rw [hf]
    unfold errB at he ⊢
    by_cases h1 : s.toList = ([46, 46] : List UInt8)
    ·rw [if_pos h1, if_pos h1]
    ·rw [if_neg h1] at he ⊢
     rw [if_neg h1]
     by_cases h2 : 0 ≤ Lib.indexByte s.data.toList 0
     ·rw [if_pos h2, if_pos (by omega)]
     ·rw [if_neg h2] at he
      rw [if_neg h2, if_neg h2]
      by_cases h3 : (s.size : Int) > 48
      ·rw [if_pos h3, if_pos h3]
      ·rw [if_neg h3] at he; exact absurd rfl he
theorem clean_f (l : List ByteArray) (hl : l.length ≤ 3000000) (k : Nat) (hk : 6000010 ≤ k) : path_clean.f k l = some (cleanR l) :=
 clean_l l hl l.length 0 k [] (by omega) (by omega) (by simp) (by simp [sumS]) (by omega)
def splitsL : List ByteArray → List ByteArray
 | [] => []
 | a :: t => splitL a ++ splitsL t
theorem splits_app (a b : List ByteArray) : splitsL (a ++ b) = splitsL a ++ splitsL b := by
 induction a with
 | nil => rfl
 | cons x t ih => simp only [List.cons_append, splitsL, ih, List.append_assoc]
theorem splits_len (l : List ByteArray) (b : Nat) (h : ∀ a ∈ l, a.size ≤ b) : (splitsL l).length ≤ (b + 1) * l.length := by
 induction l with
 | nil => simp [splitsL]
 | cons a t ih =>
  have h1 := h a (List.mem_cons_self ..)
  have h2 := ih (fun p hp => h p (List.mem_cons_of_mem _ hp))
  have h3 := splitL_len a
  simp only [splitsL, List.length_append, List.length_cons, Nat.mul_add]
  omega
theorem splits_take (l : List ByteArray) (i : Nat) (h : i < l.length) : splitsL (l.take (i + 1)) = splitsL (l.take i) ++ splitL (l[i]) := by
 rw [List.take_succ_eq_append_getElem h, splits_app]
 simp [splitsL]
theorem pJoin_l (l : List ByteArray) (hz : ∀ a ∈ l, a.size ≤ 4000) (hl : l.length ≤ 700) : ∀ (m i k : Nat), l.length - i = m → i ≤ l.length → m + 6000020 ≤ k → path_Join.l0 k (splitsL (l.take i)) l (l.length : Int) (i : Int) = some (cleanR (splitsL l)) := by
 intro m
 have htl : ∀ i, i ≤ l.length → (splitsL (l.take i)).length ≤ 2800700 := fun i hi => by
  have h1 := splits_len (l.take i) 4000 (fun a ha => hz a (List.mem_of_mem_take ha))
  rw [List.length_take] at h1
  have : (4000 + 1) * min i l.length ≤ 4001 * 700 := Nat.mul_le_mul_left _ (by omega)
  omega
 induction m with
 | zero =>
  intro i k hm hi hk
  obtain ⟨k, rfl⟩ : ∃ j, k = j + 1 := ⟨k - 1, by omega⟩
  obtain rfl : i = l.length := by omega
  have h1 := htl l.length (by omega)
  rw [List.take_length] at h1 ⊢
  rw [path_Join.l0, if_neg (by omega), clean_f _ (by omega) k (by omega), Option.bind_some]
 | succ m ih =>
  intro i k hm hi hk
  obtain ⟨k, rfl⟩ : ∃ j, k = j + 1 := ⟨k - 1, by omega⟩
  have hlt : i < l.length := by omega
  have hsz := hz _ (List.getElem_mem hlt)
  have hsm : sml (l[i]) := by unfold sml; omega
  have h1 := htl i (by omega)
  have h2 := splitL_len (l[i])
  have hrec := ih (i + 1) k (by omega) (by omega) (by omega)
  rw [splits_take l i hlt] at hrec
  rw [path_Join.l0, if_pos (by omega), if_pos (by omega), if_pos (by omega), rdOf_get l i hlt, psplit_f _ hsm, Option.bind_some, if_pos (by omega), wr64 _ (by omega) (by omega)]
  exact hrec
theorem pJoin_f (l : List ByteArray) (hz : ∀ a ∈ l, a.size ≤ 4000) (hl : l.length ≤ 700) (k : Nat) (hk : 6000800 ≤ k) : path_Join.f k l = some (cleanR (splitsL l)) :=
 pJoin_l l hz hl l.length 0 k (by omega) (by omega) (by omega)
end Go.Proofs.YtioehkeocddniaaDoor.PA
namespace Go.Proofs.YtioehkeocddniaaDoor.PA
open Go.RowKit Go.Proofs.YtioehkeocddniaaDoorW.PrintWords Go.Proofs.YtioehkeocddniaaDoorW.PrintLast Go.Proofs.YtioehkeocddniaaDoorW.PrintMore
attribute [local go_sem] max2_int min2_int max_two min_two max_three min_three max_four min_four
set_option linter.unusedVariables false
set_option linter.unusedSimpArgs false
def keepB (s : ByteArray) : Bool := !skipB s
theorem good_iff (s : ByteArray) : partB s = true ↔ skipB s = false ∧ errB s = 0 := by
 unfold partB skipB errB
 rw [Bool.and_eq_true, Bool.and_eq_true, Bool.and_eq_true, Bool.and_eq_true, decide_eq_true_iff, decide_eq_true_iff]
 by_cases h1 : s.toList = ([] : List UInt8)
 ·rw [if_pos h1, h1]
  simp
 ·rw [if_neg h1, beq_eq_false_iff_ne.2 h1]
  by_cases h2 : s.toList = ([46] : List UInt8)
  ·rw [beq_iff_eq.2 h2]
   simp
  ·rw [beq_eq_false_iff_ne.2 h2]
   by_cases h3 : s.toList = ([46, 46] : List UInt8)
   ·rw [beq_iff_eq.2 h3, if_pos h3]
    simp
   ·rw [beq_eq_false_iff_ne.2 h3, if_neg h3]
    by_cases h4 : 0 ≤ Lib.indexByte s.data.toList 0
    ·rw [if_pos h4]
     simp
     intro _
     omega
    ·rw [if_neg h4]
     by_cases h5 : (s.size : Int) > 48
     ·rw [if_pos h5]
      simp
      omega
     ·rw [if_neg h5]
      simp
      exact ⟨by omega, by omega⟩
theorem cleanP_zero : ∀ (l acc : List ByteArray), (cleanP acc l).2 = 0 → (cleanP acc l).1 = acc ++ l.filter keepB ∧ ∀ s ∈ l.filter keepB, partB s = true
 | [], acc, _ => ⟨by simp [cleanP], by simp⟩
 | s :: t, acc, h => by
  rw [cleanP] at h ⊢
  by_cases hk : skipB s = true
  ·rw [if_pos hk] at h ⊢
   have ih := cleanP_zero t acc h
   rw [List.filter_cons_of_neg (by rw [keepB, hk]; decide)]
   exact ih
  ·have hk' := Bool.eq_false_iff.2 hk
   rw [if_neg hk] at h ⊢
   by_cases he : errB s = 0
   ·rw [if_pos he] at h ⊢
    have ih := cleanP_zero t (acc ++ [s]) h
    rw [List.filter_cons_of_pos (by rw [keepB, hk']; decide), ih.1, List.append_assoc]
    refine ⟨rfl, fun x hx => ?_⟩
    rcases List.mem_cons.1 hx with h1 | h1
    ·rw [h1]; exact (good_iff s).2 ⟨hk', he⟩
    ·exact ih.2 x h1
   ·rw [if_neg he] at h
    exact absurd h he
theorem partB_ne (s : ByteArray) (h : partB s = true) : s.size ≠ 0 := by
 intro e
 rw [size_zero e] at h
 have e2 : partB ⟨#[]⟩ = false := by simp [partB, ByteArray.toList_eq]
 rw [e2] at h
 exact absurd h (by decide)
theorem clean_back (l : List ByteArray) (hno : ∀ s ∈ l, (47 : UInt8) ∉ toL s) (h : (cleanR l).2 = 0) : splitL (cleanR l).1 = l.filter keepB ∧ rightB (cleanR l).1 = true ∧ (l.filter keepB).length ≤ 12 := by
 unfold cleanR at h ⊢
 have hz : (cleanP [] l).2 = 0 := by
  by_cases hz : (cleanP [] l).2 = 0
  ·exact hz
  ·rw [finC, if_neg hz] at h
   exact h
 obtain ⟨e1, e2⟩ := cleanP_zero l [] hz
 rw [List.nil_append] at e1
 rw [finC, if_pos hz, e1] at h ⊢
 by_cases h12 : ((l.filter keepB).length : Int) > 12
 ·rw [if_pos h12] at h; exact absurd h (by decide)
 ·rw [if_neg h12] at h ⊢
  by_cases h200 : ((joinB (l.filter keepB) ⟨#[47]⟩).size : Int) > 200
  ·rw [if_pos h200] at h; exact absurd h (by decide)
  ·rw [if_neg h200]
   have es : splitL (joinB (l.filter keepB) ⟨#[47]⟩) = l.filter keepB := split_joinB _ (fun p hp => partB_ne p (e2 p hp)) (fun p hp => hno p (List.mem_filter.1 hp).1)
   dsimp only
   refine ⟨es, ?_, by omega⟩
   unfold rightB
   rw [es, Bool.and_eq_true, Bool.and_eq_true, decide_eq_true_iff, decide_eq_true_iff, List.all_eq_true]
   exact ⟨⟨e2, by omega⟩, by omega⟩
end Go.Proofs.YtioehkeocddniaaDoor.PA
namespace Go.Proofs.YtioehkeocddniaaDoor.PA
open Go.RowKit Go.Proofs.YtioehkeocddniaaDoorW.PrintWords Go.Proofs.YtioehkeocddniaaDoorW.PrintLast Go.Proofs.YtioehkeocddniaaDoorW.PrintMore
attribute [local go_sem] max2_int min2_int max_two min_two max_three min_three max_four min_four
set_option linter.unusedVariables false
set_option linter.unusedSimpArgs false
theorem right_parts (p : ByteArray) (h : rightB p = true) : (∀ s ∈ splitL p, partB s = true) ∧ (splitL p).length ≤ 12 ∧ p.size ≤ 200 := by
 unfold rightB at h
 rw [Bool.and_eq_true, Bool.and_eq_true, decide_eq_true_iff, decide_eq_true_iff, List.all_eq_true] at h
 exact ⟨h.1.1, by omega, by omega⟩
theorem split_sub (p : ByteArray) (hg : ∀ s ∈ splitL p, partB s = true) (l : List ByteArray) (hl : ∀ s ∈ l, s ∈ splitL p) : splitL (joinB l ⟨#[47]⟩) = l :=
 split_joinB l (fun s hs => partB_ne s (hg s (hl s hs))) (fun s hs => split_no47 p s (hl s hs))
theorem par_parts (p : ByteArray) (hg : ∀ s ∈ splitL p, partB s = true) : splitL (parB p) = (splitL p).take ((splitL p).length - 1) ∧ splitL (parB p) ++ splitL (baseB p) = splitL p ∧ (parB p).size ≤ p.size ∧ (baseB p).size ≤ p.size := by
 have hsz : (parB p).size ≤ p.size ∧ (baseB p).size ≤ p.size := ⟨extract_le _ _ _, extract_le _ _ _⟩
 by_cases h : p.size = 0
 ·have e := (split_nil_iff p).2 h
  have e1 := (split_nil_iff (parB p)).2 (by omega)
  have e2 := (split_nil_iff (baseB p)).2 (by omega)
  rw [e, e1, e2]
  exact ⟨rfl, rfl, hsz⟩
 ·have e : splitL p = (splitTo p p.size).1 ++ [baseB p] := by rw [splitL, if_neg h]; rfl
  have e1 : splitL (parB p) = (splitTo p p.size).1 := by
   by_cases hf : (splitTo p p.size).2 = 0
   ·have h0 := (from_zero p p.size).2 hf
    have h1 : (parB p).size = 0 := by
     rw [parB, hf, ← toL_size, toL_extract]
     simp
    rw [(split_nil_iff _).2 h1, List.length_eq_zero_iff.1 h0]
   ·have hj := joinB_to p p.size (Nat.le_refl _) hf
    rw [parB, ← hj]
    exact split_sub p hg _ (fun s hs => by rw [e]; exact List.mem_append_left _ hs)
  have e2 : splitL (baseB p) = [baseB p] := by
   have := split_sub p hg [baseB p] (fun s hs => by rw [e]; exact List.mem_append_right _ hs)
   have ej : joinB [baseB p] ⟨#[47]⟩ = baseB p := by
    apply toL_inj
    rw [toL_joinB]
    simp [Lib.join_one]
   rw [ej] at this
   exact this
  refine ⟨?_, ?_, hsz⟩
  ·rw [e1, e]
   simp
  ·rw [e1, e2, ← e]
end Go.Proofs.YtioehkeocddniaaDoor.PA
namespace Go.Proofs.YtioehkeocddniaaDoor.PA
open Go.RowKit Go.Proofs.YtioehkeocddniaaDoorW.PrintWords Go.Proofs.YtioehkeocddniaaDoorW.PrintLast Go.Proofs.YtioehkeocddniaaDoorW.PrintMore
attribute [local go_sem] max2_int min2_int max_two min_two max_three min_three max_four min_four
set_option linter.unusedVariables false
set_option linter.unusedSimpArgs false
def wf24 (n : Nat) (x : S24) : Prop := ((Lit.int .i64 x.f0).wf = true) ∧ (x.f1.size < n ∧ x.f1.size ≤ maxLen) ∧ (True) ∧ (True)
theorem opn24 : Opn Tryd.prog 24 k24 wf24 := opn_struct (fun x : S24 => (x.f0, x.f1, x.f2, x.f3)) (fun a => (⟨a.1, a.2.1, a.2.2.1, a.2.2.2⟩ : S24)) (fun _ => rfl) Tryd.underlying24 (opnF_cons rfl (opn_int Tryd.underlying3 (by kernel_rfl)) rfl (opnF_cons rfl (opn_string Tryd.underlying9 (by kernel_rfl)) rfl (opnF_cons rfl (opn_bool Tryd.underlying4 (by kernel_rfl)) rfl (opnF_one rfl (opn_bool Tryd.underlying4 (by kernel_rfl)))))) (by kernel_rfl)
theorem hid_step (L : List S24) (b : ByteArray) (d : Bool) (hb : b.size < 999) : hidR 1000 L b d = if b.size = 0 then false else if actR L b d false = 2 then true else hidR 1000 L (parB b) true := by
 show (if b.size = 0 then false else if actR L b d false = 2 then true else hidR 999 L (parB b) true) = _
 by_cases h : b.size = 0
 ·rw [if_pos h, if_pos h]
 ·have := parB_lt b h
  rw [if_neg h, if_neg h, hidR_fuel L 999 1000 (parB b) true (by omega) (by omega)]
theorem split_same (a b : ByteArray) (h : splitL a = splitL b) : a = b := by
 rw [← joinB_split a, ← joinB_split b, h]
theorem below_hid (L : List S24) (p : ByteArray) (hp : hidR 1000 L p true = true) : ∀ (m : Nat) (R : List ByteArray) (b : ByteArray) (d : Bool), R.length = m + 1 → splitL b = splitL p ++ R → (∀ s ∈ splitL b, partB s = true) → b.size < 999 → hidR 1000 L b d = true := by
 intro m
 induction m with
 | zero =>
  intro R b d hR hb hg hs
  have hb0 : b.size ≠ 0 := fun e => by
   have := congrArg List.length ((split_nil_iff b).2 e)
   rw [hb, List.length_append, hR] at this
   simp at this
  have h1 := (par_parts b hg).1
  have h2 : splitL (parB b) = splitL p := by
   rw [h1, hb, List.length_append, hR]
   simp
  rw [hid_step L b d hs, if_neg hb0, split_same _ _ h2, hp]
  split <;> rfl
 | succ m ih =>
  intro R b d hR hb hg hs
  have hb0 : b.size ≠ 0 := fun e => by
   have := congrArg List.length ((split_nil_iff b).2 e)
   rw [hb, List.length_append, hR] at this
   simp at this
  have h1 := (par_parts b hg).1
  have hlt := parB_lt b hb0
  have h2 : splitL (parB b) = splitL p ++ R.take (R.length - 1) := by
   rw [h1, hb, List.length_append, List.take_append, List.take_of_length_le (by omega)]
   congr 2
   omega
  have hg2 : ∀ s ∈ splitL (parB b), partB s = true := fun s h => hg s (by rw [h1] at h; exact List.mem_of_mem_take h)
  have := ih (R.take (R.length - 1)) (parB b) true (by rw [List.length_take]; omega) h2 hg2 (by omega)
  rw [hid_step L b d hs, if_neg hb0, this]
  split <;> rfl
theorem below_l0 (L : List S24) (hL : ∀ x ∈ L, x.f1.size < 1000000) (hn : L.length < 1000000) : ∀ (n : Nat) (b : ByteArray) (d : Bool) (k : Nat), b.size < n → b.size < 1000 → n + 2048600 ≤ k → hidR n L b d = true → remoralaw15_RulesBelow.l0 k L b d = some true := by
 intro n
 induction n with
 | zero => intro b d k h; omega
 | succ n ih =>
  intro b d k h hb hk hh
  obtain ⟨k, rfl⟩ : ∃ j, k = j + 1 := ⟨k - 1, by omega⟩
  unfold hidR at hh
  rw [remoralaw15_RulesBelow.l0]
  by_cases h0 : b.size = 0
  ·rw [if_pos h0] at hh
   cases hh
  ·have hlt := parB_lt b h0
   rw [if_neg h0] at hh
   rw [if_neg (fun e => h0 ((size_tl b).1 e)), act_f L b d false hL (by omega) hn k (by omega), Option.bind_some]
   by_cases h2 : actR L b d false = 2
   ·rw [if_pos h2, awake15, Option.bind_some]
   ·rw [if_neg h2] at hh ⊢
    rw [parent_f b (by unfold sml; omega) k (by omega), Option.bind_some]
    exact ih (parB b) true k (by omega) (by omega) (by omega) hh
theorem keep_good (s : ByteArray) (h : partB s = true) : keepB s = true := by
 have := ((good_iff s).1 h).1
 unfold keepB
 rw [this]
 rfl
theorem filter_good (l : List ByteArray) (h : ∀ s ∈ l, partB s = true) : l.filter keepB = l := List.filter_eq_self.2 (fun s hs => keep_good s (h s hs))
theorem rulesBelow_f (L : List S24) (p q : ByteArray) (dir : Bool) : ∃ k, remoralaw15_RulesBelow.f k L p q dir = some true := by
 obtain ⟨k, hk⟩ : ∃ k, k = 8000000 := ⟨_, rfl⟩
 refine ⟨k + 3, ?_⟩
 have jt : remoralaw15_RulesBelow.j0 (k + 3) L p q dir true = some true := by
  rw [remoralaw15_RulesBelow.j0, if_pos rfl, awake15, Option.bind_some]
 unfold remoralaw15_RulesBelow.f
 rw [light15_f L _ (by omega), Option.bind_some]
 by_cases hl : lightB L = true
 ·rw [if_pos hl]
  by_cases h1 : (p.size : Int) > 300
  ·rw [if_pos h1, jt]
  ·rw [if_neg h1]
   by_cases h2 : (q.size : Int) > 300
   ·rw [decide_eq_true h2, jt]
   ·obtain ⟨hn, hL⟩ := lightB_facts hl
    have hL' : ∀ x ∈ L, x.f1.size < 1000000 := fun x hx => by have := hL x hx; omega
    obtain ⟨Z, hZ⟩ : ∃ Z, Z = splitL p ++ splitL q := ⟨_, rfl⟩
    have eZ : splitsL [p, q] = Z := by rw [hZ]; simp [splitsL]
    have hJ := pJoin_f [p, q] (fun a ha => by
     rcases List.mem_cons.1 ha with h | h
     ·rw [h]; omega
     ·rw [List.mem_singleton.1 h]; omega) (by simp) (k + 2) (by omega)
    rw [eZ] at hJ
    obtain ⟨⟨b, e⟩, hC⟩ : ∃ B, B = cleanR Z := ⟨_, rfl⟩
    have j1t : remoralaw15_RulesBelow.j1 (k + 2) L p dir b true = some true := by
     rw [remoralaw15_RulesBelow.j1, if_pos rfl, awake15, Option.bind_some]
    rw [decide_eq_false h2, remoralaw15_RulesBelow.j0, if_neg (by decide), hJ, Option.bind_some, ← hC]
    show (if e = 0 then _ else _) = _
    by_cases he : e = 0
    ·rw [if_pos he, right_f p (by omega) (k + 2) (by omega), Option.bind_some]
     by_cases hr : rightB p = true
     ·rw [if_pos hr]
      by_cases h0 : p.size = 0
      ·rw [if_pos ((size_tl p).2 h0), j1t]
      ·rw [if_neg (fun e => h0 ((size_tl p).1 e))]
       by_cases hbp : b = p
       ·rw [beq_iff_eq.2 (congrArg ByteArray.toList hbp), j1t]
       ·have hbl : (b.toList == p.toList) = false := by rw [tl_beq, decide_eq_false hbp]
        have hz2 : (cleanR Z).2 = 0 := by rw [← hC]; exact he
        have hback := clean_back Z (fun s hs => by
         rw [hZ] at hs
         rcases List.mem_append.1 hs with h | h
         ·exact split_no47 p s h
         ·exact split_no47 q s h) hz2
        rw [← hC] at hback
        have hb1 : splitL b = Z.filter keepB := hback.1
        have hb2 : rightB b = true := hback.2.1
        have hpp := right_parts p hr
        have hbb := right_parts b hb2
        rw [hZ, List.filter_append, filter_good _ hpp.1] at hb1
        have hne : (splitL q).filter keepB ≠ [] := fun e => hbp (split_same _ _ (by rw [hb1, e, List.append_nil]))
        have hlen : 0 < ((splitL q).filter keepB).length := List.length_pos_iff.2 hne
        have hp1 := hidden_f L hL' (by omega) p true (by omega) (k + 1) (by omega)
        have hB1 := hidden_f L hL' (by omega) b dir (by omega) (k + 1) (by omega)
        have hB2 := hidden_f L hL' (by omega) b dir (by omega) k (by omega)
        rw [hr, Bool.true_and] at hp1
        rw [hb2, Bool.true_and] at hB1 hB2
        have hj2 : remoralaw15_RulesBelow.j2 (k + 1) L dir b false = some true := by
         rw [remoralaw15_RulesBelow.j2, if_neg (by decide), hB2, Option.bind_some]
         by_cases hh : hidR 1000 L b dir = true
         ·rw [if_pos hh]
          exact below_l0 L hL' (by omega) 1000 b dir k (by omega) (by omega) (by omega) hh
         ·rw [if_neg hh, awake15, Option.bind_some]
        show remoralaw15_RulesBelow.j1 (k + 2) L p dir b (b.toList == p.toList) = some true
        rw [hbl, remoralaw15_RulesBelow.j1, if_neg (by decide), hp1, Option.bind_some]
        by_cases hh : hidR 1000 L p true = true
        ·have hbh := below_hid L p hh (((splitL q).filter keepB).length - 1) _ b dir (by omega) hb1 hbb.1 (by omega)
         rw [if_pos hh, hB1, Option.bind_some, hbh]
         exact hj2
        ·rw [if_neg hh]
         exact hj2
     ·rw [if_neg hr, j1t]
    ·rw [if_neg he, j1t]
 ·rw [if_neg hl, jt]
theorem rulesBelow_law (w : World) (A0 : Option Addr) (c0 : Nat) (x0 : List S24) (hC : Kd.C k24 w A0 x0.length x0) (hL : x0.length ≤ c0) (hw : ∃ n, x0.length < n ∧ ∀ a ∈ x0, wf24 n a) (p : ByteArray) (hw1 : ∃ n, p.size < n ∧ p.size ≤ maxLen) (q : ByteArray) (hw2 : ∃ n, q.size < n ∧ q.size ≤ maxLen) (dir : Bool) (hw3 : ∃ n : Nat, True) :
  Calls Tryd.prog 9 #[.slice A0 x0.length c0, .string p, .string q, .bool dir] w fun e w' => e = .returned (.bool true) ∧ Below w.heap.size w w' := by
 obtain ⟨k, hk⟩ := rulesBelow_f x0 p q dir
 exact remoralaw15_RulesBelow.calls k A0 c0 x0 p q dir true w hC hL hk
end Go.Proofs.YtioehkeocddniaaDoor.PA
namespace Go.Proofs.YtioehkeocddniaaDoor.rulesBelowRow
open Go.ChangeShapes Go.WideShapes Go.ChangeAt Go.RowKit Go.Proofs.YtioehkeocddniaaDoor.PA Go.Proofs.YtioehkeocddniaaDoorW.PrintWords Go.Proofs.YtioehkeocddniaaDoorW.PrintLast Go.Proofs.YtioehkeocddniaaDoorW.PrintMore
open Go.ChangeMaps (open_string shut_string)
theorem own : ownKnob Tryd.prog.godebug = none := by kernel_rfl
theorem laidOut : laidOutB Tryd.prog = true := by kernel_rfl
set_option linter.unusedSimpArgs false in
set_option maxHeartbeats 1000000 in
set_option maxRecDepth 100000 in
theorem lifted (os : Os) (started : os.Started) (H : Type) (enc : TypeId × Value → H) :
  ReturnsInHanded {} Tryd.checked os 9 .any (fun w args => (Rows.rulesBelowSpec.pre enc Tryd.prog Tryd.f9 Rows.rulesBelowRow.domain false w args ∧ laidMetH Tryd.prog Rows.rulesBelowRow.laid w) ∧ sizedMet enc Tryd.prog Tryd.f9 (OpenSpec.ofChange Rows.rulesBelowSpec) false w args)
   (Rows.rulesBelowSpec.post enc Tryd.prog Tryd.f9 false true false false) := by
 refine returnsInHanded_of_change_and (C := Tryd.checked) (X := fun w _ => laidMetH Tryd.prog Rows.rulesBelowRow.laid w) (fun _ _ _ hh h => h.of_heap hh) own started (by kernel_rfl) Tryd.func9
  (ChangeSpec.witness_shaped (enc := enc) (C := Tryd.checked) (os := os) (X := fun w _ => laidMetH Tryd.prog Rows.rulesBelowRow.laid w) false (World.laidAll Tryd.prog os Rows.rulesBelowRow.laid) #[.slice none 0 0, .string ByteArray.empty, .string ByteArray.empty, .bool false] 8 (World.laidAll_os _ _ _)
   (World.shaped_of_ZipB (by kernel_rfl) (by kernel_rfl)) (by kernel_rfl) (by kernel_rfl) (by kernel_rfl)
   (by rw [MakeChecks.laidMetH_plain _ _ _ (by kernel_rfl)]; exact laidMet_laidAll _ (by kernel_rfl) (by kernel_rfl))) ?_
 intro W base args ds gs before hval0 hW hcnd _ hL_ _
 have hval : ∀ (j : Nat) t v, Tryd.f9.params[j]? = some t → args[j]? = some v → Value.okWide Tryd.prog W .any base t v := hval0
 have hW' := hW
 obtain ⟨p, q, hA0, hV, rfl, hfz, hnd⟩ := hW
 have hA : DataW.TrodAll enc Tryd.prog W 0 (fun _ => true) true Tryd.f9.params.toList args.toList ds p := hA0
 rw [Tryd.params9] at hA hval
 obtain ⟨v0, vs0, d0, ds0, p0, q0, hargs, rfl, rfl, h0, r0⟩ := trodAll_cons hA
 obtain ⟨v1, vs1, d1, ds1, p1, q1, rfl, rfl, rfl, h1, r1⟩ := trodAll_cons r0
 obtain ⟨v2, vs2, d2, ds2, p2, q2, rfl, rfl, rfl, h2, r2⟩ := trodAll_cons r1
 obtain ⟨v3, vs3, d3, ds3, p3, q3, rfl, rfl, rfl, h3, r3⟩ := trodAll_cons r2
 obtain ⟨rfl, rfl, rfl⟩ := trodAll_nil r3
 obtain rfl : args = #[v0, v1, v2, v3] := by cases args; simp_all
 obtain ⟨rfl, rfl⟩ := trodVars_none hV
 obtain ⟨A0, l0, c0, rfl⟩ := okWide_slice Tryd.underlying28 (hval 0 28 v0 rfl rfl)
 have k0 := h0
 have lt0 : ∀ x ∈ p0, x.block < W.heap.size := by obtain ⟨m, hm⟩ := k0; exact DataW.trod_lt m _ _ _ hm
 obtain ⟨fu0, hf0⟩ := h0
 obtain ⟨x0, hk0, hw0⟩ := (show Opn Tryd.prog 28 (Kd.slice 24 k24) (fun n x => x.length < n ∧ ∀ a ∈ x, wf24 n a) from (opn_slice Tryd.underlying28 (by kernel_rfl) opn24)).op enc W 0 _ true fu0 _ _ hf0
 obtain ⟨A_, c_, e0, hL0, hC0⟩ := hk0
 simp only [Value.cells, Array.toList, List.cons.injEq, Value.slice.injEq, and_true] at e0
 obtain ⟨rfl, rfl, rfl⟩ := e0
 obtain ⟨y1, rfl⟩ := okWide_string Tryd.underlying9 (hval 1 9 v1 rfl rfl)
 have k1 := h1
 have lt1 : ∀ x ∈ p1, x.block < W.heap.size := by obtain ⟨m, hm⟩ := k1; exact DataW.trod_lt m _ _ _ hm
 obtain ⟨fu1, hf1⟩ := h1
 obtain ⟨x1, hk1, hw1⟩ := (show Opn Tryd.prog 9 Kd.string (fun n x => x.size < n ∧ x.size ≤ maxLen) from (opn_string Tryd.underlying9 (by kernel_rfl))).op enc W 0 _ true fu1 _ _ hf1
 have e1 := (List.cons.inj hk1).1
 injection e1 with e1
 have e1 := e1.symm
 subst e1
 obtain ⟨y2, rfl⟩ := okWide_string Tryd.underlying9 (hval 2 9 v2 rfl rfl)
 have k2 := h2
 have lt2 : ∀ x ∈ p2, x.block < W.heap.size := by obtain ⟨m, hm⟩ := k2; exact DataW.trod_lt m _ _ _ hm
 obtain ⟨fu2, hf2⟩ := h2
 obtain ⟨x2, hk2, hw2⟩ := (show Opn Tryd.prog 9 Kd.string (fun n x => x.size < n ∧ x.size ≤ maxLen) from (opn_string Tryd.underlying9 (by kernel_rfl))).op enc W 0 _ true fu2 _ _ hf2
 have e2 := (List.cons.inj hk2).1
 injection e2 with e2
 have e2 := e2.symm
 subst e2
 obtain ⟨y3, rfl⟩ := okWide_bool Tryd.underlying4 (hval 3 4 v3 rfl rfl)
 have k3 := h3
 have lt3 : ∀ x ∈ p3, x.block < W.heap.size := by obtain ⟨m, hm⟩ := k3; exact DataW.trod_lt m _ _ _ hm
 obtain ⟨fu3, hf3⟩ := h3
 obtain ⟨x3, hk3, hw3⟩ := (show Opn Tryd.prog 4 Kd.bool (fun n x => True) from (opn_bool Tryd.underlying4 (by kernel_rfl))).op enc W 0 _ true fu3 _ _ hf3
 have e3 := (List.cons.inj hk3).1
 injection e3 with e3
 have e3 := e3.symm
 subst e3
 refine (rulesBelow_law W A0 c0 x0 hC0 hL0 ⟨Rows.uptoBulk d0, hw0⟩ x1 ⟨Rows.uptoBulk d1, hw1⟩ x2 ⟨Rows.uptoBulk d2, hw2⟩ x3 ⟨Rows.uptoBulk d3, hw3⟩).mono fun e W' ⟨he, bel⟩ => ?_
 subst he
 exact ⟨_, rfl, _, _, _, [], _, [], hW', trodAll_mk1 (shut_bool Tryd.underlying4 _), (trodAll_cons_mk (Below.trod laidOut (by kernel_rfl) (of_decide_eq_true (by kernel_rfl)) k0 bel lt0) (trodAll_cons_mk (Below.trod laidOut (by kernel_rfl) (of_decide_eq_true (by kernel_rfl)) k1 bel lt1) (trodAll_cons_mk (Below.trod laidOut (by kernel_rfl) (of_decide_eq_true (by kernel_rfl)) k2 bel lt2) (trodAll_cons_mk (Below.trod laidOut (by kernel_rfl) (of_decide_eq_true (by kernel_rfl)) k3 bel lt3) trodAll_mk0)))), rfl, bel.frame _, fun h => by cases h⟩
theorem over : Rows.rulesBelowRow.holds Tryd.pinned (OpenSpec.ofChange Rows.rulesBelowSpec) :=
 OpenClaim.holds_of_wide 9 Tryd.f9 rfl rfl rfl rfl rfl rfl rfl ⟨rfl, rfl, rfl, rfl, rfl⟩ rfl rfl rfl rfl rfl (by kernel_rfl) Tryd.func9 (by kernel_rfl)
  (of_decide_eq_true (by kernel_rfl)) (by unfold Func.isWrapper; first | (rw [if_pos (by decide +kernel)]; kernel_rfl) | (rw [if_neg (by decide +kernel)]; exact ⟨rfl, rfl⟩))
  (fun os started H enc _ => lifted os started H enc)
theorem proved : Rows.RulesBelowSaid := over
theorem card : Rows.RulesBelowCardSaid :=
 Claim7.holds_tied_plain_at .later [] _ _ _ _ proved (fun _ h => by cases h) (by kernel_rfl) (fun _ h => by cases h) rulesBelow_row_tie rfl ⟨rfl, rfl⟩ (by kernel_rfl) rfl
  (fun f fn hf hfn => by
   obtain rfl : f = 9 := Option.some.inj ((show Tryd.prog.funcNamed "remora/remoralaw15.RulesBelow" = some 9 by kernel_rfl).symm.trans hf) |>.symm
   obtain rfl : fn = Tryd.f9 := (Option.some.inj (Tryd.func9.symm.trans hfn)).symm
   exact ⟨by kernel_rfl, fun j t ht => by
    rw [Tryd.params9] at ht
    have hm : t ∈ [28, 9, 9, 4] := by simpa using Array.mem_of_getElem? ht
    have hall : ([28, 9, 9, 4].all fun u => !Tryd.prog.wantsStandIn u) = true := by kernel_rfl
    exact (show Tryd.prog.wantsStandIn t = false by simpa using List.all_eq_true.1 hall t hm)⟩)
  (by kernel_rfl)
#print axioms card
end Go.Proofs.YtioehkeocddniaaDoor.rulesBelowRow
namespace Go.Proofs.YtioehkeocddniaaDoor
theorem rulesBelow_holds : Rows.RulesBelowCardSaid := rulesBelowRow.card
end Go.Proofs.YtioehkeocddniaaDoor
namespace Go.Proofs.YtioehkeocddniaaDoor.PA
end Go.Proofs.YtioehkeocddniaaDoor.PA
