/- flist.Check's own map of directories. -/
import Derived.Test.YtcdmgdegohcmhaaDoorNG1
import Derived.Test.YtcdmgdegohcmhaaDoorNG2
import Derived.Lib.Join
import Derived.Lib.Bytealg
import Derived.Maps.Keyed
import Derived.Maps.Own
import Derived.Maps.OwnOps
import Derived.Maps.OwnSet
import Derived.Maps.Views
namespace Go.Proofs.YtcdmgdegohcmhaaDoor.PA
open Go.RowKit Go.Proofs.YtcdmgdegohcmhaaDoorW.PrintWords Go.Proofs.YtcdmgdegohcmhaaDoorW.PrintLast Go.Proofs.YtcdmgdegohcmhaaDoorW.PrintMore
attribute [local go_sem] max2_int min2_int max_two min_two max_three min_three max_four min_four   -- for this text's walks alone
set_option linter.unusedVariables false
set_option linter.unusedSimpArgs false
def path_Under.f (k : Nat) (a0 : ByteArray) (a1 : ByteArray) : Option (Bool) := (path_Split.f a0).bind fun t101 => ((path_Split.f a1).bind fun t104 => (if (t101.length : Int) ≥ (t104.length : Int) then (if 0 ≤ (t104.length : Int) then (if (t104.length : Int) ≤ (t101.length : Int) then ((slices_Equal_string_string.f k (t101.take ((t104.length : Int) : Int).toNat) t104).bind fun t111 => (some t111)) else (none)) else (none)) else (some false)))
set_option maxHeartbeats 8000000 in
set_option maxRecDepth 100000 in
theorem path_Under.calls (k : Nat) (a0 : ByteArray) (a1 : ByteArray) (r : Bool) (w : World) (h : path_Under.f k a0 a1 = some r) :
  Calls Tryd.prog 44 #[.string a0, .string a1] w fun e w' => e = .returned (.bool r) ∧ Below w.heap.size w w' := by
 have HB := Aside0.mk (Below.refl w.heap.size w)
 have H : ((path_Split.f a0).bind fun t101 => ((path_Split.f a1).bind fun t104 => (if (t101.length : Int) ≥ (t104.length : Int) then (if 0 ≤ (t104.length : Int) then (if (t104.length : Int) ≤ (t101.length : Int) then ((slices_Equal_string_string.f k (t101.take ((t104.length : Int) : Int).toNat) t104).bind fun t111 => (some t111)) else (none)) else (none)) else (some false)))) = some r := h
 clear h
 replace H := Option.bind_eq_some_iff.mp H
 obtain ⟨t101, A30, H⟩ := H
 replace H : ((path_Split.f a1).bind fun t104 => (if (t101.length : Int) ≥ (t104.length : Int) then (if 0 ≤ (t104.length : Int) then (if (t104.length : Int) ≤ (t101.length : Int) then ((slices_Equal_string_string.f k (t101.take ((t104.length : Int) : Int).toNat) t104).bind fun t111 => (some t111)) else (none)) else (none)) else (some false))) = some r := H
 have A3 := Aside0.mk A30
 clear A30
 replace H := Option.bind_eq_some_iff.mp H
 obtain ⟨t104, A40, H⟩ := H
 replace H : (if (t101.length : Int) ≥ (t104.length : Int) then (if 0 ≤ (t104.length : Int) then (if (t104.length : Int) ≤ (t101.length : Int) then ((slices_Equal_string_string.f k (t101.take ((t104.length : Int) : Int).toNat) t104).bind fun t111 => (some t111)) else (none)) else (none)) else (some false)) = some r := H
 have A4 := Aside0.mk A40
 clear A40
 by_cases c5 : (t101.length : Int) ≥ (t104.length : Int)
 ·rw [if_pos c5] at H
  have c5b0 : decide ((t104.length : Int) ≤ (t101.length : Int)) = true := decide_eq_true c5
  have c5b1 : decide (t104.length ≤ t101.length) = true := decide_eq_true (Int.ofNat_le.mp c5)
  clear c5
  by_cases c6 : 0 ≤ (t104.length : Int)
  ·rw [if_pos c6] at H
   have c6b0 := eq_true c6
   have c6b1 : decide (0 ≤ (t104.length : Int)) = true := decide_eq_true c6
   clear c6
   by_cases c7 : (t104.length : Int) ≤ (t101.length : Int)
   ·rw [if_pos c7] at H
    have c7b0 := eq_true c7
    have c7b1 : decide ((t104.length : Int) ≤ (t101.length : Int)) = true := decide_eq_true c7
    clear c7
    obtain ⟨y107, hy107⟩ : ∃ y_ : List ByteArray, y_ = (t101.take ((t104.length : Int) : Int).toNat) := ⟨_, rfl⟩
    replace H : ((slices_Equal_string_string.f k y107 t104).bind fun t111 => (some t111)) = some r := by first | (rw [hy107]; with_reducible exact H) | (have H2_ := (Option.bind_some _ _).symm.trans H; rw [hy107]; with_reducible exact H2_) | (have H2_ := (Option.bind_some _ _).symm.trans H; with_reducible exact H2_) | with_reducible exact H | (rw [hy107]; exact H) | exact H
    have Ny107 := Aside0.mk hy107
    clear hy107
    replace H := Option.bind_eq_some_iff.mp H
    obtain ⟨t111, A80, H⟩ := H
    replace H : (some t111) = some r := H
    have A8 := Aside0.mk A80
    clear A80
    obtain rfl := Option.some.inj H
    go_enter Tryd.func44, Tryd.ntmps44
    go_wp2_with (first | ((with_reducible refine gate_callee (f := 63) rfl ?_); refine goesL_ (some 8) rfl rfl Tryd.func63 (by kernel_rfl) rfl #[.string a0] rfl (by (try simp only [List.map_toArray, List.map_cons, List.map_nil]); first | done | rfl | (simp only [List.length_drop, List.length_take]; rfl)) ?_; (with_reducible refine (path_Split.calls a0 t101 _ A3.out).mono ?_); rintro e w9 ⟨v102, rfl, ho0, hb⟩; refine ⟨_, rfl, ?_⟩; have n0_ := Aside0.mk (Kd.R_lower ho0 (below_size (upB HB.out))); have n1_ := Aside0.mk (below_step (upB HB.out) hb); clear HB; have HO103 := n0_; have HB := n1_; clear n0_ n1_; (try clear hb); (try clear hb2); (try clear hk); (try clear hi); (try clear ho0)) | ((with_reducible refine gate_callee (f := 63) rfl ?_); refine goesL_ (some 10) rfl rfl Tryd.func63 (by kernel_rfl) rfl #[.string a1] rfl (by (try simp only [List.map_toArray, List.map_cons, List.map_nil]); first | done | rfl | (simp only [List.length_drop, List.length_take]; rfl)) ?_; (with_reducible refine (path_Split.calls a1 t104 _ A4.out).mono ?_); rintro e w10 ⟨v105, rfl, ho0, hb⟩; refine ⟨_, rfl, ?_⟩; have n0_ := Aside0.mk (Kd.R_elder' (upR HO103.out) (Kd.R_base ho0) hb); have n1_ := Aside0.mk (Kd.R_lower (Kd.R_new' ho0 (Kd.R_lt (upR HO103.out))) (below_size (upB HB.out))); have n2_ := Aside0.mk (below_step (upB HB.out) hb); clear HO103; clear HB; have HO103 := n0_; have HO106 := n1_; have HB := n2_; clear n0_ n1_ n2_; (try clear hb); (try clear hb2); (try clear hk); (try clear hi); (try clear ho0); obtain ⟨Ao11, co11, eo11⟩ := Kd.R_slice HO103.out; subst eo11; obtain ⟨Ao12, co12, eo12⟩ := Kd.R_slice HO106.out; subst eo12; have q13 : ((t104.length : Int) : Int) ≤ ((t101.length : Int) : Int) := of_decide_eq_true (by first | (with_reducible assumption) | assumption); obtain ⟨i013, hi013, _, hsz13, _⟩ := info_parts info9; have hroom13 : t101.length ≤ co11 := (Kd.R_reads' HO103.out).2.1; have hC13 : Kd.C Kd.string _ Ao11 t101.length t101 := (Kd.R_reads' HO103.out).2.2; have hcut13 := cut_to (P := Tryd.prog) 71 9 .i64 Tryd.underlying71 hi013 Ao11 t101.length co11 (t104.length : Int) (of_decide_eq_true (by first | (with_reducible assumption) | assumption)) q13 hroom13; have hr13 := Kd.C_take (m := ((t104.length : Int) : Int).toNat) hC13 (by omega); have hy13 : y107.length = ((t104.length : Int) : Int).toNat := (by rw [Ny107.out, List.length_take]; omega); rw [← Ny107.out] at hr13; rw [← hy13] at hcut13; have HR110 := Aside0.mk hr13; have HC110 := Aside0.mk (show y107.length ≤ co11 from by omega); clear hr13 hC13 hroom13 hi013 hsz13; have KY13 := Aside0.mk hy13; clear hy13; have KL13 := Aside0.mk (show ((t104.length : Int) : Int).toNat ≤ t101.length from by omega); replace q13 := eq_true q13) | (go_at_call 75; (with_reducible refine (slices_Equal_string_string.calls k _ _ y107 _ _ t104 t111 _ ?side1 ?side2 ?side3 ?side4 A8.out).mono ?_); (case side1 => repeat (first | exact (by repeat (first | (with_reducible exact HR110.out) | (with_reducible refine Kd.C_alloc ?_ _) | (with_reducible refine Kd.C_drewN ?_ _) | (with_reducible refine Kd.C_drew ?_) | exact HR110.out)) | (with_reducible refine Kd.C_alloc ?_ _) | (with_reducible refine Kd.C_drewN ?_ _) | (with_reducible refine Kd.C_drew ?_))); (case side2 => exact HC110.out); (case side3 => repeat (first | exact (Kd.R_reads' HO106.out).2.2 | (with_reducible refine Kd.C_alloc ?_ _) | (with_reducible refine Kd.C_drewN ?_ _) | (with_reducible refine Kd.C_drew ?_))); (case side4 => exact (Kd.R_reads' HO106.out).2.1); rintro e w' ⟨rfl, ⟨nd, rfl⟩⟩))
    go_ret
    exact ⟨by first | rfl | (simp [errW_none, errW_some] <;> rfl) | (simp [*, errW_none, errW_some] <;> rfl), upB HB.out⟩
   rw [if_neg c7] at H
   exact absurd H (by simp)
  rw [if_neg c6] at H
  exact absurd H (by simp)
 rw [if_neg c5] at H
 have c5b0 : decide ((t104.length : Int) ≤ (t101.length : Int)) = false := decide_eq_false c5
 have c5b1 : decide (t104.length ≤ t101.length) = false := decide_eq_false (fun h => c5 (Int.ofNat_le.mpr h))
 clear c5
 obtain rfl := Option.some.inj H
 go_enter Tryd.func44, Tryd.ntmps44
 go_wp2_with (first | ((with_reducible refine gate_callee (f := 63) rfl ?_); refine goesL_ (some 8) rfl rfl Tryd.func63 (by kernel_rfl) rfl #[.string a0] rfl (by (try simp only [List.map_toArray, List.map_cons, List.map_nil]); first | done | rfl | (simp only [List.length_drop, List.length_take]; rfl)) ?_; (with_reducible refine (path_Split.calls a0 t101 _ A3.out).mono ?_); rintro e w14 ⟨v102, rfl, ho0, hb⟩; refine ⟨_, rfl, ?_⟩; have n0_ := Aside0.mk (Kd.R_lower ho0 (below_size (upB HB.out))); have n1_ := Aside0.mk (below_step (upB HB.out) hb); clear HB; have HO103 := n0_; have HB := n1_; clear n0_ n1_; (try clear hb); (try clear hb2); (try clear hk); (try clear hi); (try clear ho0)) | ((with_reducible refine gate_callee (f := 63) rfl ?_); refine goesL_ (some 10) rfl rfl Tryd.func63 (by kernel_rfl) rfl #[.string a1] rfl (by (try simp only [List.map_toArray, List.map_cons, List.map_nil]); first | done | rfl | (simp only [List.length_drop, List.length_take]; rfl)) ?_; (with_reducible refine (path_Split.calls a1 t104 _ A4.out).mono ?_); rintro e w15 ⟨v105, rfl, ho0, hb⟩; refine ⟨_, rfl, ?_⟩; have n0_ := Aside0.mk (Kd.R_elder' (upR HO103.out) (Kd.R_base ho0) hb); have n1_ := Aside0.mk (Kd.R_lower (Kd.R_new' ho0 (Kd.R_lt (upR HO103.out))) (below_size (upB HB.out))); have n2_ := Aside0.mk (below_step (upB HB.out) hb); clear HO103; clear HB; have HO103 := n0_; have HO106 := n1_; have HB := n2_; clear n0_ n1_ n2_; (try clear hb); (try clear hb2); (try clear hk); (try clear hi); (try clear ho0); obtain ⟨Ao16, co16, eo16⟩ := Kd.R_slice HO103.out; subst eo16; obtain ⟨Ao17, co17, eo17⟩ := Kd.R_slice HO106.out; subst eo17))
 go_ret
 exact ⟨by first | rfl | (simp [errW_none, errW_some] <;> rfl) | (simp [*, errW_none, errW_some] <;> rfl), upB HB.out⟩
set_option linter.unusedVariables false
set_option linter.unusedSimpArgs false
mutual
def remoraref13_Less.l0 : Nat → List ByteArray → List ByteArray → Int → Option (Bool)
 | 0, _, _, _ => none
 | k + 1, x5, x6, x7 => if x7 < (x5.length : Int) then (remoraref13_Less.j1 k x5 x6 x7 (decide (x7 < (x6.length : Int)))) else (remoraref13_Less.j1 k x5 x6 x7 false)
def remoraref13_Less.j1 : Nat → List ByteArray → List ByteArray → Int → Bool → Option (Bool)
 | 0, _, _, _, _ => none
 | k + 1, x5, x6, x7, x21 => if x21 = true then (if 0 ≤ x7 then (if x7 < (x5.length : Int) then (if x7 < (x6.length : Int) then (if (rdOf ByteArray.empty x5 x7).toList = (rdOf ByteArray.empty x6 x7).toList then (remoraref13_Less.l0 k x5 x6 (wrap64 (x7 + 1))) else (some (Op.bytesLess ((rdOf ByteArray.empty x5 x7).toList) ((rdOf ByteArray.empty x6 x7).toList)))) else (none)) else (none)) else (none)) else (some (decide ((x5.length : Int) < (x6.length : Int))))
end
def remoraref13_Less.f (k : Nat) (a0 : ByteArray) (a1 : ByteArray) : Option (Bool) := (remoraref13_Split.f k a0).bind fun t101 => ((remoraref13_Split.f k a1).bind fun t104 => (remoraref13_Less.l0 k t101 t104 0))
set_option maxHeartbeats 8000000 in
set_option maxRecDepth 100000 in
theorem remoraref13_Less.calls (k : Nat) (a0 : ByteArray) (a1 : ByteArray) (r : Bool) (w : World) (h : remoraref13_Less.f k a0 a1 = some r) :
  Calls Tryd.prog 24 #[.string a0, .string a1] w fun e w' => e = .returned (.bool r) ∧ Below w.heap.size w w' := by
 have HB := Aside0.mk (Below.refl w.heap.size w)
 have H : ((remoraref13_Split.f k a0).bind fun t101 => ((remoraref13_Split.f k a1).bind fun t104 => (remoraref13_Less.l0 k t101 t104 0))) = some r := h
 clear h
 replace H := Option.bind_eq_some_iff.mp H
 obtain ⟨t101, A30, H⟩ := H
 replace H : ((remoraref13_Split.f k a1).bind fun t104 => (remoraref13_Less.l0 k t101 t104 0)) = some r := H
 have A3 := Aside0.mk A30
 clear A30
 replace H := Option.bind_eq_some_iff.mp H
 obtain ⟨t104, A40, H⟩ := H
 replace H : (remoraref13_Less.l0 k t101 t104 0) = some r := H
 have A4 := Aside0.mk A40
 clear A40
 have H' := Aside0.mk H
 clear H
 go_enter Tryd.func24, Tryd.ntmps24
 go_wp2_with (first | (go_at_call 58; (with_reducible refine (remoraref13_Split.calls k a0 t101 _ A3.out).mono ?_); rintro e w5 ⟨v102, rfl, ho0, hb⟩; have n0_ := Aside0.mk (Kd.R_lower ho0 (below_size (upB HB.out))); have n1_ := Aside0.mk (below_step (upB HB.out) hb); clear HB; have HO103 := n0_; have HB := n1_; clear n0_ n1_; (try clear hb); (try clear hb2); (try clear hk); (try clear hi); (try clear ho0)) | (go_at_call 58; (with_reducible refine (remoraref13_Split.calls k a1 t104 _ A4.out).mono ?_); rintro e w6 ⟨v105, rfl, ho0, hb⟩; have n0_ := Aside0.mk (Kd.R_elder' (upR HO103.out) (Kd.R_base ho0) hb); have n1_ := Aside0.mk (Kd.R_lower (Kd.R_new' ho0 (Kd.R_lt (upR HO103.out))) (below_size (upB HB.out))); have n2_ := Aside0.mk (below_step (upB HB.out) hb); clear HO103; clear HB; have HO103 := n0_; have HO106 := n1_; have HB := n2_; clear n0_ n1_ n2_; (try clear hb); (try clear hb2); (try clear hk); (try clear hi); (try clear ho0)))
 repeat (go_quiet (first | (go_at_call 58; (with_reducible refine (remoraref13_Split.calls k a0 t101 _ A3.out).mono ?_); rintro e w5 ⟨v102, rfl, ho0, hb⟩; have n0_ := Aside0.mk (Kd.R_lower ho0 (below_size (upB HB.out))); have n1_ := Aside0.mk (below_step (upB HB.out) hb); clear HB; have HO103 := n0_; have HB := n1_; clear n0_ n1_; (try clear hb); (try clear hb2); (try clear hk); (try clear hi); (try clear ho0)) | (go_at_call 58; (with_reducible refine (remoraref13_Split.calls k a1 t104 _ A4.out).mono ?_); rintro e w6 ⟨v105, rfl, ho0, hb⟩; have n0_ := Aside0.mk (Kd.R_elder' (upR HO103.out) (Kd.R_base ho0) hb); have n1_ := Aside0.mk (Kd.R_lower (Kd.R_new' ho0 (Kd.R_lt (upR HO103.out))) (below_size (upB HB.out))); have n2_ := Aside0.mk (below_step (upB HB.out) hb); clear HO103; clear HB; have HO103 := n0_; have HO106 := n1_; have HB := n2_; clear n0_ n1_ n2_; (try clear hb); (try clear hb2); (try clear hk); (try clear hi); (try clear ho0))); try go_wp2_with (first | (go_at_call 58; (with_reducible refine (remoraref13_Split.calls k a0 t101 _ A3.out).mono ?_); rintro e w5 ⟨v102, rfl, ho0, hb⟩; have n0_ := Aside0.mk (Kd.R_lower ho0 (below_size (upB HB.out))); have n1_ := Aside0.mk (below_step (upB HB.out) hb); clear HB; have HO103 := n0_; have HB := n1_; clear n0_ n1_; (try clear hb); (try clear hb2); (try clear hk); (try clear hi); (try clear ho0)) | (go_at_call 58; (with_reducible refine (remoraref13_Split.calls k a1 t104 _ A4.out).mono ?_); rintro e w6 ⟨v105, rfl, ho0, hb⟩; have n0_ := Aside0.mk (Kd.R_elder' (upR HO103.out) (Kd.R_base ho0) hb); have n1_ := Aside0.mk (Kd.R_lower (Kd.R_new' ho0 (Kd.R_lt (upR HO103.out))) (below_size (upB HB.out))); have n2_ := Aside0.mk (below_step (upB HB.out) hb); clear HO103; clear HB; have HO103 := n0_; have HO106 := n1_; have HB := n2_; clear n0_ n1_ n2_; (try clear hb); (try clear hb2); (try clear hk); (try clear hi); (try clear ho0))))
 go_loopg [7] k (fun kq v7 w' => ∃ (x7_1 : Int), v7 = .int .i64 x7_1 ∧ Aside0 (remoraref13_Less.l0 kq t101 t104 x7_1 = some r) ∧ Aside0 (kq ≤ k) ∧ Aside0 (Kd.R Kd.string 9 w' w.heap.size (fun k_ => some k_ ≠ (v105 : Value).ownBlock) v102 t101) ∧ Aside0 (Kd.R Kd.string 9 w' w.heap.size (fun k_ => some k_ ≠ (v102 : Value).ownBlock) v105 t104) ∧ Aside0 (Below w.heap.size w w'))
 case atStart => exact ⟨(0), (by first | rfl | (simp; done) | (simp [*]; done)), H', ⟨Nat.le_refl _⟩, ⟨upR (Kd.R_mono HO103.out (fun _ hk => hk.2))⟩, ⟨upR (Kd.R_mono HO106.out (fun _ hk => hk.2))⟩, ⟨upB HB.out⟩⟩
 case round =>
  clear H'
  try clear c2
  try clear p2
  obtain ⟨x7_1, rfl, HA, HK1, HO_5, HO_6, HB⟩ := hrel
  cases gk with
  | zero => exact absurd HA.out (by simp [remoraref13_Less.l0])
  | succ k1 =>
   have H := HA.out
   clear HA
   simp only [remoraref13_Less.l0] at H
   have HC7 := Aside0.mk H
   clear H
   go_upto_region 3 with (fail)
   repeat (go_quiet (fail); go_upto_region 3 with (fail))
   go_cut [21] (fun v21 wc => ∃ (kq : Nat) (x21_6 : Bool), v21 = .bool x21_6 ∧ Aside0 (remoraref13_Less.j1 kq t101 t104 x7_1 x21_6 = some r) ∧ Aside0 (kq ≤ k1) ∧ Aside0 (Kd.R Kd.string 9 wc w.heap.size (fun k_ => some k_ ≠ (v105 : Value).ownBlock) v102 t101) ∧ Aside0 (Kd.R Kd.string 9 wc w.heap.size (fun k_ => some k_ ≠ (v102 : Value).ownBlock) v105 t104) ∧ Aside0 (Below w.heap.size w wc))
   case first =>
    have H := HC7.out
    clear HC7
    by_cases c8 : x7_1 < (t101.length : Int)
    ·rw [if_pos c8] at H
     have c8b0 : decide (x7_1 < (t101.length : Int)) = true := decide_eq_true c8
     clear c8
     (first | rw [c8b0] | (simp only [i64_w, i32_w]; rw [c8b0]) | skip)
     have H' := Aside0.mk H
     clear H
     obtain ⟨Ao9, co9, eo9⟩ := Kd.R_slice HO_5.out
     subst eo9
     obtain ⟨Ao10, co10, eo10⟩ := Kd.R_slice HO_6.out
     subst eo10
     go_wp2
     repeat (go_quiet (fail); try go_wp2)
     go_meet
     case rel => exact ⟨_, (decide (x7_1 < (t104.length : Int))), (by first | rfl | (simp; done) | (simp [*]; done)), H', ⟨by have := HK1.out; first | omega | exact Nat.le_refl _⟩, ⟨upR HO_5.out⟩, ⟨upR HO_6.out⟩, ⟨upB HB.out⟩⟩
    rw [if_neg c8] at H
    have c8b0 : decide (x7_1 < (t101.length : Int)) = false := decide_eq_false c8
    clear c8
    (first | rw [c8b0] | (simp only [i64_w, i32_w]; rw [c8b0]) | skip)
    have H' := Aside0.mk H
    clear H
    obtain ⟨Ao11, co11, eo11⟩ := Kd.R_slice HO_5.out
    subst eo11
    go_wp2
    repeat (go_quiet (fail); try go_wp2)
    go_meet
    case rel => exact ⟨_, (false), (by first | rfl | (simp; done) | (simp [*]; done)), H', ⟨by have := HK1.out; first | omega | exact Nat.le_refl _⟩, ⟨upR HO_5.out⟩, ⟨upR HO_6.out⟩, ⟨upB HB.out⟩⟩
   case rest =>
    clear HC7
    try clear c2
    try clear p2
    try clear c8
    try clear c8b0
    try clear p2
    obtain ⟨kq, x21_6, rfl, HA, HJ6, HO_5, HO_6, HB⟩ := hcut
    cases kq with
    | zero => exact absurd HA.out (by simp [remoraref13_Less.j1])
    | succ kj6 =>
     have H := HA.out
     clear HA
     simp only [remoraref13_Less.j1] at H
     by_cases c12 : x21_6 = true
     ·subst c12
      have H1 : (if 0 ≤ x7_1 then (if x7_1 < (t101.length : Int) then (if x7_1 < (t104.length : Int) then (if (rdOf ByteArray.empty t101 x7_1).toList = (rdOf ByteArray.empty t104 x7_1).toList then (remoraref13_Less.l0 kj6 t101 t104 (wrap64 (x7_1 + 1))) else (some (Op.bytesLess ((rdOf ByteArray.empty t101 x7_1).toList) ((rdOf ByteArray.empty t104 x7_1).toList)))) else (none)) else (none)) else (none)) = some r := by rw [if_pos rfl] at H; exact H
      clear H
      have H := H1
      clear H1
      by_cases c13 : 0 ≤ x7_1
      ·rw [if_pos c13] at H
       have c13b0 : decide (0 ≤ x7_1) = true := decide_eq_true c13
       clear c13
       by_cases c14 : x7_1 < (t101.length : Int)
       ·rw [if_pos c14] at H
        have c14b0 : decide (x7_1 < (t101.length : Int)) = true := decide_eq_true c14
        clear c14
        by_cases c15 : x7_1 < (t104.length : Int)
        ·rw [if_pos c15] at H
         have c15b0 : decide (x7_1 < (t104.length : Int)) = true := decide_eq_true c15
         clear c15
         by_cases c16 : (rdOf ByteArray.empty t101 x7_1).toList = (rdOf ByteArray.empty t104 x7_1).toList
         ·rw [if_pos c16] at H
          have c16b0 : ((rdOf ByteArray.empty t101 x7_1).toList == (rdOf ByteArray.empty t104 x7_1).toList) = true := beq_iff_eq.mpr c16
          have c16b1 : ((rdOf ByteArray.empty t101 x7_1).toList != (rdOf ByteArray.empty t104 x7_1).toList) = false := bne_eq_false_iff_eq.mpr c16
          clear c16
          have H' := Aside0.mk H
          clear H
          obtain ⟨Ao17, co17, eo17⟩ := Kd.R_slice HO_5.out
          subst eo17
          have p107 : 0 ≤ (x7_1 : Int) := of_decide_eq_true (by first | (with_reducible assumption) | assumption)
          have q107 : x7_1 < (t101.length : Int) := of_decide_eq_true (by first | (with_reducible assumption) | assumption)
          obtain ⟨ad107, e107, hx107_0⟩ := Kd.at_string (Kd.R_reads' HO_5.out).2.2 x7_1 p107 q107
          cases e107
          replace p107 := eq_true p107
          replace q107 := eq_true q107
          obtain ⟨Ao18, co18, eo18⟩ := Kd.R_slice HO_6.out
          subst eo18
          have p108 : 0 ≤ (x7_1 : Int) := of_decide_eq_true (by first | (with_reducible assumption) | assumption)
          have q108 : x7_1 < (t104.length : Int) := of_decide_eq_true (by first | (with_reducible assumption) | assumption)
          obtain ⟨ad108, e108, hx108_0⟩ := Kd.at_string (Kd.R_reads' HO_6.out).2.2 x7_1 p108 q108
          cases e108
          replace p108 := eq_true p108
          replace q108 := eq_true q108
          go_wp2
          repeat (go_quiet (fail); try go_wp2)
          go_roundg kj6
          case measure => have := HK1.out; have := HJ6.out; omega
          case rel => exact ⟨(wrap64 (x7_1 + 1)), (by first | rfl | (simp; done) | (simp [*]; done)), H', ⟨by have := HK1.out; have := HJ6.out; omega⟩, ⟨upR HO_5.out⟩, ⟨upR HO_6.out⟩, ⟨upB HB.out⟩⟩
         rw [if_neg c16] at H
         have c16b0 : ((rdOf ByteArray.empty t101 x7_1).toList == (rdOf ByteArray.empty t104 x7_1).toList) = false := beq_eq_false_iff_ne.mpr c16
         have c16b1 : ((rdOf ByteArray.empty t101 x7_1).toList != (rdOf ByteArray.empty t104 x7_1).toList) = true := bne_iff_ne.mpr c16
         obtain rfl := Option.some.inj H
         obtain ⟨Ao19, co19, eo19⟩ := Kd.R_slice HO_5.out
         subst eo19
         have p107 : 0 ≤ (x7_1 : Int) := of_decide_eq_true (by first | (with_reducible assumption) | assumption)
         have q107 : x7_1 < (t101.length : Int) := of_decide_eq_true (by first | (with_reducible assumption) | assumption)
         obtain ⟨ad107, e107, hx107_0⟩ := Kd.at_string (Kd.R_reads' HO_5.out).2.2 x7_1 p107 q107
         cases e107
         replace p107 := eq_true p107
         replace q107 := eq_true q107
         obtain ⟨Ao20, co20, eo20⟩ := Kd.R_slice HO_6.out
         subst eo20
         have p108 : 0 ≤ (x7_1 : Int) := of_decide_eq_true (by first | (with_reducible assumption) | assumption)
         have q108 : x7_1 < (t104.length : Int) := of_decide_eq_true (by first | (with_reducible assumption) | assumption)
         obtain ⟨ad108, e108, hx108_0⟩ := Kd.at_string (Kd.R_reads' HO_6.out).2.2 x7_1 p108 q108
         cases e108
         replace p108 := eq_true p108
         replace q108 := eq_true q108
         have p109 : 0 ≤ (x7_1 : Int) := of_decide_eq_true (by first | (with_reducible assumption) | assumption)
         have q109 : x7_1 < (t101.length : Int) := of_decide_eq_true (by first | (with_reducible assumption) | assumption)
         obtain ⟨ad109, e109, hx109_0⟩ := Kd.at_string (Kd.R_reads' HO_5.out).2.2 x7_1 p109 q109
         obtain rfl : ad107 = ad109 := (by injection e109)
         replace p109 := eq_true p109
         replace q109 := eq_true q109
         have p110 : 0 ≤ (x7_1 : Int) := of_decide_eq_true (by first | (with_reducible assumption) | assumption)
         have q110 : x7_1 < (t104.length : Int) := of_decide_eq_true (by first | (with_reducible assumption) | assumption)
         obtain ⟨ad110, e110, hx110_0⟩ := Kd.at_string (Kd.R_reads' HO_6.out).2.2 x7_1 p110 q110
         obtain rfl : ad108 = ad110 := (by injection e110)
         replace p110 := eq_true p110
         replace q110 := eq_true q110
         go_wp2
         repeat (go_quiet (fail); try go_wp2)
         go_ret
         exact ⟨by first | rfl | (simp [errW_none, errW_some] <;> rfl) | (simp [*, errW_none, errW_some] <;> rfl), upB HB.out⟩
        rw [if_neg c15] at H
        exact absurd H (by simp)
       rw [if_neg c14] at H
       exact absurd H (by simp)
      rw [if_neg c13] at H
      exact absurd H (by simp)
     replace c12 := Bool.eq_false_iff.mpr c12
     subst c12
     have H1 : (some (decide ((t101.length : Int) < (t104.length : Int)))) = some r := by rw [if_neg (show ¬ (false = true) by decide)] at H; exact H
     clear H
     have H := H1
     clear H1
     obtain rfl := Option.some.inj H
     obtain ⟨Ao21, co21, eo21⟩ := Kd.R_slice HO_5.out
     subst eo21
     obtain ⟨Ao22, co22, eo22⟩ := Kd.R_slice HO_6.out
     subst eo22
     go_wp2
     repeat (go_quiet (fail); try go_wp2)
     go_ret
     exact ⟨by first | rfl | (simp [errW_none, errW_some] <;> rfl) | (simp [*, errW_none, errW_some] <;> rfl), upB HB.out⟩
set_option linter.unusedVariables false
set_option linter.unusedSimpArgs false
def remoraref13_Under.l0 : Nat → List ByteArray → List ByteArray → Int → Option (Bool)
 | 0, _, _, _ => none
 | k + 1, x5, x6, x7 => if x7 < (x6.length : Int) then (if x7 ≥ (x5.length : Int) then (some false) else (if 0 ≤ x7 then (if x7 < (x5.length : Int) then (if (rdOf ByteArray.empty x5 x7).toList = (rdOf ByteArray.empty x6 x7).toList then (remoraref13_Under.l0 k x5 x6 (wrap64 (x7 + 1))) else (some false)) else (none)) else (none))) else (some true)
def remoraref13_Under.f (k : Nat) (a0 : ByteArray) (a1 : ByteArray) : Option (Bool) := (remoraref13_Split.f k a0).bind fun t101 => ((remoraref13_Split.f k a1).bind fun t104 => (remoraref13_Under.l0 k t101 t104 0))
set_option maxHeartbeats 8000000 in
set_option maxRecDepth 100000 in
theorem remoraref13_Under.calls (k : Nat) (a0 : ByteArray) (a1 : ByteArray) (r : Bool) (w : World) (h : remoraref13_Under.f k a0 a1 = some r) :
  Calls Tryd.prog 59 #[.string a0, .string a1] w fun e w' => e = .returned (.bool r) ∧ Below w.heap.size w w' := by
 have HB := Aside0.mk (Below.refl w.heap.size w)
 have H : ((remoraref13_Split.f k a0).bind fun t101 => ((remoraref13_Split.f k a1).bind fun t104 => (remoraref13_Under.l0 k t101 t104 0))) = some r := h
 clear h
 replace H := Option.bind_eq_some_iff.mp H
 obtain ⟨t101, A30, H⟩ := H
 replace H : ((remoraref13_Split.f k a1).bind fun t104 => (remoraref13_Under.l0 k t101 t104 0)) = some r := H
 have A3 := Aside0.mk A30
 clear A30
 replace H := Option.bind_eq_some_iff.mp H
 obtain ⟨t104, A40, H⟩ := H
 replace H : (remoraref13_Under.l0 k t101 t104 0) = some r := H
 have A4 := Aside0.mk A40
 clear A40
 have H' := Aside0.mk H
 clear H
 go_enter Tryd.func59, Tryd.ntmps59
 go_wp2_with (first | (go_at_call 58; (with_reducible refine (remoraref13_Split.calls k a0 t101 _ A3.out).mono ?_); rintro e w5 ⟨v102, rfl, ho0, hb⟩; have n0_ := Aside0.mk (Kd.R_lower ho0 (below_size (upB HB.out))); have n1_ := Aside0.mk (below_step (upB HB.out) hb); clear HB; have HO103 := n0_; have HB := n1_; clear n0_ n1_; (try clear hb); (try clear hb2); (try clear hk); (try clear hi); (try clear ho0)) | (go_at_call 58; (with_reducible refine (remoraref13_Split.calls k a1 t104 _ A4.out).mono ?_); rintro e w6 ⟨v105, rfl, ho0, hb⟩; have n0_ := Aside0.mk (Kd.R_elder' (upR HO103.out) (Kd.R_base ho0) hb); have n1_ := Aside0.mk (Kd.R_lower (Kd.R_new' ho0 (Kd.R_lt (upR HO103.out))) (below_size (upB HB.out))); have n2_ := Aside0.mk (below_step (upB HB.out) hb); clear HO103; clear HB; have HO103 := n0_; have HO106 := n1_; have HB := n2_; clear n0_ n1_ n2_; (try clear hb); (try clear hb2); (try clear hk); (try clear hi); (try clear ho0)))
 repeat (go_quiet (first | (go_at_call 58; (with_reducible refine (remoraref13_Split.calls k a0 t101 _ A3.out).mono ?_); rintro e w5 ⟨v102, rfl, ho0, hb⟩; have n0_ := Aside0.mk (Kd.R_lower ho0 (below_size (upB HB.out))); have n1_ := Aside0.mk (below_step (upB HB.out) hb); clear HB; have HO103 := n0_; have HB := n1_; clear n0_ n1_; (try clear hb); (try clear hb2); (try clear hk); (try clear hi); (try clear ho0)) | (go_at_call 58; (with_reducible refine (remoraref13_Split.calls k a1 t104 _ A4.out).mono ?_); rintro e w6 ⟨v105, rfl, ho0, hb⟩; have n0_ := Aside0.mk (Kd.R_elder' (upR HO103.out) (Kd.R_base ho0) hb); have n1_ := Aside0.mk (Kd.R_lower (Kd.R_new' ho0 (Kd.R_lt (upR HO103.out))) (below_size (upB HB.out))); have n2_ := Aside0.mk (below_step (upB HB.out) hb); clear HO103; clear HB; have HO103 := n0_; have HO106 := n1_; have HB := n2_; clear n0_ n1_ n2_; (try clear hb); (try clear hb2); (try clear hk); (try clear hi); (try clear ho0))); try go_wp2_with (first | (go_at_call 58; (with_reducible refine (remoraref13_Split.calls k a0 t101 _ A3.out).mono ?_); rintro e w5 ⟨v102, rfl, ho0, hb⟩; have n0_ := Aside0.mk (Kd.R_lower ho0 (below_size (upB HB.out))); have n1_ := Aside0.mk (below_step (upB HB.out) hb); clear HB; have HO103 := n0_; have HB := n1_; clear n0_ n1_; (try clear hb); (try clear hb2); (try clear hk); (try clear hi); (try clear ho0)) | (go_at_call 58; (with_reducible refine (remoraref13_Split.calls k a1 t104 _ A4.out).mono ?_); rintro e w6 ⟨v105, rfl, ho0, hb⟩; have n0_ := Aside0.mk (Kd.R_elder' (upR HO103.out) (Kd.R_base ho0) hb); have n1_ := Aside0.mk (Kd.R_lower (Kd.R_new' ho0 (Kd.R_lt (upR HO103.out))) (below_size (upB HB.out))); have n2_ := Aside0.mk (below_step (upB HB.out) hb); clear HO103; clear HB; have HO103 := n0_; have HO106 := n1_; have HB := n2_; clear n0_ n1_ n2_; (try clear hb); (try clear hb2); (try clear hk); (try clear hi); (try clear ho0))))
 go_loopg [7] k (fun kq v7 w' => ∃ (x7_1 : Int), v7 = .int .i64 x7_1 ∧ Aside0 (remoraref13_Under.l0 kq t101 t104 x7_1 = some r) ∧ Aside0 (kq ≤ k) ∧ Aside0 (Kd.R Kd.string 9 w' w.heap.size (fun k_ => some k_ ≠ (v105 : Value).ownBlock) v102 t101) ∧ Aside0 (Kd.R Kd.string 9 w' w.heap.size (fun k_ => some k_ ≠ (v102 : Value).ownBlock) v105 t104) ∧ Aside0 (Below w.heap.size w w'))
 case atStart => exact ⟨(0), (by first | rfl | (simp; done) | (simp [*]; done)), H', ⟨Nat.le_refl _⟩, ⟨upR (Kd.R_mono HO103.out (fun _ hk => hk.2))⟩, ⟨upR (Kd.R_mono HO106.out (fun _ hk => hk.2))⟩, ⟨upB HB.out⟩⟩
 case round =>
  clear H'
  try clear p2
  try clear c5
  obtain ⟨x7_1, rfl, HA, HK1, HO_5, HO_6, HB⟩ := hrel
  cases gk with
  | zero => exact absurd HA.out (by simp [remoraref13_Under.l0])
  | succ k1 =>
   have H := HA.out
   clear HA
   simp only [remoraref13_Under.l0] at H
   by_cases c7 : x7_1 < (t104.length : Int)
   ·rw [if_pos c7] at H
    have c7b0 : decide (x7_1 < (t104.length : Int)) = true := decide_eq_true c7
    clear c7
    by_cases c8 : x7_1 ≥ (t101.length : Int)
    ·rw [if_pos c8] at H
     have c8b0 : decide ((t101.length : Int) ≤ x7_1) = true := decide_eq_true c8
     clear c8
     obtain rfl := Option.some.inj H
     obtain ⟨Ao9, co9, eo9⟩ := Kd.R_slice HO_6.out
     subst eo9
     obtain ⟨Ao10, co10, eo10⟩ := Kd.R_slice HO_5.out
     subst eo10
     go_wp2
     repeat (go_quiet (fail); try go_wp2)
     go_ret
     exact ⟨by first | rfl | (simp [errW_none, errW_some] <;> rfl) | (simp [*, errW_none, errW_some] <;> rfl), upB HB.out⟩
    rw [if_neg c8] at H
    have c8b0 : decide ((t101.length : Int) ≤ x7_1) = false := decide_eq_false c8
    clear c8
    by_cases c11 : 0 ≤ x7_1
    ·rw [if_pos c11] at H
     have c11b0 : decide (0 ≤ x7_1) = true := decide_eq_true c11
     clear c11
     by_cases c12 : x7_1 < (t101.length : Int)
     ·rw [if_pos c12] at H
      have c12b0 : decide (x7_1 < (t101.length : Int)) = true := decide_eq_true c12
      clear c12
      by_cases c13 : (rdOf ByteArray.empty t101 x7_1).toList = (rdOf ByteArray.empty t104 x7_1).toList
      ·rw [if_pos c13] at H
       have c13b0 : ((rdOf ByteArray.empty t101 x7_1).toList == (rdOf ByteArray.empty t104 x7_1).toList) = true := beq_iff_eq.mpr c13
       have c13b1 : ((rdOf ByteArray.empty t101 x7_1).toList != (rdOf ByteArray.empty t104 x7_1).toList) = false := bne_eq_false_iff_eq.mpr c13
       clear c13
       have H' := Aside0.mk H
       clear H
       obtain ⟨Ao14, co14, eo14⟩ := Kd.R_slice HO_6.out
       subst eo14
       obtain ⟨Ao15, co15, eo15⟩ := Kd.R_slice HO_5.out
       subst eo15
       have p107 : 0 ≤ (x7_1 : Int) := of_decide_eq_true (by first | (with_reducible assumption) | assumption)
       have q107 : x7_1 < (t101.length : Int) := of_decide_eq_true (by first | (with_reducible assumption) | assumption)
       obtain ⟨ad107, e107, hx107_0⟩ := Kd.at_string (Kd.R_reads' HO_5.out).2.2 x7_1 p107 q107
       cases e107
       replace p107 := eq_true p107
       replace q107 := eq_true q107
       have p108 : 0 ≤ (x7_1 : Int) := of_decide_eq_true (by first | (with_reducible assumption) | assumption)
       have q108 : x7_1 < (t104.length : Int) := of_decide_eq_true (by first | (with_reducible assumption) | assumption)
       obtain ⟨ad108, e108, hx108_0⟩ := Kd.at_string (Kd.R_reads' HO_6.out).2.2 x7_1 p108 q108
       cases e108
       replace p108 := eq_true p108
       replace q108 := eq_true q108
       go_wp2
       repeat (go_quiet (fail); try go_wp2)
       go_roundg k1
       case measure => have := HK1.out; omega
       case rel => exact ⟨(wrap64 (x7_1 + 1)), (by first | rfl | (simp; done) | (simp [*]; done)), H', ⟨by have := HK1.out; omega⟩, ⟨upR HO_5.out⟩, ⟨upR HO_6.out⟩, ⟨upB HB.out⟩⟩
      rw [if_neg c13] at H
      have c13b0 : ((rdOf ByteArray.empty t101 x7_1).toList == (rdOf ByteArray.empty t104 x7_1).toList) = false := beq_eq_false_iff_ne.mpr c13
      have c13b1 : ((rdOf ByteArray.empty t101 x7_1).toList != (rdOf ByteArray.empty t104 x7_1).toList) = true := bne_iff_ne.mpr c13
      obtain rfl := Option.some.inj H
      obtain ⟨Ao16, co16, eo16⟩ := Kd.R_slice HO_6.out
      subst eo16
      obtain ⟨Ao17, co17, eo17⟩ := Kd.R_slice HO_5.out
      subst eo17
      have p107 : 0 ≤ (x7_1 : Int) := of_decide_eq_true (by first | (with_reducible assumption) | assumption)
      have q107 : x7_1 < (t101.length : Int) := of_decide_eq_true (by first | (with_reducible assumption) | assumption)
      obtain ⟨ad107, e107, hx107_0⟩ := Kd.at_string (Kd.R_reads' HO_5.out).2.2 x7_1 p107 q107
      cases e107
      replace p107 := eq_true p107
      replace q107 := eq_true q107
      have p108 : 0 ≤ (x7_1 : Int) := of_decide_eq_true (by first | (with_reducible assumption) | assumption)
      have q108 : x7_1 < (t104.length : Int) := of_decide_eq_true (by first | (with_reducible assumption) | assumption)
      obtain ⟨ad108, e108, hx108_0⟩ := Kd.at_string (Kd.R_reads' HO_6.out).2.2 x7_1 p108 q108
      cases e108
      replace p108 := eq_true p108
      replace q108 := eq_true q108
      go_wp2
      repeat (go_quiet (fail); try go_wp2)
      go_ret
      exact ⟨by first | rfl | (simp [errW_none, errW_some] <;> rfl) | (simp [*, errW_none, errW_some] <;> rfl), upB HB.out⟩
     rw [if_neg c12] at H
     exact absurd H (by simp)
    rw [if_neg c11] at H
    exact absurd H (by simp)
   rw [if_neg c7] at H
   have c7b0 : decide (x7_1 < (t104.length : Int)) = false := decide_eq_false c7
   clear c7
   obtain rfl := Option.some.inj H
   obtain ⟨Ao18, co18, eo18⟩ := Kd.R_slice HO_6.out
   subst eo18
   go_wp2
   repeat (go_quiet (fail); try go_wp2)
   go_ret
   exact ⟨by first | rfl | (simp [errW_none, errW_some] <;> rfl) | (simp [*, errW_none, errW_some] <;> rfl), upB HB.out⟩
end Go.Proofs.YtcdmgdegohcmhaaDoor.PA
namespace Go.Proofs.YtcdmgdegohcmhaaDoor.PA
open Go.RowKit Go.Proofs.YtcdmgdegohcmhaaDoorW.PrintWords Go.Proofs.YtcdmgdegohcmhaaDoorW.PrintLast Go.Proofs.YtcdmgdegohcmhaaDoorW.PrintMore
attribute [local go_sem] max2_int min2_int max_two min_two max_three min_three max_four min_four
set_option linter.unusedVariables false
set_option linter.unusedSimpArgs false
def partB (s : ByteArray) : Bool := !(s.toList == []) && decide ((s.size : Int) ≤ 48) && !(s.toList == [46]) && !(s.toList == [46, 46]) && decide (Lib.indexByte s.data.toList 0 < 0)
theorem part_f (s : ByteArray) : path_part.f s = some (partB s) := by
 unfold path_part.f partB
 by_cases h1 : s.toList = ([] : List UInt8)
 ·rw [if_pos h1, beq_iff_eq.mpr h1]
  rfl
 rw [if_neg h1, beq_eq_false_iff_ne.mpr h1]
 by_cases h2 : (s.size : Int) ≤ 48
 ·rw [if_pos h2, decide_eq_true h2]
  by_cases h3 : s.toList = ([46] : List UInt8)
  ·rw [if_pos h3, beq_iff_eq.mpr h3]
   rfl
  rw [if_neg h3, beq_eq_false_iff_ne.mpr h3]
  by_cases h4 : s.toList = ([46, 46] : List UInt8)
  ·rw [if_pos h4, beq_iff_eq.mpr h4]
   rfl
  rw [if_neg h4, beq_eq_false_iff_ne.mpr h4]
  rfl
 rw [if_neg h2, decide_eq_false h2]
 rfl
def rightB (p : ByteArray) : Bool := (splitL p).all partB && decide (((splitL p).length : Int) ≤ 12) && decide ((p.size : Int) ≤ 200)
theorem right_l (p : ByteArray) (l : List ByteArray) (hl : l.length < 9223372036854775807) : ∀ k j : Nat, j ≤ l.length → l.length - j < k → path_Right.l0 k p l l (l.length : Int) (j : Int) = some ((l.drop j).all partB && decide ((l.length : Int) ≤ 12) && decide ((p.size : Int) ≤ 200))
 | 0, j, _, h => by omega
 | k + 1, j, hj, h => by
  unfold path_Right.l0
  by_cases hlt : j < l.length
  ·rw [if_pos (show (j : Int) < (l.length : Int) by omega), if_pos (show 0 ≤ (j : Int) by omega), if_pos (show (j : Int) < (l.length : Int) by omega), part_f]
   have e : rdOf ByteArray.empty l (j : Int) = l[j]'hlt := by
    simp [rdOf, hlt]
   rw [e, List.drop_eq_getElem_cons hlt]
   show (if partB (l[j]'hlt) = true then _ else _) = _
   cases hp : partB (l[j]'hlt) with
   | true =>
    rw [if_pos rfl, wr64 _ (by omega) (by omega)]
    have ih := right_l p l hl k (j + 1) (by omega) (by omega)
    rw [show ((j : Int) + 1) = ((j + 1 : Nat) : Int) by omega, ih, List.all_cons, hp, Bool.true_and]
   | false =>
    rw [if_neg (by decide), List.all_cons, hp]
    rfl
  have hje : j = l.length := by omega
  rw [if_neg (show ¬ (j : Int) < (l.length : Int) by omega), hje, List.drop_length]
  by_cases h12 : (l.length : Int) ≤ 12
  ·rw [if_pos h12, decide_eq_true h12]
   rfl
  rw [if_neg h12, decide_eq_false h12]
  rfl
theorem splitL_len (s : ByteArray) : (splitL s).length ≤ s.size + 1 := by
 have := splitTo_len s s.size
 unfold splitL
 split
 ·exact Nat.zero_le _
 simp
 omega
theorem right_f (p : ByteArray) (hs : p.size < 4398046511104) (k : Nat) (hk : p.size + 1 < k) : path_Right.f k p = some (rightB p) := by
 unfold path_Right.f path_Split.f
 rw [if_pos hs]
 have h := splitL_len p
 show path_Right.l0 k p (splitL p) (splitL p) ((splitL p).length : Int) 0 = _
 exact right_l p (splitL p) (by omega) k 0 (by omega) (by omega)
end Go.Proofs.YtcdmgdegohcmhaaDoor.PA
namespace Go.Proofs.YtcdmgdegohcmhaaDoor.PA
open Go.RowKit Go.Proofs.YtcdmgdegohcmhaaDoorW.PrintWords Go.Proofs.YtcdmgdegohcmhaaDoorW.PrintLast Go.Proofs.YtcdmgdegohcmhaaDoorW.PrintMore
attribute [local go_sem] max2_int min2_int max_two min_two max_three min_three max_four min_four
set_option linter.unusedVariables false
set_option linter.unusedSimpArgs false
def joinB (l0 : List ByteArray) (a1 : ByteArray) : ByteArray := ⟨(Lib.join (l0.map (·.data.toList)) a1.data.toList).toArray⟩
end Go.Proofs.YtcdmgdegohcmhaaDoor.PA
namespace Go.Proofs.YtcdmgdegohcmhaaDoor.PA
open Go.RowKit Go.Proofs.YtcdmgdegohcmhaaDoorW.PrintWords Go.Proofs.YtcdmgdegohcmhaaDoorW.PrintLast Go.Proofs.YtcdmgdegohcmhaaDoorW.PrintMore
attribute [local go_sem] max2_int min2_int max_two min_two max_three min_three max_four min_four
set_option linter.unusedVariables false
set_option linter.unusedSimpArgs false
def spl : List UInt8 → List (List UInt8)
 | [] => [[]]
 | x :: t => if x = 47 then [] :: spl t else match spl t with
  | [] => [[x]]
  | h :: r => (x :: h) :: r
theorem spl_ne : ∀ s, spl s ≠ []
 | [] => by simp [spl]
 | x :: t => by
  rw [spl]
  split
  ·simp
  split <;> simp
theorem spl_cons (x : UInt8) (t : List UInt8) (h : x ≠ 47) : ∃ a r, spl t = a :: r ∧ spl (x :: t) = (x :: a) :: r := by
 cases hs : spl t with
 | nil => exact absurd hs (spl_ne t)
 | cons a r =>
  refine ⟨a, r, rfl, ?_⟩
  rw [spl, if_neg h, hs]
theorem spl_snoc47 : ∀ s, spl (s ++ [47]) = spl s ++ [[]]
 | [] => rfl
 | x :: t => by
  by_cases h : x = 47
  ·rw [List.cons_append, spl, if_pos h, spl, if_pos h, spl_snoc47 t, List.cons_append]
  obtain ⟨a, r, e1, e2⟩ := spl_cons x t h
  obtain ⟨a', r', e3, e4⟩ := spl_cons x (t ++ [47]) h
  rw [spl_snoc47 t, e1, List.cons_append] at e3
  rw [List.cons_append, e4, e2]
  have e5 := List.cons.inj e3
  rw [← e5.1, ← e5.2, List.cons_append]
theorem spl_snoc (c : UInt8) (hc : c ≠ 47) : ∀ (s : List UInt8) (L : List (List UInt8)) (x : List UInt8), spl s = L ++ [x] → spl (s ++ [c]) = L ++ [x ++ [c]]
 | [], L, x, h => by
  cases L with
  | nil =>
   have hx := (List.cons.inj (show ([[]] : List (List UInt8)) = [x] from h)).1
   rw [← hx]
   simp [spl, hc]
  | cons a r =>
   have h1 := (List.cons.inj (show ([[]] : List (List UInt8)) = a :: (r ++ [x]) from h)).2
   simp at h1
 | y :: t, L, x, h => by
  by_cases hy : y = 47
  ·rw [spl, if_pos hy] at h
   cases L with
   | nil =>
    have h1 := (List.cons.inj (show [] :: spl t = [x] from h)).2
    exact absurd h1 (spl_ne t)
   | cons a r =>
    have h1 := List.cons.inj (show [] :: spl t = a :: (r ++ [x]) from h)
    rw [List.cons_append, spl, if_pos hy, spl_snoc c hc t r x h1.2, h1.1]
    rfl
  obtain ⟨a, r, e1, e2⟩ := spl_cons y t hy
  rw [e2] at h
  cases L with
  | nil =>
   have h1 := List.cons.inj (show (y :: a) :: r = [x] from h)
   have h2 := spl_snoc c hc t [] a (by rw [e1, h1.2]; rfl)
   obtain ⟨a', r', e3, e4⟩ := spl_cons y (t ++ [c]) hy
   rw [h2] at e3
   have h3 := List.cons.inj (show [a ++ [c]] = a' :: r' from e3)
   rw [List.cons_append, e4, ← h3.1, ← h3.2, ← h1.1]
   rfl
  | cons b q =>
   have h1 := List.cons.inj (show (y :: a) :: r = b :: (q ++ [x]) from h)
   have h2 := spl_snoc c hc t (a :: q) x (by rw [e1, h1.2]; rfl)
   obtain ⟨a', r', e3, e4⟩ := spl_cons y (t ++ [c]) hy
   rw [h2] at e3
   have h3 := List.cons.inj (show a :: (q ++ [x ++ [c]]) = a' :: r' from e3)
   rw [List.cons_append, e4, ← h3.1, ← h3.2, ← h1.1]
   rfl
theorem join_two (x y : List UInt8) (r : List (List UInt8)) : Lib.join (x :: y :: r) [47] = x ++ 47 :: Lib.join (y :: r) [47] := by
 rw [Lib.join_cons, Lib.join_cons]
 simp [Lib.joinTail]
theorem join_spl : ∀ s, Lib.join (spl s) [47] = s
 | [] => rfl
 | x :: t => by
  have ih := join_spl t
  by_cases h : x = 47
  ·rw [spl, if_pos h]
   cases hs : spl t with
   | nil => exact absurd hs (spl_ne t)
   | cons a r => rw [join_two, ← hs, ih, h]; rfl
  obtain ⟨a, r, e1, e2⟩ := spl_cons x t h
  rw [e2]
  rw [e1] at ih
  cases r with
  | nil => rw [Lib.join_one] at ih ⊢; rw [ih]
  | cons b q => rw [join_two] at ih ⊢; rw [List.cons_append, ih]
def toL (a : ByteArray) : List UInt8 := a.data.toList
theorem toL_inj {a b : ByteArray} (h : toL a = toL b) : a = b := by
 have := Array.toList_inj.1 (show a.data.toList = b.data.toList from h)
 exact ByteArray.ext this
theorem toL_size (a : ByteArray) : (toL a).length = a.size := by
 rw [toL, Array.length_toList]; rfl
theorem toL_extract (a : ByteArray) (i j : Nat) : toL (a.extract i j) = ((toL a).take j).drop i := by
 unfold toL
 rw [ByteArray.data_extract, Array.toList_extract, List.extract_eq_take_drop, List.drop_take]
theorem take_snoc (a : ByteArray) (k : Nat) (h : k < a.size) : (toL a).take (k + 1) = (toL a).take k ++ [UInt8.ofNat (bt a (k : Int)).toNat] := by
 have hl : k < (toL a).length := by rw [toL_size]; exact h
 rw [List.take_succ_eq_append_getElem hl]
 congr 2
 rw [bt, dif_pos (by simpa using h)]
 simp [toL]
 rfl
theorem u47 (b : Int) (h0 : 0 ≤ b) (h1 : b ≤ 255) : UInt8.ofNat b.toNat = 47 ↔ b = 47 := by
 constructor
 ·intro h
  have := congrArg UInt8.toNat h
  rw [UInt8.toNat_ofNat'] at this
  have e : (47 : UInt8).toNat = 47 := rfl
  rw [e] at this
  omega
 intro h; rw [h]; rfl
theorem splitTo_spl (a : ByteArray) : ∀ k, k ≤ a.size → spl ((toL a).take k) = (splitTo a k).1.map toL ++ [((toL a).take k).drop (splitTo a k).2]
 | 0, _ => rfl
 | k + 1, h => by
  have ih := splitTo_spl a k (by omega)
  have hr := bt_range a (k : Int)
  have hle := splitTo_le a k
  have hlen : ((toL a).take k).length = k := by rw [List.length_take, toL_size]; omega
  rw [take_snoc a k (by omega)]
  by_cases hb : bt a (k : Int) = 47
  ·rw [(u47 _ hr.1 (by have := hr.2; omega)).2 hb, spl_snoc47, ih, splitTo_hit a k hb, List.map_append, List.map_cons, List.map_nil, toL_extract]
   congr 1
   simp
   omega
  rw [spl_snoc _ (fun e => hb ((u47 _ hr.1 (by have := hr.2; omega)).1 e)) _ _ _ ih, splitTo_miss a k hb, List.drop_append_of_le_length (by rw [hlen]; exact hle)]
theorem split_spl (a : ByteArray) (h : a.size ≠ 0) : (splitL a).map toL = spl (toL a) := by
 have := splitTo_spl a a.size (Nat.le_refl _)
 have e : (toL a).take a.size = toL a := List.take_of_length_le (by rw [toL_size]; exact Nat.le_refl _)
 rw [e] at this
 rw [splitL, if_neg h, this, List.map_append, List.map_cons, List.map_nil, toL_extract, e]
theorem size_zero {a : ByteArray} (h : a.size = 0) : a = ⟨#[]⟩ := by
 apply toL_inj
 have : (toL a).length = 0 := by rw [toL_size]; exact h
 rw [List.length_eq_zero_iff.1 this]
 rfl
theorem toL_joinB (l : List ByteArray) : toL (joinB l ⟨#[47]⟩) = Lib.join (l.map toL) [47] := by
 unfold joinB toL
 rfl
theorem joinB_split (a : ByteArray) : joinB (splitL a) ⟨#[47]⟩ = a := by
 by_cases h : a.size = 0
 ·rw [splitL, if_pos h, size_zero h]; rfl
 apply toL_inj
 rw [toL_joinB, split_spl a h, join_spl]
set_option linter.unusedVariables false
set_option linter.unusedSimpArgs false
end Go.Proofs.YtcdmgdegohcmhaaDoor.PA
namespace Go.Proofs.YtcdmgdegohcmhaaDoor.PA
open Go.RowKit Go.Proofs.YtcdmgdegohcmhaaDoorW.PrintWords Go.Proofs.YtcdmgdegohcmhaaDoorW.PrintLast Go.Proofs.YtcdmgdegohcmhaaDoorW.PrintMore
attribute [local go_sem] max2_int min2_int max_two min_two max_three min_three max_four min_four
set_option linter.unusedVariables false
set_option linter.unusedSimpArgs false
theorem rsplit_l (s : ByteArray) (hs : s.size < 4398046511104) : ∀ k j : Nat, j ≤ s.size → s.size + 1 - j < k → remoraref13_Split.l0 k s (splitTo s j).1 ((splitTo s j).2 : Int) (j : Int) = some ((splitTo s s.size).1 ++ [s.extract (splitTo s s.size).2 s.size])
 | 0, j, _, h => by omega
 | k + 1, j, hj, h => by
  have hle := splitTo_le s j
  have hlen := splitTo_len s j
  have e2 : wrap64 ((j : Int) + 1) = ((j + 1 : Nat) : Int) := by rw [wr64 _ (by omega) (by omega)]; rfl
  unfold remoraref13_Split.l0
  rw [if_pos (show (j : Int) ≤ (s.size : Int) by omega), e2]
  by_cases hlt : j < s.size
  ·rw [if_neg (show ¬ (j : Int) = (s.size : Int) by omega), if_pos (show 0 ≤ (j : Int) by omega), if_pos (show (j : Int) < (s.size : Int) by omega)]
   by_cases hb : bt s (j : Int) = 47
   ·have hh := splitTo_hit s j hb
    rw [if_pos hb, if_pos (by omega), if_pos (by omega), if_pos (by omega)]
    have ih := rsplit_l s hs k (j + 1) (by omega) (by omega)
    rw [hh] at ih
    exact ih
   have hh := splitTo_miss s j hb
   rw [if_neg hb]
   have ih := rsplit_l s hs k (j + 1) (by omega) (by omega)
   rw [hh] at ih
   exact ih
  obtain rfl : j = s.size := by omega
  rw [if_pos rfl, if_pos (by omega), if_pos (by omega), if_pos (by omega)]
  cases k with
  | zero => omega
  | succ k =>
   unfold remoraref13_Split.l0
   rw [if_neg (by omega)]
   rfl
theorem rsplit_f (s : ByteArray) (hs : s.size < 4398046511104) (k : Nat) (hk : s.size + 1 < k) : remoraref13_Split.f k s = some (splitL s) := by
 unfold remoraref13_Split.f splitL
 by_cases h : s.toList = ([] : List UInt8)
 ·have h1 := congrArg List.length h
  rw [ByteArray.toList_eq, data_length] at h1
  rw [if_pos h, if_pos (show s.size = 0 from h1)]
 rw [if_neg h, if_neg]
 ·exact rsplit_l s hs k 0 (by omega) (by omega)
 intro h0
 refine h (List.eq_nil_of_length_eq_zero ?_)
 rw [ByteArray.toList_eq, data_length]
 exact h0
end Go.Proofs.YtcdmgdegohcmhaaDoor.PA
namespace Go.Proofs.YtcdmgdegohcmhaaDoor.PA
open Go.RowKit Go.Proofs.YtcdmgdegohcmhaaDoorW.PrintWords Go.Proofs.YtcdmgdegohcmhaaDoorW.PrintLast Go.Proofs.YtcdmgdegohcmhaaDoorW.PrintMore
attribute [local go_sem] max2_int min2_int max_two min_two max_three min_three max_four min_four
set_option linter.unusedVariables false
set_option linter.unusedSimpArgs false
theorem tl_eq (a b : ByteArray) : a.toList = b.toList ↔ a = b := by
 constructor
 ·intro h
  rw [ByteArray.toList_eq, ByteArray.toList_eq] at h
  exact toL_inj h
 intro h; rw [h]
theorem tl_beq (a b : ByteArray) : (a.toList == b.toList) = decide (a = b) := by
 by_cases h : a = b
 ·rw [decide_eq_true h, h]; exact beq_self_eq_true _
 rw [decide_eq_false h]; exact beq_eq_false_iff_ne.2 (fun e => h ((tl_eq a b).1 e))
theorem rdOf_get (l : List ByteArray) (i : Nat) (h : i < l.length) : rdOf ByteArray.empty l (i : Int) = l[i] := by
 simp [rdOf, h]
def cmpL : List ByteArray → List ByteArray → Int
 | [], [] => 0
 | [], _ :: _ => -1
 | _ :: _, [] => 1
 | a :: s, b :: t => if Op.bytesLess a.toList b.toList = true then -1 else if a = b then cmpL s t else 1
theorem cmp_f (a b : ByteArray) : cmp_Compare_string.f a b = some (if Op.bytesLess a.toList b.toList = true then -1 else if a = b then 0 else 1) := by
 rw [cmp_Compare_string.f, tl_beq]
 by_cases h : a = b
 ·simp [h]
 simp [h]
theorem compare_l (x y : List ByteArray) (hx : x.length < 4611686018427387904) : ∀ (m i k : Nat), x.length - i = m → i ≤ x.length → i ≤ y.length → m + 1 ≤ k → slices_Compare_string_string.l0 k x y x (x.length : Int) (i : Int) = some (cmpL (x.drop i) (y.drop i)) := by
 intro m
 induction m with
 | zero =>
  intro i k hm hi hy hk
  obtain ⟨k, rfl⟩ : ∃ j, k = j + 1 := ⟨k - 1, by omega⟩
  obtain rfl : i = x.length := by omega
  rw [slices_Compare_string_string.l0, if_neg (by omega), List.drop_length]
  by_cases h : x.length < y.length
  ·rw [if_pos (by omega), List.drop_eq_getElem_cons h]; rfl
  rw [if_neg (by omega), List.drop_eq_nil_of_le (by omega)]; rfl
 | succ m ih =>
  intro i k hm hi hy hk
  obtain ⟨k, rfl⟩ : ∃ j, k = j + 1 := ⟨k - 1, by omega⟩
  have hlt : i < x.length := by omega
  rw [slices_Compare_string_string.l0, if_pos (by omega), if_pos (by omega), if_pos (by omega), List.drop_eq_getElem_cons hlt]
  by_cases hy2 : i < y.length
  ·rw [if_neg (by omega), if_pos (by omega), rdOf_get x i hlt, rdOf_get y i hy2, List.drop_eq_getElem_cons hy2, cmp_f, Option.bind_some, cmpL]
   by_cases h1 : Op.bytesLess (x[i]).toList (y[i]).toList = true
   ·rw [if_pos h1, if_pos h1, if_neg (by decide)]
   rw [if_neg h1, if_neg h1]
   by_cases h2 : x[i] = y[i]
   ·rw [if_pos h2, if_pos h2, if_pos rfl, wr64 _ (by omega) (by omega)]
    exact ih (i + 1) k (by omega) (by omega) (by omega) (by omega)
   rw [if_neg h2, if_neg h2, if_neg (by decide)]
  rw [if_pos (by omega), List.drop_eq_nil_of_le (show y.length ≤ i by omega)]
  rfl
theorem compare_f (x y : List ByteArray) (k : Nat) (hx : x.length < 4611686018427387904) (hk : x.length + 1 ≤ k) : slices_Compare_string_string.f k x y = some (cmpL x y) := by
 have := compare_l x y hx x.length 0 k (by omega) (by omega) (by omega) (by omega)
 rw [List.drop_zero, List.drop_zero] at this
 exact this
theorem equal_l (x y : List ByteArray) (he : x.length = y.length) (hx : x.length < 4611686018427387904) : ∀ (m i k : Nat), x.length - i = m → i ≤ x.length → m + 1 ≤ k → slices_Equal_string_string.l0 k x y (x.length : Int) (i : Int) = some (decide (x.drop i = y.drop i)) := by
 intro m
 induction m with
 | zero =>
  intro i k hm hi hk
  obtain ⟨k, rfl⟩ : ∃ j, k = j + 1 := ⟨k - 1, by omega⟩
  rw [slices_Equal_string_string.l0, if_neg (by omega), List.drop_eq_nil_of_le (by omega), List.drop_eq_nil_of_le (by omega)]
  rfl
 | succ m ih =>
  intro i k hm hi hk
  obtain ⟨k, rfl⟩ : ∃ j, k = j + 1 := ⟨k - 1, by omega⟩
  have hlt : i < x.length := by omega
  have hlt2 : i < y.length := by omega
  rw [slices_Equal_string_string.l0, if_pos (by omega), if_pos (by omega), if_pos (by omega), if_pos (by omega), rdOf_get x i hlt, rdOf_get y i hlt2, List.drop_eq_getElem_cons hlt, List.drop_eq_getElem_cons hlt2]
  by_cases h : x[i] = y[i]
  ·rw [if_pos ((tl_eq _ _).2 h), wr64 _ (by omega) (by omega), h]
   have := ih (i + 1) k (by omega) (by omega) (by omega)
   refine Eq.trans this ?_
   exact congrArg some (decide_eq_decide.2 ⟨fun e => by rw [e], fun e => (List.cons.inj e).2⟩)
  rw [if_neg (fun e => h ((tl_eq _ _).1 e)), decide_eq_false (fun e => h (List.cons.inj e).1)]
theorem equal_f (x y : List ByteArray) (k : Nat) (hx : x.length < 4611686018427387904) (hk : x.length + 1 ≤ k) : slices_Equal_string_string.f k x y = some (decide (x = y)) := by
 unfold slices_Equal_string_string.f
 by_cases he : x.length = y.length
 ·rw [if_pos (by omega)]
  exact equal_l x y he hx x.length 0 k (by omega) (by omega) (by omega)
 rw [if_neg (by omega), decide_eq_false (fun e => he (by rw [e]))]
def sml (a : ByteArray) : Prop := a.size ≤ 1048576
theorem psplit_f (a : ByteArray) (h : sml a) : path_Split.f a = some (splitL a) := by
 unfold sml at h
 rw [path_Split.f, if_pos (by omega)]
theorem rsp_f (a : ByteArray) (h : sml a) (k : Nat) (hk : 1048580 ≤ k) : remoraref13_Split.f k a = some (splitL a) := by
 unfold sml at h
 exact rsplit_f a (by omega) k (by omega)
theorem spl_len (a : ByteArray) (h : sml a) : (splitL a).length ≤ 1048577 := by
 unfold sml at h
 have := splitL_len a
 omega
theorem less_f (a b : ByteArray) (ha : sml a) (hb : sml b) (k : Nat) (hk : 1048580 ≤ k) : path_Less.f k a b = some (decide (cmpL (splitL a) (splitL b) < 0)) := by
 have := spl_len a ha
 rw [path_Less.f, psplit_f a ha, Option.bind_some, psplit_f b hb, Option.bind_some, compare_f _ _ k (by omega) (by omega), Option.bind_some]
def preB (y x : List ByteArray) : Bool := decide (x.take y.length = y)
theorem under_f (a b : ByteArray) (ha : sml a) (hb : sml b) (k : Nat) (hk : 1048580 ≤ k) : path_Under.f k a b = some (preB (splitL b) (splitL a)) := by
 have h1 := spl_len a ha
 rw [path_Under.f, psplit_f a ha, Option.bind_some, psplit_f b hb, Option.bind_some, preB]
 by_cases h : (splitL b).length ≤ (splitL a).length
 ·rw [if_pos (by omega), if_pos (by omega), if_pos (by omega), Int.toNat_natCast, equal_f _ _ k (by rw [List.length_take]; omega) (by rw [List.length_take]; omega), Option.bind_some]
 rw [if_neg (by omega), decide_eq_false]
 intro e
 have := congrArg List.length e
 rw [List.length_take] at this
 omega
theorem runder_l (x y : List ByteArray) (hx : y.length < 4611686018427387904) : ∀ (m i k : Nat), y.length - i = m → i ≤ y.length → m + 1 ≤ k → x.take i = y.take i → remoraref13_Under.l0 k x y (i : Int) = some (preB y x) := by
 intro m
 induction m with
 | zero =>
  intro i k hm hi hk he
  obtain ⟨k, rfl⟩ : ∃ j, k = j + 1 := ⟨k - 1, by omega⟩
  obtain rfl : i = y.length := by omega
  rw [List.take_length] at he
  rw [remoraref13_Under.l0, if_neg (by omega), preB, decide_eq_true he]
 | succ m ih =>
  intro i k hm hi hk he
  obtain ⟨k, rfl⟩ : ∃ j, k = j + 1 := ⟨k - 1, by omega⟩
  have hlt : i < y.length := by omega
  rw [remoraref13_Under.l0, if_pos (by omega)]
  by_cases hx2 : i < x.length
  ·rw [if_neg (by omega), if_pos (by omega), if_pos (by omega), rdOf_get x i hx2, rdOf_get y i hlt]
   by_cases h : x[i] = y[i]
   ·rw [if_pos ((tl_eq _ _).2 h), wr64 _ (by omega) (by omega)]
    exact ih (i + 1) k (by omega) (by omega) (by omega) (by rw [List.take_succ_eq_append_getElem hx2, List.take_succ_eq_append_getElem hlt, he, h])
   rw [if_neg (fun e => h ((tl_eq _ _).1 e)), preB, decide_eq_false]
   intro e
   apply h
   have h1 : (x.take y.length)[i]? = y[i]? := by rw [e]
   rw [List.getElem?_take_of_lt hlt, List.getElem?_eq_getElem hx2, List.getElem?_eq_getElem hlt] at h1
   exact Option.some.inj h1
  rw [if_pos (by omega), preB, decide_eq_false]
  intro e
  have := congrArg List.length e
  rw [List.length_take] at this
  omega
theorem runder_f (a b : ByteArray) (ha : sml a) (hb : sml b) (k : Nat) (hk : 1048580 ≤ k) : remoraref13_Under.f k a b = some (preB (splitL b) (splitL a)) := by
 have h1 := spl_len b hb
 rw [remoraref13_Under.f, rsp_f a ha k (by omega), Option.bind_some, rsp_f b hb k (by omega), Option.bind_some]
 exact runder_l _ _ (by omega) _ 0 k rfl (by omega) (by omega) rfl
theorem less_tail (a b : ByteArray) (s t : List ByteArray) (h : a ≠ b) : decide (cmpL (a :: s) (b :: t) < 0) = Op.bytesLess a.toList b.toList := by
 rw [cmpL]
 by_cases h1 : Op.bytesLess a.toList b.toList = true
 ·rw [if_pos h1, h1]; rfl
 rw [if_neg h1, if_neg h, Bool.eq_false_iff.2 h1]; rfl
theorem less_same (a : ByteArray) (s t : List ByteArray) (h : Op.bytesLess a.toList a.toList = false) : cmpL (a :: s) (a :: t) = cmpL s t := by
 rw [cmpL, if_neg (by rw [h]; decide), if_pos rfl]
theorem bl_irr : ∀ l : List UInt8, Op.bytesLess l l = false
 | [] => rfl
 | a :: t => by
  rw [Op.bytesLess, bl_irr t]
  simp
theorem rless_l (x y : List ByteArray) (hx : x.length < 4611686018427387904) : ∀ (m i k : Nat), x.length - i = m → i ≤ x.length → i ≤ y.length → 2 * m + 2 ≤ k → remoraref13_Less.l0 k x y (i : Int) = some (decide (cmpL (x.drop i) (y.drop i) < 0)) := by
 intro m
 induction m with
 | zero =>
  intro i k hm hi hy hk
  obtain ⟨k, rfl⟩ : ∃ j, k = j + 2 := ⟨k - 2, by omega⟩
  obtain rfl : i = x.length := by omega
  rw [remoraref13_Less.l0, if_neg (by omega), remoraref13_Less.j1, if_neg (by decide), List.drop_length]
  by_cases h : x.length < y.length
  ·rw [List.drop_eq_getElem_cons h, decide_eq_true (by omega)]; rfl
  rw [List.drop_eq_nil_of_le (by omega), decide_eq_false (by omega)]; rfl
 | succ m ih =>
  intro i k hm hi hy hk
  obtain ⟨k, rfl⟩ : ∃ j, k = j + 2 := ⟨k - 2, by omega⟩
  have hlt : i < x.length := by omega
  rw [remoraref13_Less.l0, if_pos (by omega), remoraref13_Less.j1, List.drop_eq_getElem_cons hlt]
  by_cases hy2 : i < y.length
  ·rw [if_pos (decide_eq_true (by omega)), if_pos (by omega), if_pos (by omega), if_pos (by omega), rdOf_get x i hlt, rdOf_get y i hy2, List.drop_eq_getElem_cons hy2]
   by_cases h : x[i] = y[i]
   ·rw [if_pos ((tl_eq _ _).2 h), wr64 _ (by omega) (by omega), h, less_same _ _ _ (bl_irr _)]
    exact ih (i + 1) k (by omega) (by omega) (by omega) (by omega)
   rw [if_neg (fun e => h ((tl_eq _ _).1 e)), less_tail _ _ _ _ h]
  rw [if_neg (by rw [decide_eq_false (by omega)]; decide), List.drop_eq_nil_of_le (show y.length ≤ i by omega), decide_eq_false (by omega)]
  rfl
theorem rless_f (a b : ByteArray) (ha : sml a) (hb : sml b) (k : Nat) (hk : 3000000 ≤ k) : remoraref13_Less.f k a b = some (decide (cmpL (splitL a) (splitL b) < 0)) := by
 have h1 := spl_len a ha
 rw [remoraref13_Less.f, rsp_f a ha k (by omega), Option.bind_some, rsp_f b hb k (by omega), Option.bind_some]
 exact rless_l _ _ (by omega) _ 0 k rfl (by omega) (by omega) (by omega)
end Go.Proofs.YtcdmgdegohcmhaaDoor.PA
namespace Go.Proofs.YtcdmgdegohcmhaaDoor.PA
open Go.RowKit Go.Proofs.YtcdmgdegohcmhaaDoorW.PrintWords Go.Proofs.YtcdmgdegohcmhaaDoorW.PrintLast Go.Proofs.YtcdmgdegohcmhaaDoorW.PrintMore
attribute [local go_sem] max2_int min2_int max_two min_two max_three min_three max_four min_four
set_option linter.unusedVariables false
set_option linter.unusedSimpArgs false
theorem last_l (a : ByteArray) (hs : a.size < 4611686018427387904) : ∀ j k, j ≤ a.size → j + 1 ≤ k → bytealg_LastIndexByteString.l0 k a 47 ((j : Int) - 1) = some (((splitTo a j).2 : Int) - 1)
 | 0, k, _, hk => by
  obtain ⟨k, rfl⟩ : ∃ j, k = j + 1 := ⟨k - 1, by omega⟩
  rw [bytealg_LastIndexByteString.l0, if_neg (by omega)]
  rfl
 | j + 1, k, hj, hk => by
  obtain ⟨k, rfl⟩ : ∃ j, k = j + 1 := ⟨k - 1, by omega⟩
  have e : (((j + 1 : Nat) : Int) - 1) = (j : Int) := by omega
  rw [e, bytealg_LastIndexByteString.l0, if_pos (by omega), if_pos (by omega), if_pos (by omega)]
  by_cases hb : bt a (j : Int) = 47
  ·rw [if_pos hb, splitTo_hit a j hb]
   show some (j : Int) = some (((j + 1 : Nat) : Int) - 1)
   rw [e]
  rw [if_neg hb, splitTo_miss a j hb, wr64 _ (by omega) (by omega)]
  exact last_l a hs j k (by omega) (by omega)
theorem last_f (a : ByteArray) (ha : sml a) (k : Nat) (hk : 1048580 ≤ k) : strings_LastIndexByte.f k a 47 = some (((splitTo a a.size).2 : Int) - 1) := by
 unfold sml at ha
 rw [strings_LastIndexByte.f, bytealg_LastIndexByteString.f, wr64 _ (by omega) (by omega), last_l a (by omega) a.size k (by omega) (by omega), Option.bind_some]
def parB (a : ByteArray) : ByteArray := a.extract 0 ((splitTo a a.size).2 - 1)
theorem parent_f (a : ByteArray) (ha : sml a) (k : Nat) (hk : 1048580 ≤ k) : path_Parent.f k a = some (parB a) := by
 have h1 := splitTo_le a a.size
 rw [path_Parent.f, last_f a ha k hk, Option.bind_some]
 have e : mx (((splitTo a a.size).2 : Int) - 1) 0 = (((splitTo a a.size).2 - 1 : Nat) : Int) := by
  unfold mx
  split <;> omega
 rw [e, if_pos (by omega), if_pos (by omega), Int.toNat_natCast]
 rfl
set_option linter.unusedVariables false
set_option linter.unusedSimpArgs false
def remoraref20_Find.l0 : Nat → List (S35) → ByteArray → Int → Option (Int × Bool)
 | 0, _, _, _ => none
 | k + 1, x0, x1, x6 => if x6 < (x0.length : Int) then (if 0 ≤ x6 then (if ((rd_T35 x0 x6).f0).toList = x1.toList then (some (x6, true)) else (remoraref20_Find.l0 k x0 x1 (wrap64 (x6 + 1)))) else (none)) else (some (0, false))
def remoraref20_Find.f (k : Nat) (l0 : List (S35)) (a1 : ByteArray) : Option (Int × Bool) := remoraref20_Find.l0 k l0 a1 0
set_option maxHeartbeats 8000000 in
set_option maxRecDepth 100000 in
theorem remoraref20_Find.calls (k : Nat) (A0 : Option Addr) (c0 : Nat) (l0 : List (S35)) (a1 : ByteArray) (r1 : Int) (r2 : Bool) (w : World) (hr0 : Kd.C k35 w A0 l0.length l0) (hc0 : l0.length ≤ c0) (h : remoraref20_Find.f k l0 a1 = some (r1, r2)) :
  Calls Tryd.prog 25 #[.slice A0 l0.length c0, .string a1] w fun e w' => e = .returned (.tuple #[.int .i64 r1, .bool r2]) ∧ Drawn0 w w' := by
 have HR0 := Aside0.mk hr0
 have HC0 := Aside0.mk hc0
 clear hr0 hc0
 have H : (remoraref20_Find.l0 k l0 a1 0) = some (r1, r2) := h
 clear h
 have H' := Aside0.mk H
 clear H
 go_enter Tryd.func25, Tryd.ntmps25
 go_wp2
 go_loopg [6] k (fun kq v6 w' => ∃ (x6_1 : Int), v6 = .int .i64 x6_1 ∧ Aside0 (remoraref20_Find.l0 kq l0 a1 x6_1 = some (r1, r2)) ∧ Aside0 (kq ≤ k) ∧ Drawn0 w w')
 case atStart => exact ⟨(0), (by first | rfl | (simp; done) | (simp [*]; done)), H', ⟨Nat.le_refl _⟩, by repeat (first | exact Drawn0.refl _ | apply Drawn0.step)⟩
 case round =>
  clear H'
  try clear c2
  try clear p2
  obtain ⟨x6_1, rfl, HA, HK1, ⟨m1, rfl⟩⟩ := hrel
  cases gk with
  | zero => exact absurd HA.out (by simp [remoraref20_Find.l0])
  | succ k1 =>
   have H := HA.out
   clear HA
   simp only [remoraref20_Find.l0] at H
   by_cases c3 : x6_1 < (l0.length : Int)
   ·rw [if_pos c3] at H
    have c3b0 : decide (x6_1 < (l0.length : Int)) = true := decide_eq_true c3
    clear c3
    by_cases c4 : 0 ≤ x6_1
    ·rw [if_pos c4] at H
     have c4b0 : decide (0 ≤ x6_1) = true := decide_eq_true c4
     clear c4
     by_cases c5 : ((rd_T35 l0 x6_1).f0).toList = a1.toList
     ·rw [if_pos c5] at H
      have c5b0 : (((rd_T35 l0 x6_1).f0).toList == a1.toList) = true := beq_iff_eq.mpr c5
      have c5b1 : (((rd_T35 l0 x6_1).f0).toList != a1.toList) = false := bne_eq_false_iff_eq.mpr c5
      clear c5
      simp only [Option.some.injEq, Prod.mk.injEq] at H
      obtain ⟨rfl, rfl⟩ := H
      have p101 : 0 ≤ (x6_1 : Int) := of_decide_eq_true (by first | (with_reducible assumption) | assumption)
      have q101 : x6_1 < (l0.length : Int) := of_decide_eq_true (by first | (with_reducible assumption) | assumption)
      obtain ⟨ad101, e101, hx101_0, hx101_1, hx101_2, hx101_3, hx101_4, hx101_5, hx101_6, hx101_7, hx101_8, hx101_9, hx101_10⟩ := at_T35 HR0.out x6_1 p101 q101
      cases e101
      replace p101 := eq_true p101
      replace q101 := eq_true q101
      go_wp2
      go_ret2
      exact ⟨by first | rfl | (simp; done) | (simp [*]; done), by repeat (first | exact Drawn0.refl _ | apply Drawn0.step)⟩
     rw [if_neg c5] at H
     have c5b0 : (((rd_T35 l0 x6_1).f0).toList == a1.toList) = false := beq_eq_false_iff_ne.mpr c5
     have c5b1 : (((rd_T35 l0 x6_1).f0).toList != a1.toList) = true := bne_iff_ne.mpr c5
     have H' := Aside0.mk H
     clear H
     have p101 : 0 ≤ (x6_1 : Int) := of_decide_eq_true (by first | (with_reducible assumption) | assumption)
     have q101 : x6_1 < (l0.length : Int) := of_decide_eq_true (by first | (with_reducible assumption) | assumption)
     obtain ⟨ad101, e101, hx101_0, hx101_1, hx101_2, hx101_3, hx101_4, hx101_5, hx101_6, hx101_7, hx101_8, hx101_9, hx101_10⟩ := at_T35 HR0.out x6_1 p101 q101
     cases e101
     replace p101 := eq_true p101
     replace q101 := eq_true q101
     go_wp2
     go_roundg k1
     case measure => have := HK1.out; omega
     case rel => exact ⟨(wrap64 (x6_1 + 1)), (by first | rfl | (simp; done) | (simp [*]; done)), H', ⟨by have := HK1.out; omega⟩, by repeat (first | exact Drawn0.refl _ | apply Drawn0.step)⟩
    rw [if_neg c4] at H
    exact absurd H (by simp)
   rw [if_neg c3] at H
   have c3b0 : decide (x6_1 < (l0.length : Int)) = false := decide_eq_false c3
   clear c3
   simp only [Option.some.injEq, Prod.mk.injEq] at H
   obtain ⟨rfl, rfl⟩ := H
   go_wp2
   go_ret2
   exact ⟨by first | rfl | (simp; done) | (simp [*]; done), by repeat (first | exact Drawn0.refl _ | apply Drawn0.step)⟩
set_option linter.unusedVariables false
set_option linter.unusedSimpArgs false
set_option linter.unusedVariables false
set_option linter.unusedSimpArgs false
set_option linter.unusedVariables false
set_option linter.unusedSimpArgs false
set_option linter.unusedVariables false
set_option linter.unusedSimpArgs false
set_option linter.unusedVariables false
set_option linter.unusedSimpArgs false
end Go.Proofs.YtcdmgdegohcmhaaDoor.PA
namespace Go.Proofs.YtcdmgdegohcmhaaDoor.PA
open Go.RowKit Go.Proofs.YtcdmgdegohcmhaaDoorW.PrintWords Go.Proofs.YtcdmgdegohcmhaaDoorW.PrintLast Go.Proofs.YtcdmgdegohcmhaaDoorW.PrintMore
attribute [local go_sem] max2_int min2_int max_two min_two max_three min_three max_four min_four
set_option linter.unusedVariables false
set_option linter.unusedSimpArgs false
theorem u8_lt (a b : UInt8) : a < b ↔ a.toNat < b.toNat := UInt8.lt_iff_toNat_lt
theorem u8_eq (a b : UInt8) : a = b ↔ a.toNat = b.toNat := UInt8.toNat_inj.symm
theorem bl_cons (a b : UInt8) (x y : List UInt8) : Op.bytesLess (a :: x) (b :: y) = true ↔ a.toNat < b.toNat ∨ (a = b ∧ Op.bytesLess x y = true) := by
 rw [Op.bytesLess, Bool.or_eq_true, Bool.and_eq_true, decide_eq_true_iff, u8_lt, beq_iff_eq]
theorem bl_trans : ∀ x y z : List UInt8, Op.bytesLess x y = true → Op.bytesLess y z = true → Op.bytesLess x z = true
 | _, [], _, h, _ => by simp [Op.bytesLess] at h
 | _, _ :: _, [], _, h => by simp [Op.bytesLess] at h
 | [], _ :: _, _ :: _, _, _ => rfl
 | a :: x, b :: y, d :: z, h1, h2 => by
  rw [bl_cons] at h1 h2 ⊢
  rcases h1 with h1 | ⟨rfl, h1⟩
  ·rcases h2 with h2 | ⟨rfl, h2⟩
   ·exact Or.inl (by omega)
   exact Or.inl h1
  rcases h2 with h2 | ⟨rfl, h2⟩
  ·exact Or.inl h2
  exact Or.inr ⟨rfl, bl_trans x y z h1 h2⟩
theorem bl_tri : ∀ x y : List UInt8, ¬ Op.bytesLess x y = true → ¬ Op.bytesLess y x = true → x = y
 | [], [], _, _ => rfl
 | [], _ :: _, h, _ => absurd rfl h
 | _ :: _, [], _, h => absurd rfl h
 | a :: x, b :: y, h1, h2 => by
  rw [bl_cons] at h1 h2
  have hab : a = b := by
   rw [u8_eq]
   have := fun h => h1 (Or.inl h)
   have := fun h => h2 (Or.inl h)
   omega
  subst hab
  rw [bl_tri x y (fun h => h1 (Or.inr ⟨rfl, h⟩)) (fun h => h2 (Or.inr ⟨rfl, h⟩))]
theorem cmp_cons (a b : ByteArray) (s t : List ByteArray) : cmpL (a :: s) (b :: t) < 0 ↔ Op.bytesLess a.toList b.toList = true ∨ (a = b ∧ cmpL s t < 0) := by
 rw [cmpL]
 by_cases h1 : Op.bytesLess a.toList b.toList = true
 ·rw [if_pos h1]
  exact ⟨fun _ => Or.inl h1, fun _ => by decide⟩
 rw [if_neg h1]
 by_cases h2 : a = b
 ·rw [if_pos h2]
  exact ⟨fun h => Or.inr ⟨h2, h⟩, fun h => h.elim (fun h => absurd h h1) (fun h => h.2)⟩
 rw [if_neg h2]
 exact ⟨fun h => absurd h (by decide), fun h => h.elim (fun h => absurd h h1) (fun h => absurd h.1 h2)⟩
theorem cmp_trans : ∀ x y z, cmpL x y < 0 → cmpL y z < 0 → cmpL x z < 0
 | [], [], _, h, _ => absurd h (by decide)
 | _ :: _, [], _, h, _ => absurd h (by simp [cmpL])
 | _, _ :: _, [], _, h => absurd h (by simp [cmpL])
 | [], _ :: _, _ :: _, _, _ => by simp [cmpL]
 | a :: s, b :: t, d :: u, h1, h2 => by
  rw [cmp_cons] at h1 h2 ⊢
  rcases h1 with h1 | ⟨rfl, h1⟩
  ·rcases h2 with h2 | ⟨rfl, h2⟩
   ·exact Or.inl (bl_trans _ _ _ h1 h2)
   exact Or.inl h1
  rcases h2 with h2 | ⟨rfl, h2⟩
  ·exact Or.inl h2
  exact Or.inr ⟨rfl, cmp_trans s t u h1 h2⟩
theorem cmp_irr : ∀ x, ¬ cmpL x x < 0
 | [] => by decide
 | a :: s => by
  rw [cmp_cons, bl_irr]
  intro h
  rcases h with h | ⟨_, h⟩
  ·exact absurd h (by decide)
  exact cmp_irr s h
theorem cmp_tri : ∀ x y, ¬ cmpL x y < 0 → ¬ cmpL y x < 0 → x = y
 | [], [], _, _ => rfl
 | [], _ :: _, h, _ => absurd (by simp [cmpL]) h
 | _ :: _, [], _, h => absurd (by simp [cmpL]) h
 | a :: s, b :: t, h1, h2 => by
  rw [cmp_cons] at h1 h2
  have hab : a = b := (tl_eq a b).1 (bl_tri _ _ (fun h => h1 (Or.inl h)) (fun h => h2 (Or.inl h)))
  subst hab
  rw [cmp_tri s t (fun h => h1 (Or.inr ⟨rfl, h⟩)) (fun h => h2 (Or.inr ⟨rfl, h⟩))]
end Go.Proofs.YtcdmgdegohcmhaaDoor.PA
namespace Go.Proofs.YtcdmgdegohcmhaaDoor.PA
open Go.RowKit Go.Proofs.YtcdmgdegohcmhaaDoorW.PrintWords Go.Proofs.YtcdmgdegohcmhaaDoorW.PrintLast Go.Proofs.YtcdmgdegohcmhaaDoorW.PrintMore
attribute [local go_sem] max2_int min2_int max_two min_two max_three min_three max_four min_four
set_option linter.unusedVariables false
set_option linter.unusedSimpArgs false
end Go.Proofs.YtcdmgdegohcmhaaDoor.PA
namespace Go.Proofs.YtcdmgdegohcmhaaDoor.PA
open Go.RowKit Go.Proofs.YtcdmgdegohcmhaaDoorW.PrintWords Go.Proofs.YtcdmgdegohcmhaaDoorW.PrintLast Go.Proofs.YtcdmgdegohcmhaaDoorW.PrintMore
attribute [local go_sem] max2_int min2_int max_two min_two max_three min_three max_four min_four
set_option linter.unusedVariables false
set_option linter.unusedSimpArgs false
theorem size_tl20 (p : ByteArray) : p.toList = ([] : List UInt8) ↔ p.size = 0 := by
 constructor
 ·intro h
  have := congrArg List.length h
  rw [ByteArray.toList_eq, Array.length_toList] at this
  exact this
 intro h
 rw [ByteArray.toList_eq]
 exact List.eq_nil_of_length_eq_zero (by rw [Array.length_toList]; exact h)
theorem tl_bne20 (p : ByteArray) : (p.toList != ([] : List UInt8)) = decide (p.size ≠ 0) := by
 by_cases h : p.size = 0
 ·rw [(size_tl20 p).2 h, decide_eq_false (by omega)]
  rfl
 have : p.toList ≠ [] := fun e => h ((size_tl20 p).1 e)
 rw [decide_eq_true h]
 exact bne_iff_ne.2 this
theorem tl_beq20 (p : ByteArray) : (p.toList == ([] : List UInt8)) = decide (p.size = 0) := by
 by_cases h : p.size = 0
 ·rw [(size_tl20 p).2 h, decide_eq_true h]
  rfl
 have : p.toList ≠ [] := fun e => h ((size_tl20 p).1 e)
 rw [decide_eq_false h]
 exact beq_eq_false_iff_ne.2 this
theorem if_tl {α : Type} (p : ByteArray) (a b : α) : (if p.toList = ([] : List UInt8) then a else b) = if p.size = 0 then a else b := by
 by_cases h : p.size = 0
 ·rw [if_pos h, if_pos ((size_tl20 p).2 h)]
 rw [if_neg h, if_neg (fun e => h ((size_tl20 p).1 e))]
def badE (k sz : Int) (m : Bool) (t s : Nat) (g : Int) : Bool :=
 !m || decide (sz < 0) || (decide (k = 1) && decide (sz > 65536)) || (decide (k = 2) && decide (sz > 2147483647)) || (decide (k ≠ 3) && decide (t ≠ 0)) || (decide (k = 3) && (decide (t = 0) || decide (t > 200) || decide (sz ≠ (t : Int)))) || (decide (s ≠ 0) && (decide (k ≠ 1) || decide (s ≠ 32))) || decide (g < 0) || (decide (g > 0) && decide (k ≠ 1))
def metaS (x : S35) : Bool := metaOk x.f3.f0 x.f3.f1 x.f3.f2 x.f3.f3 x.f3.f4
def aloneI (x : S35) : Int := if rightB x.f0 = true ∧ x.f0.size ≠ 0 then (if 1 ≤ x.f1 ∧ x.f1 ≤ 3 then (if badE x.f1 x.f2 (metaS x) x.f4.size x.f5.size x.f6 = true then 2 else 0) else 17) else 9
set_option maxHeartbeats 4000000 in
theorem alone_f (x : S35) (hs : x.f0.size < 4398046511104) (k : Nat) (hk : x.f0.size + 60 < k) : flist_alone.f k x.f0 x.f1 x.f2 x.f3.f0 x.f3.f1 x.f3.f2 x.f3.f3 x.f3.f4 x.f4 x.f5 x.f6 = some (aloneI x) := by
 obtain ⟨k, rfl⟩ : ∃ j, k = j + 6 := ⟨k - 6, by omega⟩
 unfold flist_alone.f aloneI
 rw [right_f x.f0 hs _ (by omega), Option.bind_some, tl_beq20]
 have jt : ∀ q1 q2 q3 q4 q5 q6 q7 q8 q9 q10 q11, flist_alone.j0 (k + 6) true q1 q2 q3 q4 q5 q6 q7 q8 q9 q10 q11 = some 9 := fun _ _ _ _ _ _ _ _ _ _ _ => by rw [flist_alone.j0, if_pos rfl]
 by_cases hr : rightB x.f0 = true
 ·rw [if_pos hr]
  by_cases h0 : x.f0.size = 0
  ·rw [decide_eq_true h0, jt, if_neg (fun h => h.2 h0)]
  rw [decide_eq_false h0, if_pos ⟨hr, h0⟩]
  have hm : meta_Check.f x.f3.f0 x.f3.f1 x.f3.f2 x.f3.f3 x.f3.f4 = some (if metaS x = true then 0 else 2) := rfl
  simp only [flist_alone.j0, flist_alone.j1, flist_alone.j2, flist_alone.j3, flist_alone.j4, flist_alone.j5, hm, Option.bind_some, if_tl, tl_bne20]
  generalize x.f4.size = t
  generalize x.f5.size = s
  generalize x.f6 = g
  generalize x.f2 = sz
  generalize metaS x = m
  generalize x.f1 = q
  unfold badE
  by_cases q1 : q = 1
  ·subst q1
   cases m <;> simp <;> (repeat' split) <;> simp_all <;> omega
  by_cases q2 : q = 2
  ·subst q2
   cases m <;> simp <;> (repeat' split) <;> simp_all <;> omega
  by_cases q3 : q = 3
  ·subst q3
   cases m <;> simp <;> (repeat' split) <;> simp_all <;> omega
  have e1 : (q == 1) = false := beq_eq_false_iff_ne.2 q1
  have e2 : (q != 2) = true := bne_iff_ne.2 q2
  have e3 : (q == 3) = false := beq_eq_false_iff_ne.2 q3
  rw [if_neg (show ¬ (false = true) by decide), if_neg q1, if_neg q3, e2, if_pos rfl, if_neg (by omega)]
 rw [if_neg hr, jt, if_neg (fun h => hr h.1)]
end Go.Proofs.YtcdmgdegohcmhaaDoor.PA
namespace Go.Proofs.YtcdmgdegohcmhaaDoor.PA
open Go.RowKit Go.Proofs.YtcdmgdegohcmhaaDoorW.PrintWords Go.Proofs.YtcdmgdegohcmhaaDoorW.PrintLast Go.Proofs.YtcdmgdegohcmhaaDoorW.PrintMore
attribute [local go_sem] max2_int min2_int max_two min_two max_three min_three max_four min_four
set_option linter.unusedVariables false
set_option linter.unusedSimpArgs false
theorem rd35_get (L : List S35) (i : Nat) (h : i < L.length) : rd_T35 L (i : Int) = L[i] := by simp [rd_T35, rdOf, h]
def dirsB (P : List S35) (up : ByteArray) : Bool := decide (up.size = 0) || P.any (fun y => decide (y.f0 = up) && decide (y.f1 = 2))
def prev (P : List S35) : S35 := P.getLastD z35
def stepC (P : List S35) (last : Int) (x : S35) : Int :=
 if aloneI x ≠ 0 then aloneI x else
 if P ≠ [] ∧ x.f0 = (prev P).f0 then 11 else
 if P ≠ [] ∧ cmpL (splitL x.f0) (splitL (prev P).f0) < 0 then 3 else
 if dirsB P (parB x.f0) = false then 12 else
 if x.f6 > last + 1 then 5 else 0
def maxI (a b : Int) : Int := if a < b then b else a
def checkG : List S35 → Int → List S35 → Int
 | _, _, [] => 0
 | P, last, x :: l => if stepC P last x ≠ 0 then stepC P last x else checkG (P ++ [x]) (maxI last x.f6) l
theorem checkG_cons (P : List S35) (last : Int) (x : S35) (l : List S35) : checkG P last (x :: l) = if stepC P last x ≠ 0 then stepC P last x else checkG (P ++ [x]) (maxI last x.f6) l := rfl
def checkL20 (L : List S35) : Int := checkG [] 0 L
def light20 (L : List S35) : Prop := L.length ≤ 1000 ∧ ∀ x ∈ L, x.f0.size ≤ 1000
theorem split_same20 (a b : ByteArray) (h : splitL a = splitL b) : a = b := by
 rw [← joinB_split a, ← joinB_split b, h]
theorem prev_eq (L : List S35) (i : Nat) (h0 : 0 < i) (hi : i ≤ L.length) : prev (L.take i) = L[i - 1]'(by omega) ∧ L.take i ≠ [] := by
 have hl : (L.take i).length = i := by rw [List.length_take]; omega
 have hne : L.take i ≠ [] := fun e => by rw [e] at hl; simp at hl; omega
 refine ⟨?_, hne⟩
 unfold prev
 rw [List.getLastD_eq_getLast?, List.getLast?_eq_getElem?, hl, List.getElem?_take_of_lt (by omega), List.getElem?_eq_getElem (by omega)]
 rfl
end Go.Proofs.YtcdmgdegohcmhaaDoor.PA
namespace Go.Proofs.YtcdmgdegohcmhaaDoor.PA
open Go.RowKit Go.Proofs.YtcdmgdegohcmhaaDoorW.PrintWords Go.Proofs.YtcdmgdegohcmhaaDoorW.PrintLast Go.Proofs.YtcdmgdegohcmhaaDoorW.PrintMore
attribute [local go_sem] max2_int min2_int max_two min_two max_three min_three max_four min_four
set_option linter.unusedVariables false
set_option linter.unusedSimpArgs false
open Go.Maps in
structure MapB (w wr : World) (mb : Nat) (P : List S35) : Prop where
 base : w.heap.size ≤ mb
 own : ∃ n, ∃ D : DataW Unit, wr.ownsMap Tryd.prog 9 (plainElem Tryd.prog 4) mb n D ∧ n ≤ P.length + 1 ∧ ∀ s : ByteArray, D.atKey (.string s.data.toList) (.lit (.bool false)) = .lit (.bool (dirsB P s))
theorem plainElem_bool_inv {Q : Program} {e : TypeId} (he : Q.underlying e = some .bool) {v : Value} {z : DataW Unit × List MemPlace} (h : plainElem Q e v = some z) : ∃ b, v = .bool b ∧ z = (.lit (.bool b), []) := by
 unfold plainElem at h
 rw [he] at h
 cases v <;> simp at h
 exact ⟨_, rfl, h.symm⟩
theorem dirs_put (P : List S35) (x : S35) (h : x.f1 = 2) (s : ByteArray) : dirsB (P ++ [x]) s = (decide (x.f0 = s) || dirsB P s) := by
 unfold dirsB
 rw [List.any_append, List.any_cons, List.any_nil, decide_eq_true h, Bool.and_true, Bool.or_false]
 cases decide (s.size = 0) <;> cases P.any (fun y => decide (y.f0 = s) && decide (y.f1 = 2)) <;> cases decide (x.f0 = s) <;> rfl
theorem dirs_same (P : List S35) (x : S35) (h : x.f1 ≠ 2) (s : ByteArray) : dirsB (P ++ [x]) s = dirsB P s := by
 unfold dirsB
 rw [List.any_append, List.any_cons, List.any_nil, decide_eq_false h, Bool.and_false, Bool.or_false, Bool.or_false]
theorem MapB.step {w wr w2 : World} {mb : Nat} {P : List S35} (h : MapB w wr mb P) (hb : Below wr.heap.size wr w2) : MapB w w2 mb P := by
 obtain ⟨h1, n, D, ⟨es, clock, hh, F, hs, hD⟩, h2, h3⟩ := h
 exact ⟨h1, n, D, ⟨es, clock, blk_below hh hb, F, hs, hD⟩, h2, h3⟩
theorem MapB.heap {w wr w2 : World} {mb : Nat} {P : List S35} (h : MapB w wr mb P) (hh : w2.heap[mb]? = wr.heap[mb]?) : MapB w w2 mb P := by
 obtain ⟨h1, n, D, ⟨es, clock, hb, F, hs, hD⟩, h2, h3⟩ := h
 exact ⟨h1, n, D, ⟨es, clock, hh.trans hb, F, hs, hD⟩, h2, h3⟩
theorem MapB.set {w wr : World} {mb g j : Nat} {P : List S35} {u : Value} (h : MapB w wr mb P) (hne : mb ≠ g) : MapB w (wr.setCell ⟨g, j, none⟩ u) mb P := h.heap (Below.heap_setCell wr ⟨g, j, none⟩ u mb hne)
theorem MapB.lt {w wr : World} {mb : Nat} {P : List S35} (h : MapB w wr mb P) : mb < wr.heap.size := by
 obtain ⟨h1, n, D, ho, h2, h3⟩ := h
 exact ho.lt
theorem MapB.same {w wr : World} {mb : Nat} {P : List S35} (h : MapB w wr mb P) (x : S35) (hx : x.f1 ≠ 2) : MapB w wr mb (P ++ [x]) := by
 obtain ⟨h1, n, D, ho, h2, h3⟩ := h
 exact ⟨h1, n, D, ho, by rw [List.length_append]; omega, fun s => by rw [dirs_same P x hx]; exact h3 s⟩
theorem MapB.look {w wr : World} {mb : Nat} {P : List S35} (h : MapB w wr mb P) (s : ByteArray) (hs : s.size ≤ maxLen) : (Instr.lookup 48 (.map (some mb)) (.string s) false).run Tryd.prog wr = .ok (.bool (dirsB P s)) wr := by
 obtain ⟨h1, n, D, ho, h2, h3⟩ := h
 obtain ⟨v, ps, hrun, hv⟩ := ho.lookup (z := .bool false) (zd := .lit (.bool false)) (zp := []) (Go.Maps.string_keyed Tryd.underlying9) Tryd.underlying48 (by kernel_rfl) (plainElem_bool Tryd.underlying4 false) (Go.WideMaps.keyOf_string_mk Tryd.underlying9 hs)
 rw [h3 s] at hv
 obtain ⟨b, hvb, hb⟩ := plainElem_bool_inv Tryd.underlying4 hv
 have hb4 : dirsB P s = b := Lit.bool.inj (DataW.lit.inj (Prod.mk.inj hb).1)
 rw [hvb] at hrun
 exact hb4 ▸ hrun
theorem MapB.put {w wr : World} {mb : Nat} {P : List S35} (h : MapB w wr mb P) (hB : Below w.heap.size w wr) (x : S35) (hx : x.f1 = 2) (hs : x.f0.size ≤ maxLen) (hP : P.length ≤ 1000) : ∃ w', (Instr.mapUpdate 48 (.map (some mb)) (.string x.f0) (.bool true)).run Tryd.prog wr = .ok () w' ∧ MapB w w' mb (P ++ [x]) ∧ Below w.heap.size w w' := by
 obtain ⟨h1, n, D, ho, h2, h3⟩ := h
 obtain ⟨w', hrun, ho2, hg⟩ := ho.update (Go.Maps.string_keyed Tryd.underlying9) Tryd.underlying48 (by simp [maxLen]; omega) (Go.WideMaps.keyOf_string_mk Tryd.underlying9 hs) (plainElem_bool Tryd.underlying4 true)
 refine ⟨w', hrun, ⟨h1, n + 1, _, ho2, by rw [List.length_append]; simp; omega, fun s => ?_⟩, ?_⟩
 ·rw [dirs_put P x hx]
  by_cases e : x.f0 = s
  ·subst e
   rw [decide_eq_true rfl, Bool.true_or]
   exact Go.Maps.atKey_put_same ho.isMap (show WideAt.IsKeyLit (.string _) from trivial) _ _
  rw [decide_eq_false e, Bool.false_or, Go.Maps.atKey_put_other, h3 s]
  intro h
  injection h with h
  exact e (ByteArray.ext (Array.toList_inj.1 h)).symm
 exact hB.grown hg (Nat.le_of_lt (Nat.lt_of_le_of_lt h1 ho.lt)) (fun k hk => by simp at hk; omega)
theorem MapB.start (w : World) : ∃ w1, (Instr.mapUpdate 48 (.map (some w.heap.size)) (.string ⟨#[]⟩) (.bool true)).run Tryd.prog (w.alloc (.map #[] 0)) = .ok () w1 ∧ MapB w w1 w.heap.size [] ∧ Below w.heap.size w w1 := by
 have ho := World.ownsMap_made (H := Unit) w Tryd.prog 9 (plainElem Tryd.prog 4)
 obtain ⟨w', hrun, ho2, hg⟩ := ho.update (Go.Maps.string_keyed Tryd.underlying9) Tryd.underlying48 (by decide) (Go.WideMaps.keyOf_string_mk Tryd.underlying9 (s := ⟨#[]⟩) (by decide)) (plainElem_bool Tryd.underlying4 true)
 refine ⟨w', hrun, ⟨Nat.le_refl _, 1, _, ho2, by simp, fun s => ?_⟩, ?_⟩
 ·by_cases e : s.size = 0
  ·obtain rfl := size_zero e
   have : dirsB [] (⟨#[]⟩ : ByteArray) = true := rfl
   rw [this]
   exact Go.Maps.atKey_put_same ho.isMap (show WideAt.IsKeyLit (.string _) from trivial) _ _
  have hd : dirsB [] s = false := by unfold dirsB; rw [decide_eq_false e]; rfl
  rw [hd, Go.Maps.atKey_put_other]
  ·rfl
  intro h
  injection h with h
  refine e ?_
  have := congrArg List.length h
  rw [Array.length_toList] at this
  exact this
 exact (below_alloc (Below.refl _ _) _).grown hg (by simp) (fun k hk => by simp at hk; omega)
end Go.Proofs.YtcdmgdegohcmhaaDoor.PA
