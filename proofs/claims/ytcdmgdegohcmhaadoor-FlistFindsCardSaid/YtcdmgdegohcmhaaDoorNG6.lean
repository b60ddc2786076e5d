/- Own texts and the print's words: PAfremoralaw20awake to PAfremoraref20Sort. -/
import Derived.Test.YtcdmgdegohcmhaaDoorNG1
import Derived.Test.YtcdmgdegohcmhaaDoorNG5
import Derived.Test.YtcdmgdegohcmhaaDoorNG4
import Derived.Test.YtcdmgdegohcmhaaDoorNG3
namespace Go.Proofs.YtcdmgdegohcmhaaDoor.PA
open Go.RowKit Go.Proofs.YtcdmgdegohcmhaaDoorW.PrintWords Go.Proofs.YtcdmgdegohcmhaaDoorW.PrintLast Go.Proofs.YtcdmgdegohcmhaaDoorW.PrintMore
attribute [local go_sem] max2_int min2_int max_two min_two max_three min_three max_four min_four   -- for this text's walks alone
set_option linter.unusedVariables false
set_option linter.unusedSimpArgs false
def remoralaw20_awake.f (k : Nat)  : Option (Bool) := (flist_Bytes.f k (([(⟨(⟨#[97]⟩ : ByteArray), 1, 3, (⟨0, 0, 0, 0, 0⟩ : S33), (⟨#[]⟩ : ByteArray), (⟨#[]⟩ : ByteArray), 0⟩ : S35)] : List (S35)))).bind fun bt104 => (if bt104.2 = 0 then (if (bt104.1.length : Int) = 16 then (if 6 ≤ (bt104.1.length : Int) then (if (strOfNums (bt104.1.take 6)).toList = ([1, 0, 1, 97, 1, 3] : List UInt8) then ((flist_Check.f (([(⟨(⟨#[97, 47, 98]⟩ : ByteArray), 1, 0, (⟨0, 0, 0, 0, 0⟩ : S33), (⟨#[]⟩ : ByteArray), (⟨#[]⟩ : ByteArray), 0⟩ : S35)] : List (S35)))).bind fun t115 => (some (t115 == 12))) else (some false)) else (none)) else (some false)) else (some false))
set_option maxHeartbeats 8000000 in
set_option maxRecDepth 100000 in
theorem remoralaw20_awake.calls (k : Nat)  (r : Bool) (w : World) (h : remoralaw20_awake.f k  = some r) (hT_ : TabW w) :
  Calls Tryd.prog 11 #[] w fun e w' => e = .returned (.bool r) ∧ Below w.heap.size w w' := by
 have hu35 := Tryd.underlying35
 have HT := Aside0.mk hT_
 clear hT_
 have HB := Aside0.mk (Below.refl w.heap.size w)
 have H : ((flist_Bytes.f k (([(⟨(⟨#[97]⟩ : ByteArray), 1, 3, (⟨0, 0, 0, 0, 0⟩ : S33), (⟨#[]⟩ : ByteArray), (⟨#[]⟩ : ByteArray), 0⟩ : S35)] : List (S35)))).bind fun bt104 => (if bt104.2 = 0 then (if (bt104.1.length : Int) = 16 then (if 6 ≤ (bt104.1.length : Int) then (if (strOfNums (bt104.1.take 6)).toList = ([1, 0, 1, 97, 1, 3] : List UInt8) then ((flist_Check.f (([(⟨(⟨#[97, 47, 98]⟩ : ByteArray), 1, 0, (⟨0, 0, 0, 0, 0⟩ : S33), (⟨#[]⟩ : ByteArray), (⟨#[]⟩ : ByteArray), 0⟩ : S35)] : List (S35)))).bind fun t115 => (some (t115 == 12))) else (some false)) else (none)) else (some false)) else (some false))) = some r := h
 clear h
 obtain ⟨y101, hy101⟩ : ∃ y_ : List (S35), y_ = (([(⟨(⟨#[97]⟩ : ByteArray), 1, 3, (⟨0, 0, 0, 0, 0⟩ : S33), (⟨#[]⟩ : ByteArray), (⟨#[]⟩ : ByteArray), 0⟩ : S35)] : List (S35))) := ⟨_, rfl⟩
 replace H : ((flist_Bytes.f k y101).bind fun bt104 => (if bt104.2 = 0 then (if (bt104.1.length : Int) = 16 then (if 6 ≤ (bt104.1.length : Int) then (if (strOfNums (bt104.1.take 6)).toList = ([1, 0, 1, 97, 1, 3] : List UInt8) then ((flist_Check.f (([(⟨(⟨#[97, 47, 98]⟩ : ByteArray), 1, 0, (⟨0, 0, 0, 0, 0⟩ : S33), (⟨#[]⟩ : ByteArray), (⟨#[]⟩ : ByteArray), 0⟩ : S35)] : List (S35)))).bind fun t115 => (some (t115 == 12))) else (some false)) else (none)) else (some false)) else (some false))) = some r := by first | (rw [hy101]; with_reducible exact H) | (have H2_ := (Option.bind_some _ _).symm.trans H; rw [hy101]; with_reducible exact H2_) | (have H2_ := (Option.bind_some _ _).symm.trans H; with_reducible exact H2_) | with_reducible exact H | (rw [hy101]; exact H) | exact H
 have Ny101 := Aside0.mk hy101
 clear hy101
 replace H := Option.bind_eq_some_iff.mp H
 obtain ⟨⟨t104, t105⟩, A10, H⟩ := H
 replace H : (if t105 = 0 then (if (t104.length : Int) = 16 then (if 6 ≤ (t104.length : Int) then (if (strOfNums (t104.take 6)).toList = ([1, 0, 1, 97, 1, 3] : List UInt8) then ((flist_Check.f (([(⟨(⟨#[97, 47, 98]⟩ : ByteArray), 1, 0, (⟨0, 0, 0, 0, 0⟩ : S33), (⟨#[]⟩ : ByteArray), (⟨#[]⟩ : ByteArray), 0⟩ : S35)] : List (S35)))).bind fun t115 => (some (t115 == 12))) else (some false)) else (none)) else (some false)) else (some false)) = some r := H
 have A1 := Aside0.mk A10
 clear A10
 by_cases c2 : t105 = 0
 ·rw [if_pos c2] at H
  have c2b0 : (t105 == 0) = true := beq_iff_eq.mpr c2
  have c2b1 : (t105 != 0) = false := bne_eq_false_iff_eq.mpr c2
  clear c2
  by_cases c3 : (t104.length : Int) = 16
  ·rw [if_pos c3] at H
   have c3b0 : ((t104.length : Int) == 16) = true := beq_iff_eq.mpr c3
   have c3b1 : ((t104.length : Int) != 16) = false := bne_eq_false_iff_eq.mpr c3
   clear c3
   by_cases c4 : 6 ≤ (t104.length : Int)
   ·rw [if_pos c4] at H
    have c4b0 := eq_true c4
    have c4b1 : decide (6 ≤ (t104.length : Int)) = true := decide_eq_true c4
    clear c4
    obtain ⟨y108, hy108⟩ : ∃ y_ : List Int, y_ = (t104.take 6) := ⟨_, rfl⟩
    replace H : (if (strOfNums y108).toList = ([1, 0, 1, 97, 1, 3] : List UInt8) then ((flist_Check.f (([(⟨(⟨#[97, 47, 98]⟩ : ByteArray), 1, 0, (⟨0, 0, 0, 0, 0⟩ : S33), (⟨#[]⟩ : ByteArray), (⟨#[]⟩ : ByteArray), 0⟩ : S35)] : List (S35)))).bind fun t115 => (some (t115 == 12))) else (some false)) = some r := by first | (rw [hy108]; with_reducible exact H) | (have H2_ := (Option.bind_some _ _).symm.trans H; rw [hy108]; with_reducible exact H2_) | (have H2_ := (Option.bind_some _ _).symm.trans H; with_reducible exact H2_) | with_reducible exact H | (rw [hy108]; exact H) | exact H
    have Ny108 := Aside0.mk hy108
    clear hy108
    by_cases c5 : (strOfNums y108).toList = ([1, 0, 1, 97, 1, 3] : List UInt8)
    ·rw [if_pos c5] at H
     have c5b0 : ((strOfNums y108).toList == ([1, 0, 1, 97, 1, 3] : List UInt8)) = true := beq_iff_eq.mpr c5
     have c5b1 : ((strOfNums y108).toList != ([1, 0, 1, 97, 1, 3] : List UInt8)) = false := bne_eq_false_iff_eq.mpr c5
     clear c5
     obtain ⟨y112, hy112⟩ : ∃ y_ : List (S35), y_ = (([(⟨(⟨#[97, 47, 98]⟩ : ByteArray), 1, 0, (⟨0, 0, 0, 0, 0⟩ : S33), (⟨#[]⟩ : ByteArray), (⟨#[]⟩ : ByteArray), 0⟩ : S35)] : List (S35))) := ⟨_, rfl⟩
     replace H : ((flist_Check.f y112).bind fun t115 => (some (t115 == 12))) = some r := by first | (rw [hy112]; with_reducible exact H) | (have H2_ := (Option.bind_some _ _).symm.trans H; rw [hy112]; with_reducible exact H2_) | (have H2_ := (Option.bind_some _ _).symm.trans H; with_reducible exact H2_) | with_reducible exact H | (rw [hy112]; exact H) | exact H
     have Ny112 := Aside0.mk hy112
     clear hy112
     replace H := Option.bind_eq_some_iff.mp H
     obtain ⟨t115, A60, H⟩ := H
     replace H : (some (t115 == 12)) = some r := H
     have A6 := Aside0.mk A60
     clear A60
     obtain rfl := Option.some.inj H
     go_enter Tryd.func11, Tryd.ntmps11
     go_wp2_with (first | ((with_reducible refine gate_dst (N := 5) rfl ?_); (try (refine gate_guard (by rfl) ?_; dsimp only)); refine Kd.R_lit k35 _ 35 ?hg (N := 5) ?hd (xs := ([(⟨(⟨#[97]⟩ : ByteArray), 1, 3, (⟨0, 0, 0, 0, 0⟩ : S33), (⟨#[]⟩ : ByteArray), (⟨#[]⟩ : ByteArray), 0⟩ : S35)] : List (S35))) (inner := [.string (⟨#[97]⟩ : ByteArray), .int .i64 1, .int .i64 3, .int .i64 0, .int .i64 0, .int .i64 0, .int .i64 0, .int .i64 0, .string (⟨#[]⟩ : ByteArray), .string (⟨#[]⟩ : ByteArray), .int .i64 0]) (ok := fun _ => True) (okp := fun _ => True) ?hr ?hp (fun _ hk => hk) trivial (Below.refl _ _) (Nat.le_refl _) (by simp) ?_; (case hd => rfl); (case hg => rfl); (case hr => first | (go_simp; done) | (go_simp; rfl)); (case hp => exact (Reps.front (show Kd.M k35 _ _ _ (⟨(⟨#[97]⟩ : ByteArray), 1, 3, (⟨0, 0, 0, 0, 0⟩ : S33), (⟨#[]⟩ : ByteArray), (⟨#[]⟩ : ByteArray), 0⟩ : S35) [.string (⟨#[97]⟩ : ByteArray), .int .i64 1, .int .i64 3, .int .i64 0, .int .i64 0, .int .i64 0, .int .i64 0, .int .i64 0, .string (⟨#[]⟩ : ByteArray), .string (⟨#[]⟩ : ByteArray), .int .i64 0] from (k35_mkM _ _ _ (⟨(⟨#[97]⟩ : ByteArray), 1, 3, (⟨0, 0, 0, 0, 0⟩ : S33), (⟨#[]⟩ : ByteArray), (⟨#[]⟩ : ByteArray), 0⟩ : S35) )) rfl (Reps.none _ _) rfl)); intro v102 w7 ho8 hb hg_ hnew_; clear hg_ hnew_; (first | rw [← Ny101.out] at ho8 | (simp only [Int.reduceToNat] at ho8; rw [← Ny101.out] at ho8)); have n0_ := Aside0.mk (Kd.R_lower ho8 (below_size (upB HB.out))); have n1_ := Aside0.mk (below_step (upB HB.out) hb); clear HB; have HO103 := n0_; have HB := n1_; clear n0_ n1_; clear hb ho8; obtain ⟨Ao9, co9, eo9⟩ := Kd.R_slice HO103.out; subst eo9) | ((with_reducible refine gate_callee (f := 14) rfl ?_); refine goesL_ (some 6) rfl rfl Tryd.func14 (by kernel_rfl) rfl #[.slice Ao9 y101.length co9] rfl (by (try simp only [List.map_toArray, List.map_cons, List.map_nil]); first | done | rfl | (simp only [List.length_drop, List.length_take]; rfl)) ?_; (with_reducible refine (flist_Bytes.calls k _ _ y101 t104 t105 _ ?side1 ?side2 A1.out ?sideT).mono ?_); (case sideT => exact HT.out.step (upB HB.out)); (case side1 => repeat (first | exact (Kd.R_reads' HO103.out).2.2 | (with_reducible refine Kd.C_alloc ?_ _) | (with_reducible refine Kd.C_drewN ?_ _) | (with_reducible refine Kd.C_drew ?_))); (case side2 => exact (Kd.R_reads' HO103.out).2.1); rintro e w10 ⟨v106, rfl, ho0, hb⟩; refine ⟨_, rfl, ?_⟩; have n0_ := Aside0.mk (Kd.R_below (upR HO103.out) hb); have n1_ := Aside0.mk (Kd.R_lower ho0 (below_size (upB HB.out))); have n2_ := Aside0.mk (below_step (upB HB.out) hb); clear HO103; clear HB; have HO103 := n0_; have HO107 := n1_; have HB := n2_; clear n0_ n1_ n2_; (try clear hb); (try clear hb2); (try clear hk); (try clear hi); (try clear ho0); obtain ⟨Ao11, co11, eo11⟩ := Kd.R_slice HO107.out; subst eo11; have q12 : (6 : Int) ≤ ((t104.length : Int) : Int) := of_decide_eq_true (by first | (with_reducible assumption) | assumption); obtain ⟨i012, hi012, _, hsz12, _⟩ := info_parts info5; have hroom12 : t104.length ≤ co11 := (Kd.R_reads' HO107.out).2.1; have hC12 : Kd.C (Kd.int .u8) _ Ao11 t104.length t104 := (Kd.R_reads' HO107.out).2.2; have hcut12 := cut_to (P := Tryd.prog) 27 5 .i64 Tryd.underlying27 hi012 Ao11 t104.length co11 6 (by omega) q12 hroom12; have hr12 := Kd.C_take (m := 6) hC12 (by omega); have hy12 : y108.length = (6 : Int).toNat := (by rw [Ny108.out, List.length_take]; omega); rw [← Ny108.out] at hr12; rw [← hy12] at hcut12; have HR111 := Aside0.mk hr12; have HC111 := Aside0.mk (show y108.length ≤ co11 from by omega); clear hr12 hC12 hroom12 hi012 hsz12; have KY12 := Aside0.mk hy12; clear hy12; have KL12 := Aside0.mk (show 6 ≤ t104.length from by omega); replace q12 := eq_true q12; have hcv13 := Kd.C_string (P := Tryd.prog) (A := Ao11) (c := co11) Tryd.underlying27 Tryd.underlying5 Tryd.underlying9 (by repeat (first | (with_reducible exact HR111.out) | (with_reducible refine Kd.C_alloc ?_ _) | (with_reducible refine Kd.C_drewN ?_ _) | (with_reducible refine Kd.C_drew ?_) | exact HR111.out))) | ((with_reducible refine gate_dst (N := 24) rfl ?_); (try (refine gate_guard (by rfl) ?_; dsimp only)); refine Kd.R_lit k35 _ 35 ?hg (N := 24) ?hd (xs := ([(⟨(⟨#[97, 47, 98]⟩ : ByteArray), 1, 0, (⟨0, 0, 0, 0, 0⟩ : S33), (⟨#[]⟩ : ByteArray), (⟨#[]⟩ : ByteArray), 0⟩ : S35)] : List (S35))) (inner := [.string (⟨#[97, 47, 98]⟩ : ByteArray), .int .i64 1, .int .i64 0, .int .i64 0, .int .i64 0, .int .i64 0, .int .i64 0, .int .i64 0, .string (⟨#[]⟩ : ByteArray), .string (⟨#[]⟩ : ByteArray), .int .i64 0]) (ok := fun _ => True) (okp := fun _ => True) ?hr ?hp (fun _ hk => hk) trivial (Below.refl _ _) (Nat.le_refl _) (by simp) ?_; (case hd => rfl); (case hg => rfl); (case hr => first | (go_simp; done) | (go_simp; rfl)); (case hp => exact (Reps.front (show Kd.M k35 _ _ _ (⟨(⟨#[97, 47, 98]⟩ : ByteArray), 1, 0, (⟨0, 0, 0, 0, 0⟩ : S33), (⟨#[]⟩ : ByteArray), (⟨#[]⟩ : ByteArray), 0⟩ : S35) [.string (⟨#[97, 47, 98]⟩ : ByteArray), .int .i64 1, .int .i64 0, .int .i64 0, .int .i64 0, .int .i64 0, .int .i64 0, .int .i64 0, .string (⟨#[]⟩ : ByteArray), .string (⟨#[]⟩ : ByteArray), .int .i64 0] from (k35_mkM _ _ _ (⟨(⟨#[97, 47, 98]⟩ : ByteArray), 1, 0, (⟨0, 0, 0, 0, 0⟩ : S33), (⟨#[]⟩ : ByteArray), (⟨#[]⟩ : ByteArray), 0⟩ : S35) )) rfl (Reps.none _ _) rfl)); intro v113 w14 ho15 hb hg_ hnew_; clear hg_ hnew_; (first | rw [← Ny112.out] at ho15 | (simp only [Int.reduceToNat] at ho15; rw [← Ny112.out] at ho15)); have n0_ := Aside0.mk (Kd.R_elder' (upR HO103.out) (Kd.R_base ho15) hb); have n1_ := Aside0.mk (Kd.R_below (upR HO107.out) hb); have n2_ := Aside0.mk (Kd.R_lower (Kd.R_new' ho15 (Kd.R_lt (upR HO103.out))) (below_size (upB HB.out))); have n3_ := Aside0.mk (Kd.C_below (by repeat (first | (with_reducible exact HR111.out) | (with_reducible refine Kd.C_alloc ?_ _) | (with_reducible refine Kd.C_drewN ?_ _) | (with_reducible refine Kd.C_drew ?_) | exact HR111.out)) hb); have n4_ := Aside0.mk (below_step (upB HB.out) hb); clear HO103; clear HO107; clear HR111; clear HB; have HO103 := n0_; have HO107 := n1_; have HO114 := n2_; have HR111 := n3_; have HB := n4_; clear n0_ n1_ n2_ n3_ n4_; clear hb ho15; obtain ⟨Ao16, co16, eo16⟩ := Kd.R_slice HO114.out; subst eo16) | (go_at_call 12; (with_reducible refine (flist_Check.calls _ _ y112 t115 _ ?side1 ?side2 A6.out).mono ?_); (case side1 => repeat (first | exact (Kd.R_reads' HO114.out).2.2 | (with_reducible refine Kd.C_alloc ?_ _) | (with_reducible refine Kd.C_drewN ?_ _) | (with_reducible refine Kd.C_drew ?_))); (case side2 => exact (Kd.R_reads' HO114.out).2.1); rintro e w17 ⟨rfl, hb⟩; have n0_ := Aside0.mk (Kd.R_below (upR HO103.out) hb); have n1_ := Aside0.mk (Kd.R_below (upR HO107.out) hb); have n2_ := Aside0.mk (Kd.R_below (upR HO114.out) hb); have n3_ := Aside0.mk (Kd.C_below (by repeat (first | (with_reducible exact HR111.out) | (with_reducible refine Kd.C_alloc ?_ _) | (with_reducible refine Kd.C_drewN ?_ _) | (with_reducible refine Kd.C_drew ?_) | exact HR111.out)) hb); have n4_ := Aside0.mk (below_step (upB HB.out) hb); clear HO103; clear HO107; clear HO114; clear HR111; clear HB; have HO103 := n0_; have HO107 := n1_; have HO114 := n2_; have HR111 := n3_; have HB := n4_; clear n0_ n1_ n2_ n3_ n4_; (try clear hb); (try clear hb2); (try clear hk); (try clear hi)))
     go_ret
     exact ⟨by first | rfl | (simp [errW_none, errW_some] <;> rfl) | (simp [*, errW_none, errW_some] <;> rfl), upB HB.out⟩
    rw [if_neg c5] at H
    have c5b0 : ((strOfNums y108).toList == ([1, 0, 1, 97, 1, 3] : List UInt8)) = false := beq_eq_false_iff_ne.mpr c5
    have c5b1 : ((strOfNums y108).toList != ([1, 0, 1, 97, 1, 3] : List UInt8)) = true := bne_iff_ne.mpr c5
    obtain rfl := Option.some.inj H
    go_enter Tryd.func11, Tryd.ntmps11
    go_wp2_with (first | ((with_reducible refine gate_dst (N := 5) rfl ?_); (try (refine gate_guard (by rfl) ?_; dsimp only)); refine Kd.R_lit k35 _ 35 ?hg (N := 5) ?hd (xs := ([(⟨(⟨#[97]⟩ : ByteArray), 1, 3, (⟨0, 0, 0, 0, 0⟩ : S33), (⟨#[]⟩ : ByteArray), (⟨#[]⟩ : ByteArray), 0⟩ : S35)] : List (S35))) (inner := [.string (⟨#[97]⟩ : ByteArray), .int .i64 1, .int .i64 3, .int .i64 0, .int .i64 0, .int .i64 0, .int .i64 0, .int .i64 0, .string (⟨#[]⟩ : ByteArray), .string (⟨#[]⟩ : ByteArray), .int .i64 0]) (ok := fun _ => True) (okp := fun _ => True) ?hr ?hp (fun _ hk => hk) trivial (Below.refl _ _) (Nat.le_refl _) (by simp) ?_; (case hd => rfl); (case hg => rfl); (case hr => first | (go_simp; done) | (go_simp; rfl)); (case hp => exact (Reps.front (show Kd.M k35 _ _ _ (⟨(⟨#[97]⟩ : ByteArray), 1, 3, (⟨0, 0, 0, 0, 0⟩ : S33), (⟨#[]⟩ : ByteArray), (⟨#[]⟩ : ByteArray), 0⟩ : S35) [.string (⟨#[97]⟩ : ByteArray), .int .i64 1, .int .i64 3, .int .i64 0, .int .i64 0, .int .i64 0, .int .i64 0, .int .i64 0, .string (⟨#[]⟩ : ByteArray), .string (⟨#[]⟩ : ByteArray), .int .i64 0] from (k35_mkM _ _ _ (⟨(⟨#[97]⟩ : ByteArray), 1, 3, (⟨0, 0, 0, 0, 0⟩ : S33), (⟨#[]⟩ : ByteArray), (⟨#[]⟩ : ByteArray), 0⟩ : S35) )) rfl (Reps.none _ _) rfl)); intro v102 w18 ho19 hb hg_ hnew_; clear hg_ hnew_; (first | rw [← Ny101.out] at ho19 | (simp only [Int.reduceToNat] at ho19; rw [← Ny101.out] at ho19)); have n0_ := Aside0.mk (Kd.R_lower ho19 (below_size (upB HB.out))); have n1_ := Aside0.mk (below_step (upB HB.out) hb); clear HB; have HO103 := n0_; have HB := n1_; clear n0_ n1_; clear hb ho19; obtain ⟨Ao20, co20, eo20⟩ := Kd.R_slice HO103.out; subst eo20) | ((with_reducible refine gate_callee (f := 14) rfl ?_); refine goesL_ (some 6) rfl rfl Tryd.func14 (by kernel_rfl) rfl #[.slice Ao20 y101.length co20] rfl (by (try simp only [List.map_toArray, List.map_cons, List.map_nil]); first | done | rfl | (simp only [List.length_drop, List.length_take]; rfl)) ?_; (with_reducible refine (flist_Bytes.calls k _ _ y101 t104 t105 _ ?side1 ?side2 A1.out ?sideT).mono ?_); (case sideT => exact HT.out.step (upB HB.out)); (case side1 => repeat (first | exact (Kd.R_reads' HO103.out).2.2 | (with_reducible refine Kd.C_alloc ?_ _) | (with_reducible refine Kd.C_drewN ?_ _) | (with_reducible refine Kd.C_drew ?_))); (case side2 => exact (Kd.R_reads' HO103.out).2.1); rintro e w21 ⟨v106, rfl, ho0, hb⟩; refine ⟨_, rfl, ?_⟩; have n0_ := Aside0.mk (Kd.R_below (upR HO103.out) hb); have n1_ := Aside0.mk (Kd.R_lower ho0 (below_size (upB HB.out))); have n2_ := Aside0.mk (below_step (upB HB.out) hb); clear HO103; clear HB; have HO103 := n0_; have HO107 := n1_; have HB := n2_; clear n0_ n1_ n2_; (try clear hb); (try clear hb2); (try clear hk); (try clear hi); (try clear ho0); obtain ⟨Ao22, co22, eo22⟩ := Kd.R_slice HO107.out; subst eo22; have q23 : (6 : Int) ≤ ((t104.length : Int) : Int) := of_decide_eq_true (by first | (with_reducible assumption) | assumption); obtain ⟨i023, hi023, _, hsz23, _⟩ := info_parts info5; have hroom23 : t104.length ≤ co22 := (Kd.R_reads' HO107.out).2.1; have hC23 : Kd.C (Kd.int .u8) _ Ao22 t104.length t104 := (Kd.R_reads' HO107.out).2.2; have hcut23 := cut_to (P := Tryd.prog) 27 5 .i64 Tryd.underlying27 hi023 Ao22 t104.length co22 6 (by omega) q23 hroom23; have hr23 := Kd.C_take (m := 6) hC23 (by omega); have hy23 : y108.length = (6 : Int).toNat := (by rw [Ny108.out, List.length_take]; omega); rw [← Ny108.out] at hr23; rw [← hy23] at hcut23; have HR111 := Aside0.mk hr23; have HC111 := Aside0.mk (show y108.length ≤ co22 from by omega); clear hr23 hC23 hroom23 hi023 hsz23; have KY23 := Aside0.mk hy23; clear hy23; have KL23 := Aside0.mk (show 6 ≤ t104.length from by omega); replace q23 := eq_true q23; have hcv24 := Kd.C_string (P := Tryd.prog) (A := Ao22) (c := co22) Tryd.underlying27 Tryd.underlying5 Tryd.underlying9 (by repeat (first | (with_reducible exact HR111.out) | (with_reducible refine Kd.C_alloc ?_ _) | (with_reducible refine Kd.C_drewN ?_ _) | (with_reducible refine Kd.C_drew ?_) | exact HR111.out))))
    go_ret
    exact ⟨by first | rfl | (simp [errW_none, errW_some] <;> rfl) | (simp [*, errW_none, errW_some] <;> rfl), upB HB.out⟩
   rw [if_neg c4] at H
   exact absurd H (by simp)
  rw [if_neg c3] at H
  have c3b0 : ((t104.length : Int) == 16) = false := beq_eq_false_iff_ne.mpr c3
  have c3b1 : ((t104.length : Int) != 16) = true := bne_iff_ne.mpr c3
  obtain rfl := Option.some.inj H
  go_enter Tryd.func11, Tryd.ntmps11
  go_wp2_with (first | ((with_reducible refine gate_dst (N := 5) rfl ?_); (try (refine gate_guard (by rfl) ?_; dsimp only)); refine Kd.R_lit k35 _ 35 ?hg (N := 5) ?hd (xs := ([(⟨(⟨#[97]⟩ : ByteArray), 1, 3, (⟨0, 0, 0, 0, 0⟩ : S33), (⟨#[]⟩ : ByteArray), (⟨#[]⟩ : ByteArray), 0⟩ : S35)] : List (S35))) (inner := [.string (⟨#[97]⟩ : ByteArray), .int .i64 1, .int .i64 3, .int .i64 0, .int .i64 0, .int .i64 0, .int .i64 0, .int .i64 0, .string (⟨#[]⟩ : ByteArray), .string (⟨#[]⟩ : ByteArray), .int .i64 0]) (ok := fun _ => True) (okp := fun _ => True) ?hr ?hp (fun _ hk => hk) trivial (Below.refl _ _) (Nat.le_refl _) (by simp) ?_; (case hd => rfl); (case hg => rfl); (case hr => first | (go_simp; done) | (go_simp; rfl)); (case hp => exact (Reps.front (show Kd.M k35 _ _ _ (⟨(⟨#[97]⟩ : ByteArray), 1, 3, (⟨0, 0, 0, 0, 0⟩ : S33), (⟨#[]⟩ : ByteArray), (⟨#[]⟩ : ByteArray), 0⟩ : S35) [.string (⟨#[97]⟩ : ByteArray), .int .i64 1, .int .i64 3, .int .i64 0, .int .i64 0, .int .i64 0, .int .i64 0, .int .i64 0, .string (⟨#[]⟩ : ByteArray), .string (⟨#[]⟩ : ByteArray), .int .i64 0] from (k35_mkM _ _ _ (⟨(⟨#[97]⟩ : ByteArray), 1, 3, (⟨0, 0, 0, 0, 0⟩ : S33), (⟨#[]⟩ : ByteArray), (⟨#[]⟩ : ByteArray), 0⟩ : S35) )) rfl (Reps.none _ _) rfl)); intro v102 w25 ho26 hb hg_ hnew_; clear hg_ hnew_; (first | rw [← Ny101.out] at ho26 | (simp only [Int.reduceToNat] at ho26; rw [← Ny101.out] at ho26)); have n0_ := Aside0.mk (Kd.R_lower ho26 (below_size (upB HB.out))); have n1_ := Aside0.mk (below_step (upB HB.out) hb); clear HB; have HO103 := n0_; have HB := n1_; clear n0_ n1_; clear hb ho26; obtain ⟨Ao27, co27, eo27⟩ := Kd.R_slice HO103.out; subst eo27) | ((with_reducible refine gate_callee (f := 14) rfl ?_); refine goesL_ (some 6) rfl rfl Tryd.func14 (by kernel_rfl) rfl #[.slice Ao27 y101.length co27] rfl (by (try simp only [List.map_toArray, List.map_cons, List.map_nil]); first | done | rfl | (simp only [List.length_drop, List.length_take]; rfl)) ?_; (with_reducible refine (flist_Bytes.calls k _ _ y101 t104 t105 _ ?side1 ?side2 A1.out ?sideT).mono ?_); (case sideT => exact HT.out.step (upB HB.out)); (case side1 => repeat (first | exact (Kd.R_reads' HO103.out).2.2 | (with_reducible refine Kd.C_alloc ?_ _) | (with_reducible refine Kd.C_drewN ?_ _) | (with_reducible refine Kd.C_drew ?_))); (case side2 => exact (Kd.R_reads' HO103.out).2.1); rintro e w28 ⟨v106, rfl, ho0, hb⟩; refine ⟨_, rfl, ?_⟩; have n0_ := Aside0.mk (Kd.R_below (upR HO103.out) hb); have n1_ := Aside0.mk (Kd.R_lower ho0 (below_size (upB HB.out))); have n2_ := Aside0.mk (below_step (upB HB.out) hb); clear HO103; clear HB; have HO103 := n0_; have HO107 := n1_; have HB := n2_; clear n0_ n1_ n2_; (try clear hb); (try clear hb2); (try clear hk); (try clear hi); (try clear ho0); obtain ⟨Ao29, co29, eo29⟩ := Kd.R_slice HO107.out; subst eo29))
  go_ret
  exact ⟨by first | rfl | (simp [errW_none, errW_some] <;> rfl) | (simp [*, errW_none, errW_some] <;> rfl), upB HB.out⟩
 rw [if_neg c2] at H
 have c2b0 : (t105 == 0) = false := beq_eq_false_iff_ne.mpr c2
 have c2b1 : (t105 != 0) = true := bne_iff_ne.mpr c2
 obtain rfl := Option.some.inj H
 go_enter Tryd.func11, Tryd.ntmps11
 go_wp2_with (first | ((with_reducible refine gate_dst (N := 5) rfl ?_); (try (refine gate_guard (by rfl) ?_; dsimp only)); refine Kd.R_lit k35 _ 35 ?hg (N := 5) ?hd (xs := ([(⟨(⟨#[97]⟩ : ByteArray), 1, 3, (⟨0, 0, 0, 0, 0⟩ : S33), (⟨#[]⟩ : ByteArray), (⟨#[]⟩ : ByteArray), 0⟩ : S35)] : List (S35))) (inner := [.string (⟨#[97]⟩ : ByteArray), .int .i64 1, .int .i64 3, .int .i64 0, .int .i64 0, .int .i64 0, .int .i64 0, .int .i64 0, .string (⟨#[]⟩ : ByteArray), .string (⟨#[]⟩ : ByteArray), .int .i64 0]) (ok := fun _ => True) (okp := fun _ => True) ?hr ?hp (fun _ hk => hk) trivial (Below.refl _ _) (Nat.le_refl _) (by simp) ?_; (case hd => rfl); (case hg => rfl); (case hr => first | (go_simp; done) | (go_simp; rfl)); (case hp => exact (Reps.front (show Kd.M k35 _ _ _ (⟨(⟨#[97]⟩ : ByteArray), 1, 3, (⟨0, 0, 0, 0, 0⟩ : S33), (⟨#[]⟩ : ByteArray), (⟨#[]⟩ : ByteArray), 0⟩ : S35) [.string (⟨#[97]⟩ : ByteArray), .int .i64 1, .int .i64 3, .int .i64 0, .int .i64 0, .int .i64 0, .int .i64 0, .int .i64 0, .string (⟨#[]⟩ : ByteArray), .string (⟨#[]⟩ : ByteArray), .int .i64 0] from (k35_mkM _ _ _ (⟨(⟨#[97]⟩ : ByteArray), 1, 3, (⟨0, 0, 0, 0, 0⟩ : S33), (⟨#[]⟩ : ByteArray), (⟨#[]⟩ : ByteArray), 0⟩ : S35) )) rfl (Reps.none _ _) rfl)); intro v102 w30 ho31 hb hg_ hnew_; clear hg_ hnew_; (first | rw [← Ny101.out] at ho31 | (simp only [Int.reduceToNat] at ho31; rw [← Ny101.out] at ho31)); have n0_ := Aside0.mk (Kd.R_lower ho31 (below_size (upB HB.out))); have n1_ := Aside0.mk (below_step (upB HB.out) hb); clear HB; have HO103 := n0_; have HB := n1_; clear n0_ n1_; clear hb ho31; obtain ⟨Ao32, co32, eo32⟩ := Kd.R_slice HO103.out; subst eo32) | ((with_reducible refine gate_callee (f := 14) rfl ?_); refine goesL_ (some 6) rfl rfl Tryd.func14 (by kernel_rfl) rfl #[.slice Ao32 y101.length co32] rfl (by (try simp only [List.map_toArray, List.map_cons, List.map_nil]); first | done | rfl | (simp only [List.length_drop, List.length_take]; rfl)) ?_; (with_reducible refine (flist_Bytes.calls k _ _ y101 t104 t105 _ ?side1 ?side2 A1.out ?sideT).mono ?_); (case sideT => exact HT.out.step (upB HB.out)); (case side1 => repeat (first | exact (Kd.R_reads' HO103.out).2.2 | (with_reducible refine Kd.C_alloc ?_ _) | (with_reducible refine Kd.C_drewN ?_ _) | (with_reducible refine Kd.C_drew ?_))); (case side2 => exact (Kd.R_reads' HO103.out).2.1); rintro e w33 ⟨v106, rfl, ho0, hb⟩; refine ⟨_, rfl, ?_⟩; have n0_ := Aside0.mk (Kd.R_below (upR HO103.out) hb); have n1_ := Aside0.mk (Kd.R_lower ho0 (below_size (upB HB.out))); have n2_ := Aside0.mk (below_step (upB HB.out) hb); clear HO103; clear HB; have HO103 := n0_; have HO107 := n1_; have HB := n2_; clear n0_ n1_ n2_; (try clear hb); (try clear hb2); (try clear hk); (try clear hi); (try clear ho0)))
 go_ret
 exact ⟨by first | rfl | (simp [errW_none, errW_some] <;> rfl) | (simp [*, errW_none, errW_some] <;> rfl), upB HB.out⟩
set_option linter.unusedVariables false
set_option linter.unusedSimpArgs false
def remoraref20_Below.l0 : Nat → List (S35) → ByteArray → List (S35) → Int → Option ((List (S35)))
 | 0, _, _, _, _ => none
 | k + 1, x0, x1, x5, x6 => if x6 < (x0.length : Int) then (if x1.toList = ([] : List UInt8) then (if 0 ≤ x6 then (if x5.length < 1256584717458 then (remoraref20_Below.l0 k x0 x1 (x5 ++ [(⟨(rd_T35 x0 x6).f0, (rd_T35 x0 x6).f1, (rd_T35 x0 x6).f2, (⟨(rd_T35 x0 x6).f3.f0, (rd_T35 x0 x6).f3.f1, (rd_T35 x0 x6).f3.f2, (rd_T35 x0 x6).f3.f3, (rd_T35 x0 x6).f3.f4⟩ : S33), (rd_T35 x0 x6).f4, (rd_T35 x0 x6).f5, (rd_T35 x0 x6).f6⟩ : S35)]) (wrap64 (x6 + 1))) else (none)) else (none)) else (if 0 ≤ x6 then ((remoraref13_Under.f k ((rd_T35 x0 x6).f0) x1).bind fun t106 => (if t106 = true then (if ((rd_T35 x0 x6).f0).toList = x1.toList then (remoraref20_Below.l0 k x0 x1 x5 (wrap64 (x6 + 1))) else (if x5.length < 1256584717458 then (remoraref20_Below.l0 k x0 x1 (x5 ++ [(⟨(rd_T35 x0 x6).f0, (rd_T35 x0 x6).f1, (rd_T35 x0 x6).f2, (⟨(rd_T35 x0 x6).f3.f0, (rd_T35 x0 x6).f3.f1, (rd_T35 x0 x6).f3.f2, (rd_T35 x0 x6).f3.f3, (rd_T35 x0 x6).f3.f4⟩ : S33), (rd_T35 x0 x6).f4, (rd_T35 x0 x6).f5, (rd_T35 x0 x6).f6⟩ : S35)]) (wrap64 (x6 + 1))) else (none))) else (remoraref20_Below.l0 k x0 x1 x5 (wrap64 (x6 + 1))))) else (none))) else (some x5)
def remoraref20_Below.f (k : Nat) (l0 : List (S35)) (a1 : ByteArray) : Option ((List (S35))) := remoraref20_Below.l0 k l0 a1 ([] : List (S35)) 0
set_option maxHeartbeats 8000000 in
set_option maxRecDepth 100000 in
theorem remoraref20_Below.calls (k : Nat) (A0 : Option Addr) (c0 : Nat) (l0 : List (S35)) (a1 : ByteArray) (r : List (S35)) (w : World) (hr0 : Kd.C k35 w A0 l0.length l0) (hc0 : l0.length ≤ c0) (h : remoraref20_Below.f k l0 a1 = some r) :
  Calls Tryd.prog 26 #[.slice A0 l0.length c0, .string a1] w fun e w' => ∃ v0_ : Value, e = .returned (v0_) ∧ Kd.R k35 35 w' w.heap.size (fun _ => True) v0_ r ∧ Below w.heap.size w w' := by
 have hu35 := Tryd.underlying35
 have HR0 := Aside0.mk hr0
 have HC0 := Aside0.mk hc0
 clear hr0 hc0
 have HB := Aside0.mk (Below.refl w.heap.size w)
 have H : (remoraref20_Below.l0 k l0 a1 ([] : List (S35)) 0) = some r := h
 clear h
 have H' := Aside0.mk H
 clear H
 go_enter Tryd.func26, Tryd.ntmps26
 go_wp2
 go_loopg [5, 6] k (fun kq v5 v6 w' => ∃ (x5_1 : List (S35)) (x6_1 : Int), v6 = .int .i64 x6_1 ∧ Aside0 (remoraref20_Below.l0 kq l0 a1 x5_1 x6_1 = some r) ∧ Aside0 (kq ≤ k) ∧ Aside0 (Kd.R k35 35 w' w.heap.size (fun _ => True) v5 x5_1) ∧ Aside0 (Below w.heap.size w w'))
 case atStart => exact ⟨(([] : List (S35))), (0), (by first | rfl | (simp; done) | (simp [*]; done)), H', ⟨Nat.le_refl _⟩, ⟨by first | exact Kd.R_nil _ _ _ _ _ | exact Kd.N_nil _ _ _ _ _ | exact Kd.V_nil _ _ _ _ _ | exact Kd.Q_nil _ _ _ _ _ | exact Kd.S_nil _ _ _ _ _⟩, ⟨upB HB.out⟩⟩
 case round =>
  clear H'
  try clear c2
  try clear p2
  obtain ⟨x5_1, x6_1, rfl, HA, HK1, HO_5, HB⟩ := hrel
  cases gk with
  | zero => exact absurd HA.out (by simp [remoraref20_Below.l0])
  | succ k1 =>
   have H := HA.out
   clear HA
   simp only [remoraref20_Below.l0] at H
   by_cases c3 : x6_1 < (l0.length : Int)
   ·rw [if_pos c3] at H
    have c3b0 : decide (x6_1 < (l0.length : Int)) = true := decide_eq_true c3
    clear c3
    by_cases c4 : a1.toList = ([] : List UInt8)
    ·rw [if_pos c4] at H
     have c4b0 : (a1.toList == ([] : List UInt8)) = true := beq_iff_eq.mpr c4
     have c4b1 : (a1.toList != ([] : List UInt8)) = false := bne_eq_false_iff_eq.mpr c4
     clear c4
     by_cases c5 : 0 ≤ x6_1
     ·rw [if_pos c5] at H
      have c5b0 : decide (0 ≤ x6_1) = true := decide_eq_true c5
      clear c5
      by_cases c6 : x5_1.length < 1256584717458
      ·rw [if_pos c6] at H
       have LMc6 := Aside0.mk c6
       clear c6
       obtain ⟨y102, hy102⟩ : ∃ y_ : List (S35), y_ = (x5_1 ++ [(⟨(rd_T35 l0 x6_1).f0, (rd_T35 l0 x6_1).f1, (rd_T35 l0 x6_1).f2, (⟨(rd_T35 l0 x6_1).f3.f0, (rd_T35 l0 x6_1).f3.f1, (rd_T35 l0 x6_1).f3.f2, (rd_T35 l0 x6_1).f3.f3, (rd_T35 l0 x6_1).f3.f4⟩ : S33), (rd_T35 l0 x6_1).f4, (rd_T35 l0 x6_1).f5, (rd_T35 l0 x6_1).f6⟩ : S35)]) := ⟨_, rfl⟩
       replace H : (remoraref20_Below.l0 k1 l0 a1 y102 (wrap64 (x6_1 + 1))) = some r := by first | (rw [hy102]; with_reducible exact H) | (have H2_ := (Option.bind_some _ _).symm.trans H; rw [hy102]; with_reducible exact H2_) | (have H2_ := (Option.bind_some _ _).symm.trans H; with_reducible exact H2_) | with_reducible exact H | (rw [hy102]; exact H) | exact H
       have Ny102 := Aside0.mk hy102
       clear hy102
       have H' := Aside0.mk H
       clear H
       have p101 : 0 ≤ (x6_1 : Int) := of_decide_eq_true (by first | (with_reducible assumption) | assumption)
       have q101 : x6_1 < (l0.length : Int) := of_decide_eq_true (by first | (with_reducible assumption) | assumption)
       obtain ⟨ad101, e101, hx101_0, hx101_1, hx101_2, hx101_3, hx101_4, hx101_5, hx101_6, hx101_7, hx101_8, hx101_9, hx101_10⟩ := at_T35 HR0.out x6_1 p101 q101
       cases e101
       replace hx101_0 := (HB.out.cell (World.block_lt_of_cell? w _ hx101_0)).trans hx101_0
       replace hx101_1 := (HB.out.cell (World.block_lt_of_cell? w _ hx101_1)).trans hx101_1
       replace hx101_2 := (HB.out.cell (World.block_lt_of_cell? w _ hx101_2)).trans hx101_2
       replace hx101_3 := (HB.out.cell (World.block_lt_of_cell? w _ hx101_3)).trans hx101_3
       replace hx101_4 := (HB.out.cell (World.block_lt_of_cell? w _ hx101_4)).trans hx101_4
       replace hx101_5 := (HB.out.cell (World.block_lt_of_cell? w _ hx101_5)).trans hx101_5
       replace hx101_6 := (HB.out.cell (World.block_lt_of_cell? w _ hx101_6)).trans hx101_6
       replace hx101_7 := (HB.out.cell (World.block_lt_of_cell? w _ hx101_7)).trans hx101_7
       replace hx101_8 := (HB.out.cell (World.block_lt_of_cell? w _ hx101_8)).trans hx101_8
       replace hx101_9 := (HB.out.cell (World.block_lt_of_cell? w _ hx101_9)).trans hx101_9
       replace hx101_10 := (HB.out.cell (World.block_lt_of_cell? w _ hx101_10)).trans hx101_10
       replace p101 := eq_true p101
       replace q101 := eq_true q101
       go_wp2_with (first | ((with_reducible refine gate_builtin (b := .append) (xs := #[.tmp 33, .tmp 38]) rfl ?_); at_builtin; refine Kd.R_append k35 (w0 := w) w.heap.size rfl (.tmp 33) (.tmp 38) 22 35 (.agg #[(.string ⟨#[]⟩), (.int .i64 0), (.int .i64 0), (.int .i64 0), (.int .i64 0), (.int .i64 0), (.int .i64 0), (.int .i64 0), (.string ⟨#[]⟩), (.string ⟨#[]⟩), (.int .i64 0)]) 112 rfl Tryd.underlying22 info35 rfl (by decide) (by omega) u5 x5_1 (⟨(rd_T35 l0 x6_1).f0, (rd_T35 l0 x6_1).f1, (rd_T35 l0 x6_1).f2, (⟨(rd_T35 l0 x6_1).f3.f0, (rd_T35 l0 x6_1).f3.f1, (rd_T35 l0 x6_1).f3.f2, (rd_T35 l0 x6_1).f3.f3, (rd_T35 l0 x6_1).f3.f4⟩ : S33), (rd_T35 l0 x6_1).f4, (rd_T35 l0 x6_1).f5, (rd_T35 l0 x6_1).f6⟩ : S35) [.string ((rd_T35 l0 x6_1).f0), .int .i64 ((rd_T35 l0 x6_1).f1), .int .i64 ((rd_T35 l0 x6_1).f2), .int .i64 ((rd_T35 l0 x6_1).f3.f0), .int .i64 ((rd_T35 l0 x6_1).f3.f1), .int .i64 ((rd_T35 l0 x6_1).f3.f2), .int .i64 ((rd_T35 l0 x6_1).f3.f3), .int .i64 ((rd_T35 l0 x6_1).f3.f4), .string ((rd_T35 l0 x6_1).f4), .string ((rd_T35 l0 x6_1).f5), .int .i64 ((rd_T35 l0 x6_1).f6)] (fun _ => True) (fun _ => False) rfl rfl ?aP (fun _ hk => hk.elim) ?aF ?aO ?aB ?aS ?aL ?_; (case aP => exact k35_mkM _ _ _ (⟨(rd_T35 l0 x6_1).f0, (rd_T35 l0 x6_1).f1, (rd_T35 l0 x6_1).f2, (⟨(rd_T35 l0 x6_1).f3.f0, (rd_T35 l0 x6_1).f3.f1, (rd_T35 l0 x6_1).f3.f2, (rd_T35 l0 x6_1).f3.f3, (rd_T35 l0 x6_1).f3.f4⟩ : S33), (rd_T35 l0 x6_1).f4, (rd_T35 l0 x6_1).f5, (rd_T35 l0 x6_1).f6⟩ : S35)); (case aB => exact (upB HB.out)); (case aF => exact (fun _ _ => trivial)); (case aO => exact (upR HO_5.out)); (case aS => exact (below_size (upB HB.out))); (case aL => have := LMc6.out; omega); intro v103 w7 ho hb hg hat; rw [← Ny102.out] at ho; have n0_ := Aside0.mk (hb); have n1_ := Aside0.mk (ho); clear HB; clear HO_5; have HB := n0_; have HO104 := n1_; clear n0_ n1_; clear ho hb hg hat))
       go_roundg k1
       case measure => have := HK1.out; omega
       case rel => exact ⟨(y102), (wrap64 (x6_1 + 1)), (by first | rfl | (simp; done) | (simp [*]; done)), H', ⟨by have := HK1.out; omega⟩, ⟨upR HO104.out⟩, ⟨upB HB.out⟩⟩
      rw [if_neg c6] at H
      exact absurd H (by simp)
     rw [if_neg c5] at H
     exact absurd H (by simp)
    rw [if_neg c4] at H
    have c4b0 : (a1.toList == ([] : List UInt8)) = false := beq_eq_false_iff_ne.mpr c4
    have c4b1 : (a1.toList != ([] : List UInt8)) = true := bne_iff_ne.mpr c4
    by_cases c8 : 0 ≤ x6_1
    ·rw [if_pos c8] at H
     have c8b0 : decide (0 ≤ x6_1) = true := decide_eq_true c8
     clear c8
     replace H := Option.bind_eq_some_iff.mp H
     obtain ⟨t106, A90, H⟩ := H
     replace H : (if t106 = true then (if ((rd_T35 l0 x6_1).f0).toList = a1.toList then (remoraref20_Below.l0 k1 l0 a1 x5_1 (wrap64 (x6_1 + 1))) else (if x5_1.length < 1256584717458 then (remoraref20_Below.l0 k1 l0 a1 (x5_1 ++ [(⟨(rd_T35 l0 x6_1).f0, (rd_T35 l0 x6_1).f1, (rd_T35 l0 x6_1).f2, (⟨(rd_T35 l0 x6_1).f3.f0, (rd_T35 l0 x6_1).f3.f1, (rd_T35 l0 x6_1).f3.f2, (rd_T35 l0 x6_1).f3.f3, (rd_T35 l0 x6_1).f3.f4⟩ : S33), (rd_T35 l0 x6_1).f4, (rd_T35 l0 x6_1).f5, (rd_T35 l0 x6_1).f6⟩ : S35)]) (wrap64 (x6_1 + 1))) else (none))) else (remoraref20_Below.l0 k1 l0 a1 x5_1 (wrap64 (x6_1 + 1)))) = some r := H
     have A9 := Aside0.mk A90
     clear A90
     by_cases c10 : t106 = true
     ·subst c10
      have H1 : (if ((rd_T35 l0 x6_1).f0).toList = a1.toList then (remoraref20_Below.l0 k1 l0 a1 x5_1 (wrap64 (x6_1 + 1))) else (if x5_1.length < 1256584717458 then (remoraref20_Below.l0 k1 l0 a1 (x5_1 ++ [(⟨(rd_T35 l0 x6_1).f0, (rd_T35 l0 x6_1).f1, (rd_T35 l0 x6_1).f2, (⟨(rd_T35 l0 x6_1).f3.f0, (rd_T35 l0 x6_1).f3.f1, (rd_T35 l0 x6_1).f3.f2, (rd_T35 l0 x6_1).f3.f3, (rd_T35 l0 x6_1).f3.f4⟩ : S33), (rd_T35 l0 x6_1).f4, (rd_T35 l0 x6_1).f5, (rd_T35 l0 x6_1).f6⟩ : S35)]) (wrap64 (x6_1 + 1))) else (none))) = some r := by rw [if_pos rfl] at H; exact H
      clear H
      have H := H1
      clear H1
      by_cases c11 : ((rd_T35 l0 x6_1).f0).toList = a1.toList
      ·rw [if_pos c11] at H
       have c11b0 : (((rd_T35 l0 x6_1).f0).toList == a1.toList) = true := beq_iff_eq.mpr c11
       have c11b1 : (((rd_T35 l0 x6_1).f0).toList != a1.toList) = false := bne_eq_false_iff_eq.mpr c11
       clear c11
       have H' := Aside0.mk H
       clear H
       have p105 : 0 ≤ (x6_1 : Int) := of_decide_eq_true (by first | (with_reducible assumption) | assumption)
       have q105 : x6_1 < (l0.length : Int) := of_decide_eq_true (by first | (with_reducible assumption) | assumption)
       obtain ⟨ad105, e105, hx105_0, hx105_1, hx105_2, hx105_3, hx105_4, hx105_5, hx105_6, hx105_7, hx105_8, hx105_9, hx105_10⟩ := at_T35 HR0.out x6_1 p105 q105
       cases e105
       replace hx105_0 := (HB.out.cell (World.block_lt_of_cell? w _ hx105_0)).trans hx105_0
       replace hx105_1 := (HB.out.cell (World.block_lt_of_cell? w _ hx105_1)).trans hx105_1
       replace hx105_2 := (HB.out.cell (World.block_lt_of_cell? w _ hx105_2)).trans hx105_2
       replace hx105_3 := (HB.out.cell (World.block_lt_of_cell? w _ hx105_3)).trans hx105_3
       replace hx105_4 := (HB.out.cell (World.block_lt_of_cell? w _ hx105_4)).trans hx105_4
       replace hx105_5 := (HB.out.cell (World.block_lt_of_cell? w _ hx105_5)).trans hx105_5
       replace hx105_6 := (HB.out.cell (World.block_lt_of_cell? w _ hx105_6)).trans hx105_6
       replace hx105_7 := (HB.out.cell (World.block_lt_of_cell? w _ hx105_7)).trans hx105_7
       replace hx105_8 := (HB.out.cell (World.block_lt_of_cell? w _ hx105_8)).trans hx105_8
       replace hx105_9 := (HB.out.cell (World.block_lt_of_cell? w _ hx105_9)).trans hx105_9
       replace hx105_10 := (HB.out.cell (World.block_lt_of_cell? w _ hx105_10)).trans hx105_10
       replace p105 := eq_true p105
       replace q105 := eq_true q105
       go_wp2_with (first | (go_at_call 59; (with_reducible refine (remoraref13_Under.calls k1 ((rd_T35 l0 x6_1).f0) a1 true _ A9.out).mono ?_); rintro e w12 ⟨rfl, hb⟩; have n0_ := Aside0.mk (Kd.R_below (upR HO_5.out) hb); have n1_ := Aside0.mk (below_step (upB HB.out) hb); clear HO_5; clear HB; have HO_5 := n0_; have HB := n1_; clear n0_ n1_; (try clear hb); (try clear hb2); (try clear hk); (try clear hi); have p107 : 0 ≤ (x6_1 : Int) := of_decide_eq_true (by first | (with_reducible assumption) | assumption); have q107 : x6_1 < (l0.length : Int) := of_decide_eq_true (by first | (with_reducible assumption) | assumption); obtain ⟨ad107, e107, hx107_0, hx107_1, hx107_2, hx107_3, hx107_4, hx107_5, hx107_6, hx107_7, hx107_8, hx107_9, hx107_10⟩ := at_T35 HR0.out x6_1 p107 q107; obtain rfl : ad105 = ad107 := (by injection e107); replace hx107_0 := (HB.out.cell (World.block_lt_of_cell? w _ hx107_0)).trans hx107_0; replace hx107_1 := (HB.out.cell (World.block_lt_of_cell? w _ hx107_1)).trans hx107_1; replace hx107_2 := (HB.out.cell (World.block_lt_of_cell? w _ hx107_2)).trans hx107_2; replace hx107_3 := (HB.out.cell (World.block_lt_of_cell? w _ hx107_3)).trans hx107_3; replace hx107_4 := (HB.out.cell (World.block_lt_of_cell? w _ hx107_4)).trans hx107_4; replace hx107_5 := (HB.out.cell (World.block_lt_of_cell? w _ hx107_5)).trans hx107_5; replace hx107_6 := (HB.out.cell (World.block_lt_of_cell? w _ hx107_6)).trans hx107_6; replace hx107_7 := (HB.out.cell (World.block_lt_of_cell? w _ hx107_7)).trans hx107_7; replace hx107_8 := (HB.out.cell (World.block_lt_of_cell? w _ hx107_8)).trans hx107_8; replace hx107_9 := (HB.out.cell (World.block_lt_of_cell? w _ hx107_9)).trans hx107_9; replace hx107_10 := (HB.out.cell (World.block_lt_of_cell? w _ hx107_10)).trans hx107_10; replace p107 := eq_true p107; replace q107 := eq_true q107))
       go_roundg k1
       case measure => have := HK1.out; omega
       case rel => exact ⟨(x5_1), (wrap64 (x6_1 + 1)), (by first | rfl | (simp; done) | (simp [*]; done)), H', ⟨by have := HK1.out; omega⟩, ⟨upR HO_5.out⟩, ⟨upB HB.out⟩⟩
      rw [if_neg c11] at H
      have c11b0 : (((rd_T35 l0 x6_1).f0).toList == a1.toList) = false := beq_eq_false_iff_ne.mpr c11
      have c11b1 : (((rd_T35 l0 x6_1).f0).toList != a1.toList) = true := bne_iff_ne.mpr c11
      by_cases c13 : x5_1.length < 1256584717458
      ·rw [if_pos c13] at H
       have LMc13 := Aside0.mk c13
       clear c13
       obtain ⟨y109, hy109⟩ : ∃ y_ : List (S35), y_ = (x5_1 ++ [(⟨(rd_T35 l0 x6_1).f0, (rd_T35 l0 x6_1).f1, (rd_T35 l0 x6_1).f2, (⟨(rd_T35 l0 x6_1).f3.f0, (rd_T35 l0 x6_1).f3.f1, (rd_T35 l0 x6_1).f3.f2, (rd_T35 l0 x6_1).f3.f3, (rd_T35 l0 x6_1).f3.f4⟩ : S33), (rd_T35 l0 x6_1).f4, (rd_T35 l0 x6_1).f5, (rd_T35 l0 x6_1).f6⟩ : S35)]) := ⟨_, rfl⟩
       replace H : (remoraref20_Below.l0 k1 l0 a1 y109 (wrap64 (x6_1 + 1))) = some r := by first | (rw [hy109]; with_reducible exact H) | (have H2_ := (Option.bind_some _ _).symm.trans H; rw [hy109]; with_reducible exact H2_) | (have H2_ := (Option.bind_some _ _).symm.trans H; with_reducible exact H2_) | with_reducible exact H | (rw [hy109]; exact H) | exact H
       have Ny109 := Aside0.mk hy109
       clear hy109
       have H' := Aside0.mk H
       clear H
       have p105 : 0 ≤ (x6_1 : Int) := of_decide_eq_true (by first | (with_reducible assumption) | assumption)
       have q105 : x6_1 < (l0.length : Int) := of_decide_eq_true (by first | (with_reducible assumption) | assumption)
       obtain ⟨ad105, e105, hx105_0, hx105_1, hx105_2, hx105_3, hx105_4, hx105_5, hx105_6, hx105_7, hx105_8, hx105_9, hx105_10⟩ := at_T35 HR0.out x6_1 p105 q105
       cases e105
       replace hx105_0 := (HB.out.cell (World.block_lt_of_cell? w _ hx105_0)).trans hx105_0
       replace hx105_1 := (HB.out.cell (World.block_lt_of_cell? w _ hx105_1)).trans hx105_1
       replace hx105_2 := (HB.out.cell (World.block_lt_of_cell? w _ hx105_2)).trans hx105_2
       replace hx105_3 := (HB.out.cell (World.block_lt_of_cell? w _ hx105_3)).trans hx105_3
       replace hx105_4 := (HB.out.cell (World.block_lt_of_cell? w _ hx105_4)).trans hx105_4
       replace hx105_5 := (HB.out.cell (World.block_lt_of_cell? w _ hx105_5)).trans hx105_5
       replace hx105_6 := (HB.out.cell (World.block_lt_of_cell? w _ hx105_6)).trans hx105_6
       replace hx105_7 := (HB.out.cell (World.block_lt_of_cell? w _ hx105_7)).trans hx105_7
       replace hx105_8 := (HB.out.cell (World.block_lt_of_cell? w _ hx105_8)).trans hx105_8
       replace hx105_9 := (HB.out.cell (World.block_lt_of_cell? w _ hx105_9)).trans hx105_9
       replace hx105_10 := (HB.out.cell (World.block_lt_of_cell? w _ hx105_10)).trans hx105_10
       replace p105 := eq_true p105
       replace q105 := eq_true q105
       go_wp2_with (first | (go_at_call 59; (with_reducible refine (remoraref13_Under.calls k1 ((rd_T35 l0 x6_1).f0) a1 true _ A9.out).mono ?_); rintro e w14 ⟨rfl, hb⟩; have n0_ := Aside0.mk (Kd.R_below (upR HO_5.out) hb); have n1_ := Aside0.mk (below_step (upB HB.out) hb); clear HO_5; clear HB; have HO_5 := n0_; have HB := n1_; clear n0_ n1_; (try clear hb); (try clear hb2); (try clear hk); (try clear hi); have p107 : 0 ≤ (x6_1 : Int) := of_decide_eq_true (by first | (with_reducible assumption) | assumption); have q107 : x6_1 < (l0.length : Int) := of_decide_eq_true (by first | (with_reducible assumption) | assumption); obtain ⟨ad107, e107, hx107_0, hx107_1, hx107_2, hx107_3, hx107_4, hx107_5, hx107_6, hx107_7, hx107_8, hx107_9, hx107_10⟩ := at_T35 HR0.out x6_1 p107 q107; obtain rfl : ad105 = ad107 := (by injection e107); replace hx107_0 := (HB.out.cell (World.block_lt_of_cell? w _ hx107_0)).trans hx107_0; replace hx107_1 := (HB.out.cell (World.block_lt_of_cell? w _ hx107_1)).trans hx107_1; replace hx107_2 := (HB.out.cell (World.block_lt_of_cell? w _ hx107_2)).trans hx107_2; replace hx107_3 := (HB.out.cell (World.block_lt_of_cell? w _ hx107_3)).trans hx107_3; replace hx107_4 := (HB.out.cell (World.block_lt_of_cell? w _ hx107_4)).trans hx107_4; replace hx107_5 := (HB.out.cell (World.block_lt_of_cell? w _ hx107_5)).trans hx107_5; replace hx107_6 := (HB.out.cell (World.block_lt_of_cell? w _ hx107_6)).trans hx107_6; replace hx107_7 := (HB.out.cell (World.block_lt_of_cell? w _ hx107_7)).trans hx107_7; replace hx107_8 := (HB.out.cell (World.block_lt_of_cell? w _ hx107_8)).trans hx107_8; replace hx107_9 := (HB.out.cell (World.block_lt_of_cell? w _ hx107_9)).trans hx107_9; replace hx107_10 := (HB.out.cell (World.block_lt_of_cell? w _ hx107_10)).trans hx107_10; replace p107 := eq_true p107; replace q107 := eq_true q107; have p108 : 0 ≤ (x6_1 : Int) := of_decide_eq_true (by first | (with_reducible assumption) | assumption); have q108 : x6_1 < (l0.length : Int) := of_decide_eq_true (by first | (with_reducible assumption) | assumption); obtain ⟨ad108, e108, hx108_0, hx108_1, hx108_2, hx108_3, hx108_4, hx108_5, hx108_6, hx108_7, hx108_8, hx108_9, hx108_10⟩ := at_T35 HR0.out x6_1 p108 q108; obtain rfl : ad105 = ad108 := (by injection e108); replace hx108_0 := (HB.out.cell (World.block_lt_of_cell? w _ hx108_0)).trans hx108_0; replace hx108_1 := (HB.out.cell (World.block_lt_of_cell? w _ hx108_1)).trans hx108_1; replace hx108_2 := (HB.out.cell (World.block_lt_of_cell? w _ hx108_2)).trans hx108_2; replace hx108_3 := (HB.out.cell (World.block_lt_of_cell? w _ hx108_3)).trans hx108_3; replace hx108_4 := (HB.out.cell (World.block_lt_of_cell? w _ hx108_4)).trans hx108_4; replace hx108_5 := (HB.out.cell (World.block_lt_of_cell? w _ hx108_5)).trans hx108_5; replace hx108_6 := (HB.out.cell (World.block_lt_of_cell? w _ hx108_6)).trans hx108_6; replace hx108_7 := (HB.out.cell (World.block_lt_of_cell? w _ hx108_7)).trans hx108_7; replace hx108_8 := (HB.out.cell (World.block_lt_of_cell? w _ hx108_8)).trans hx108_8; replace hx108_9 := (HB.out.cell (World.block_lt_of_cell? w _ hx108_9)).trans hx108_9; replace hx108_10 := (HB.out.cell (World.block_lt_of_cell? w _ hx108_10)).trans hx108_10; replace p108 := eq_true p108; replace q108 := eq_true q108) | ((with_reducible refine gate_builtin (b := .append) (xs := #[.tmp 33, .tmp 38]) rfl ?_); at_builtin; refine Kd.R_append k35 (w0 := w) w.heap.size rfl (.tmp 33) (.tmp 38) 22 35 (.agg #[(.string ⟨#[]⟩), (.int .i64 0), (.int .i64 0), (.int .i64 0), (.int .i64 0), (.int .i64 0), (.int .i64 0), (.int .i64 0), (.string ⟨#[]⟩), (.string ⟨#[]⟩), (.int .i64 0)]) 112 rfl Tryd.underlying22 info35 rfl (by decide) (by omega) u5 x5_1 (⟨(rd_T35 l0 x6_1).f0, (rd_T35 l0 x6_1).f1, (rd_T35 l0 x6_1).f2, (⟨(rd_T35 l0 x6_1).f3.f0, (rd_T35 l0 x6_1).f3.f1, (rd_T35 l0 x6_1).f3.f2, (rd_T35 l0 x6_1).f3.f3, (rd_T35 l0 x6_1).f3.f4⟩ : S33), (rd_T35 l0 x6_1).f4, (rd_T35 l0 x6_1).f5, (rd_T35 l0 x6_1).f6⟩ : S35) [.string ((rd_T35 l0 x6_1).f0), .int .i64 ((rd_T35 l0 x6_1).f1), .int .i64 ((rd_T35 l0 x6_1).f2), .int .i64 ((rd_T35 l0 x6_1).f3.f0), .int .i64 ((rd_T35 l0 x6_1).f3.f1), .int .i64 ((rd_T35 l0 x6_1).f3.f2), .int .i64 ((rd_T35 l0 x6_1).f3.f3), .int .i64 ((rd_T35 l0 x6_1).f3.f4), .string ((rd_T35 l0 x6_1).f4), .string ((rd_T35 l0 x6_1).f5), .int .i64 ((rd_T35 l0 x6_1).f6)] (fun _ => True) (fun _ => False) rfl rfl ?aP (fun _ hk => hk.elim) ?aF ?aO ?aB ?aS ?aL ?_; (case aP => exact k35_mkM _ _ _ (⟨(rd_T35 l0 x6_1).f0, (rd_T35 l0 x6_1).f1, (rd_T35 l0 x6_1).f2, (⟨(rd_T35 l0 x6_1).f3.f0, (rd_T35 l0 x6_1).f3.f1, (rd_T35 l0 x6_1).f3.f2, (rd_T35 l0 x6_1).f3.f3, (rd_T35 l0 x6_1).f3.f4⟩ : S33), (rd_T35 l0 x6_1).f4, (rd_T35 l0 x6_1).f5, (rd_T35 l0 x6_1).f6⟩ : S35)); (case aB => exact (upB HB.out)); (case aF => exact (fun _ _ => trivial)); (case aO => exact (upR HO_5.out)); (case aS => exact (below_size (upB HB.out))); (case aL => have := LMc13.out; omega); intro v110 w15 ho hb hg hat; rw [← Ny109.out] at ho; have n0_ := Aside0.mk (hb); have n1_ := Aside0.mk (ho); clear HB; clear HO_5; have HB := n0_; have HO111 := n1_; clear n0_ n1_; clear ho hb hg hat))
       go_roundg k1
       case measure => have := HK1.out; omega
       case rel => exact ⟨(y109), (wrap64 (x6_1 + 1)), (by first | rfl | (simp; done) | (simp [*]; done)), H', ⟨by have := HK1.out; omega⟩, ⟨upR HO111.out⟩, ⟨upB HB.out⟩⟩
      rw [if_neg c13] at H
      exact absurd H (by simp)
     replace c10 := Bool.eq_false_iff.mpr c10
     subst c10
     have H1 : (remoraref20_Below.l0 k1 l0 a1 x5_1 (wrap64 (x6_1 + 1))) = some r := by rw [if_neg (show ¬ (false = true) by decide)] at H; exact H
     clear H
     have H := H1
     clear H1
     have H' := Aside0.mk H
     clear H
     have p105 : 0 ≤ (x6_1 : Int) := of_decide_eq_true (by first | (with_reducible assumption) | assumption)
     have q105 : x6_1 < (l0.length : Int) := of_decide_eq_true (by first | (with_reducible assumption) | assumption)
     obtain ⟨ad105, e105, hx105_0, hx105_1, hx105_2, hx105_3, hx105_4, hx105_5, hx105_6, hx105_7, hx105_8, hx105_9, hx105_10⟩ := at_T35 HR0.out x6_1 p105 q105
     cases e105
     replace hx105_0 := (HB.out.cell (World.block_lt_of_cell? w _ hx105_0)).trans hx105_0
     replace hx105_1 := (HB.out.cell (World.block_lt_of_cell? w _ hx105_1)).trans hx105_1
     replace hx105_2 := (HB.out.cell (World.block_lt_of_cell? w _ hx105_2)).trans hx105_2
     replace hx105_3 := (HB.out.cell (World.block_lt_of_cell? w _ hx105_3)).trans hx105_3
     replace hx105_4 := (HB.out.cell (World.block_lt_of_cell? w _ hx105_4)).trans hx105_4
     replace hx105_5 := (HB.out.cell (World.block_lt_of_cell? w _ hx105_5)).trans hx105_5
     replace hx105_6 := (HB.out.cell (World.block_lt_of_cell? w _ hx105_6)).trans hx105_6
     replace hx105_7 := (HB.out.cell (World.block_lt_of_cell? w _ hx105_7)).trans hx105_7
     replace hx105_8 := (HB.out.cell (World.block_lt_of_cell? w _ hx105_8)).trans hx105_8
     replace hx105_9 := (HB.out.cell (World.block_lt_of_cell? w _ hx105_9)).trans hx105_9
     replace hx105_10 := (HB.out.cell (World.block_lt_of_cell? w _ hx105_10)).trans hx105_10
     replace p105 := eq_true p105
     replace q105 := eq_true q105
     go_wp2_with (first | (go_at_call 59; (with_reducible refine (remoraref13_Under.calls k1 ((rd_T35 l0 x6_1).f0) a1 false _ A9.out).mono ?_); rintro e w16 ⟨rfl, hb⟩; have n0_ := Aside0.mk (Kd.R_below (upR HO_5.out) hb); have n1_ := Aside0.mk (below_step (upB HB.out) hb); clear HO_5; clear HB; have HO_5 := n0_; have HB := n1_; clear n0_ n1_; (try clear hb); (try clear hb2); (try clear hk); (try clear hi)))
     go_roundg k1
     case measure => have := HK1.out; omega
     case rel => exact ⟨(x5_1), (wrap64 (x6_1 + 1)), (by first | rfl | (simp; done) | (simp [*]; done)), H', ⟨by have := HK1.out; omega⟩, ⟨upR HO_5.out⟩, ⟨upB HB.out⟩⟩
    rw [if_neg c8] at H
    exact absurd H (by simp)
   rw [if_neg c3] at H
   have c3b0 : decide (x6_1 < (l0.length : Int)) = false := decide_eq_false c3
   clear c3
   obtain rfl := Option.some.inj H
   go_wp2
   go_ret
   exact ⟨_, by first | rfl | (simp [errW_none, errW_some] <;> rfl) | (simp [*, errW_none, errW_some] <;> rfl), by (with_reducible repeat (first | apply Kd.R_alloc | apply Kd.R_drewN | apply Kd.R_drew)); exact HO_5.out, upB HB.out⟩
set_option linter.unusedVariables false
set_option linter.unusedSimpArgs false
attribute [local go_sem high] eqA35
def remoraref20_Same.l0 : Nat → List (S35) → List (S35) → Int → Option (Bool)
 | 0, _, _, _ => none
 | k + 1, x0, x1, x5 => if x5 < (x0.length : Int) then (if 0 ≤ x5 then (if x5 < (x1.length : Int) then (if (!((((rd_T35 x0 x5).f0).toList) == (((rd_T35 x1 x5).f0).toList)) || (!(((rd_T35 x0 x5).f1) == ((rd_T35 x1 x5).f1)) || (!(((rd_T35 x0 x5).f2) == ((rd_T35 x1 x5).f2)) || ((!(((rd_T35 x0 x5).f3.f0) == ((rd_T35 x1 x5).f3.f0)) || (!(((rd_T35 x0 x5).f3.f1) == ((rd_T35 x1 x5).f3.f1)) || (!(((rd_T35 x0 x5).f3.f2) == ((rd_T35 x1 x5).f3.f2)) || (!(((rd_T35 x0 x5).f3.f3) == ((rd_T35 x1 x5).f3.f3)) || (!(((rd_T35 x0 x5).f3.f4) == ((rd_T35 x1 x5).f3.f4))))))) || (!((((rd_T35 x0 x5).f4).toList) == (((rd_T35 x1 x5).f4).toList)) || (!((((rd_T35 x0 x5).f5).toList) == (((rd_T35 x1 x5).f5).toList)) || (!(((rd_T35 x0 x5).f6) == ((rd_T35 x1 x5).f6))))))))) = true then (some false) else (remoraref20_Same.l0 k x0 x1 (wrap64 (x5 + 1)))) else (none)) else (none)) else (some true)
def remoraref20_Same.f (k : Nat) (l0 : List (S35)) (l1 : List (S35)) : Option (Bool) := if (l0.length : Int) = (l1.length : Int) then (remoraref20_Same.l0 k l0 l1 0) else (some false)
set_option maxHeartbeats 8000000 in
set_option maxRecDepth 100000 in
theorem remoraref20_Same.calls (k : Nat) (A0 : Option Addr) (c0 : Nat) (l0 : List (S35)) (A1 : Option Addr) (c1 : Nat) (l1 : List (S35)) (r : Bool) (w : World) (hr0 : Kd.C k35 w A0 l0.length l0) (hc0 : l0.length ≤ c0) (hr1 : Kd.C k35 w A1 l1.length l1) (hc1 : l1.length ≤ c1) (h : remoraref20_Same.f k l0 l1 = some r) :
  Calls Tryd.prog 22 #[.slice A0 l0.length c0, .slice A1 l1.length c1] w fun e w' => e = .returned (.bool r) ∧ Drawn0 w w' := by
 have hu35 := Tryd.underlying35
 have HR0 := Aside0.mk hr0
 have HC0 := Aside0.mk hc0
 clear hr0 hc0
 have HR1 := Aside0.mk hr1
 have HC1 := Aside0.mk hc1
 clear hr1 hc1
 have H : (if (l0.length : Int) = (l1.length : Int) then (remoraref20_Same.l0 k l0 l1 0) else (some false)) = some r := h
 clear h
 by_cases c3 : (l0.length : Int) = (l1.length : Int)
 ·rw [if_pos c3] at H
  have c3b0 : ((l0.length : Int) == (l1.length : Int)) = true := beq_iff_eq.mpr c3
  have c3b1 : ((l0.length : Int) != (l1.length : Int)) = false := bne_eq_false_iff_eq.mpr c3
  have c3b2 : (l0.length == l1.length) = true := by first | simpa using c3 | (simp at c3 ⊢; omega)
  clear c3
  have H' := Aside0.mk H
  clear H
  go_enter Tryd.func22, Tryd.ntmps22
  go_wp2
  repeat (go_quiet (fail); try go_wp2)
  go_loopg [5] k (fun kq v5 w' => ∃ (x5_1 : Int), v5 = .int .i64 x5_1 ∧ Aside0 (remoraref20_Same.l0 kq l0 l1 x5_1 = some r) ∧ Aside0 (kq ≤ k) ∧ Drawn0 w w')
  case atStart => exact ⟨(0), (by first | rfl | (simp; done) | (simp [*]; done)), H', ⟨Nat.le_refl _⟩, by repeat (first | exact Drawn0.refl _ | apply Drawn0.step)⟩
  case round =>
   clear H'
   try clear c1
   try clear c2
   try clear p2
   try clear c3
   try clear c3b0
   try clear c3b1
   try clear c3b2
   obtain ⟨x5_1, rfl, HA, HK1, ⟨m1, rfl⟩⟩ := hrel
   cases gk with
   | zero => exact absurd HA.out (by simp [remoraref20_Same.l0])
   | succ k1 =>
    have H := HA.out
    clear HA
    simp only [remoraref20_Same.l0] at H
    by_cases c4 : x5_1 < (l0.length : Int)
    ·rw [if_pos c4] at H
     have c4b0 : decide (x5_1 < (l0.length : Int)) = true := decide_eq_true c4
     clear c4
     by_cases c5 : 0 ≤ x5_1
     ·rw [if_pos c5] at H
      have c5b0 : decide (0 ≤ x5_1) = true := decide_eq_true c5
      clear c5
      by_cases c6 : x5_1 < (l1.length : Int)
      ·rw [if_pos c6] at H
       have c6b0 : decide (x5_1 < (l1.length : Int)) = true := decide_eq_true c6
       clear c6
       by_cases c7 : (!((((rd_T35 l0 x5_1).f0).toList) == (((rd_T35 l1 x5_1).f0).toList)) || (!(((rd_T35 l0 x5_1).f1) == ((rd_T35 l1 x5_1).f1)) || (!(((rd_T35 l0 x5_1).f2) == ((rd_T35 l1 x5_1).f2)) || ((!(((rd_T35 l0 x5_1).f3.f0) == ((rd_T35 l1 x5_1).f3.f0)) || (!(((rd_T35 l0 x5_1).f3.f1) == ((rd_T35 l1 x5_1).f3.f1)) || (!(((rd_T35 l0 x5_1).f3.f2) == ((rd_T35 l1 x5_1).f3.f2)) || (!(((rd_T35 l0 x5_1).f3.f3) == ((rd_T35 l1 x5_1).f3.f3)) || (!(((rd_T35 l0 x5_1).f3.f4) == ((rd_T35 l1 x5_1).f3.f4))))))) || (!((((rd_T35 l0 x5_1).f4).toList) == (((rd_T35 l1 x5_1).f4).toList)) || (!((((rd_T35 l0 x5_1).f5).toList) == (((rd_T35 l1 x5_1).f5).toList)) || (!(((rd_T35 l0 x5_1).f6) == ((rd_T35 l1 x5_1).f6))))))))) = true
       ·rw [if_pos c7] at H
        have c7b0 : (!((((rd_T35 l0 x5_1).f0).toList) == (((rd_T35 l1 x5_1).f0).toList)) || (!(((rd_T35 l0 x5_1).f1) == ((rd_T35 l1 x5_1).f1)) || (!(((rd_T35 l0 x5_1).f2) == ((rd_T35 l1 x5_1).f2)) || ((!(((rd_T35 l0 x5_1).f3.f0) == ((rd_T35 l1 x5_1).f3.f0)) || (!(((rd_T35 l0 x5_1).f3.f1) == ((rd_T35 l1 x5_1).f3.f1)) || (!(((rd_T35 l0 x5_1).f3.f2) == ((rd_T35 l1 x5_1).f3.f2)) || (!(((rd_T35 l0 x5_1).f3.f3) == ((rd_T35 l1 x5_1).f3.f3)) || (!(((rd_T35 l0 x5_1).f3.f4) == ((rd_T35 l1 x5_1).f3.f4))))))) || (!((((rd_T35 l0 x5_1).f4).toList) == (((rd_T35 l1 x5_1).f4).toList)) || (!((((rd_T35 l0 x5_1).f5).toList) == (((rd_T35 l1 x5_1).f5).toList)) || (!(((rd_T35 l0 x5_1).f6) == ((rd_T35 l1 x5_1).f6))))))))) = true := c7
        clear c7
        obtain rfl := Option.some.inj H
        have p101 : 0 ≤ (x5_1 : Int) := of_decide_eq_true (by first | (with_reducible assumption) | assumption)
        have q101 : x5_1 < (l0.length : Int) := of_decide_eq_true (by first | (with_reducible assumption) | assumption)
        obtain ⟨ad101, e101, hx101_0, hx101_1, hx101_2, hx101_3, hx101_4, hx101_5, hx101_6, hx101_7, hx101_8, hx101_9, hx101_10⟩ := at_T35 HR0.out x5_1 p101 q101
        cases e101
        replace p101 := eq_true p101
        replace q101 := eq_true q101
        have p102 : 0 ≤ (x5_1 : Int) := of_decide_eq_true (by first | (with_reducible assumption) | assumption)
        have q102 : x5_1 < (l1.length : Int) := of_decide_eq_true (by first | (with_reducible assumption) | assumption)
        obtain ⟨ad102, e102, hx102_0, hx102_1, hx102_2, hx102_3, hx102_4, hx102_5, hx102_6, hx102_7, hx102_8, hx102_9, hx102_10⟩ := at_T35 HR1.out x5_1 p102 q102
        cases e102
        replace p102 := eq_true p102
        replace q102 := eq_true q102
        go_wp2
        repeat (go_quiet (fail); try go_wp2)
        go_ret
        exact ⟨by first | rfl | (simp; done) | (simp [*]; done), by repeat (first | exact Drawn0.refl _ | apply Drawn0.step)⟩
       rw [if_neg c7] at H
       have c7b0 : (!((((rd_T35 l0 x5_1).f0).toList) == (((rd_T35 l1 x5_1).f0).toList)) || (!(((rd_T35 l0 x5_1).f1) == ((rd_T35 l1 x5_1).f1)) || (!(((rd_T35 l0 x5_1).f2) == ((rd_T35 l1 x5_1).f2)) || ((!(((rd_T35 l0 x5_1).f3.f0) == ((rd_T35 l1 x5_1).f3.f0)) || (!(((rd_T35 l0 x5_1).f3.f1) == ((rd_T35 l1 x5_1).f3.f1)) || (!(((rd_T35 l0 x5_1).f3.f2) == ((rd_T35 l1 x5_1).f3.f2)) || (!(((rd_T35 l0 x5_1).f3.f3) == ((rd_T35 l1 x5_1).f3.f3)) || (!(((rd_T35 l0 x5_1).f3.f4) == ((rd_T35 l1 x5_1).f3.f4))))))) || (!((((rd_T35 l0 x5_1).f4).toList) == (((rd_T35 l1 x5_1).f4).toList)) || (!((((rd_T35 l0 x5_1).f5).toList) == (((rd_T35 l1 x5_1).f5).toList)) || (!(((rd_T35 l0 x5_1).f6) == ((rd_T35 l1 x5_1).f6))))))))) = false := by simpa using c7
       clear c7
       have H' := Aside0.mk H
       clear H
       have p101 : 0 ≤ (x5_1 : Int) := of_decide_eq_true (by first | (with_reducible assumption) | assumption)
       have q101 : x5_1 < (l0.length : Int) := of_decide_eq_true (by first | (with_reducible assumption) | assumption)
       obtain ⟨ad101, e101, hx101_0, hx101_1, hx101_2, hx101_3, hx101_4, hx101_5, hx101_6, hx101_7, hx101_8, hx101_9, hx101_10⟩ := at_T35 HR0.out x5_1 p101 q101
       cases e101
       replace p101 := eq_true p101
       replace q101 := eq_true q101
       have p102 : 0 ≤ (x5_1 : Int) := of_decide_eq_true (by first | (with_reducible assumption) | assumption)
       have q102 : x5_1 < (l1.length : Int) := of_decide_eq_true (by first | (with_reducible assumption) | assumption)
       obtain ⟨ad102, e102, hx102_0, hx102_1, hx102_2, hx102_3, hx102_4, hx102_5, hx102_6, hx102_7, hx102_8, hx102_9, hx102_10⟩ := at_T35 HR1.out x5_1 p102 q102
       cases e102
       replace p102 := eq_true p102
       replace q102 := eq_true q102
       go_wp2
       repeat (go_quiet (fail); try go_wp2)
       go_roundg k1
       case measure => have := HK1.out; omega
       case rel => exact ⟨(wrap64 (x5_1 + 1)), (by first | rfl | (simp; done) | (simp [*]; done)), H', ⟨by have := HK1.out; omega⟩, by repeat (first | exact Drawn0.refl _ | apply Drawn0.step)⟩
      rw [if_neg c6] at H
      exact absurd H (by simp)
     rw [if_neg c5] at H
     exact absurd H (by simp)
    rw [if_neg c4] at H
    have c4b0 : decide (x5_1 < (l0.length : Int)) = false := decide_eq_false c4
    clear c4
    obtain rfl := Option.some.inj H
    go_wp2
    repeat (go_quiet (fail); try go_wp2)
    go_ret
    exact ⟨by first | rfl | (simp; done) | (simp [*]; done), by repeat (first | exact Drawn0.refl _ | apply Drawn0.step)⟩
 rw [if_neg c3] at H
 have c3b0 : ((l0.length : Int) == (l1.length : Int)) = false := beq_eq_false_iff_ne.mpr c3
 have c3b1 : ((l0.length : Int) != (l1.length : Int)) = true := bne_iff_ne.mpr c3
 have c3b2 : (l0.length == l1.length) = false := by first | simpa using c3 | (simp at c3 ⊢; omega)
 obtain rfl := Option.some.inj H
 go_enter Tryd.func22, Tryd.ntmps22
 go_wp2
 repeat (go_quiet (fail); try go_wp2)
 go_ret
 exact ⟨by first | rfl | (simp; done) | (simp [*]; done), by repeat (first | exact Drawn0.refl _ | apply Drawn0.step)⟩
set_option linter.unusedVariables false
set_option linter.unusedSimpArgs false
def remoraref20_Small.l0 : Nat → List (S35) → Int → Option (Bool)
 | 0, _, _ => none
 | k + 1, x0, x3 => if x3 < (x0.length : Int) then (if 0 ≤ x3 then (if (((rd_T35 x0 x3).f0).size : Int) > 600 then (some false) else (if (((rd_T35 x0 x3).f4).size : Int) > 600 then (some false) else (if (((rd_T35 x0 x3).f5).size : Int) > 100 then (some false) else (remoraref20_Small.l0 k x0 (wrap64 (x3 + 1)))))) else (none)) else (some (decide ((x0.length : Int) ≤ 60)))
def remoraref20_Small.f (k : Nat) (l0 : List (S35)) : Option (Bool) := remoraref20_Small.l0 k l0 0
set_option maxHeartbeats 8000000 in
set_option maxRecDepth 100000 in
theorem remoraref20_Small.calls (k : Nat) (A0 : Option Addr) (c0 : Nat) (l0 : List (S35)) (r : Bool) (w : World) (hr0 : Kd.C k35 w A0 l0.length l0) (hc0 : l0.length ≤ c0) (h : remoraref20_Small.f k l0 = some r) :
  Calls Tryd.prog 10 #[.slice A0 l0.length c0] w fun e w' => e = .returned (.bool r) ∧ Drawn0 w w' := by
 have HR0 := Aside0.mk hr0
 have HC0 := Aside0.mk hc0
 clear hr0 hc0
 have H : (remoraref20_Small.l0 k l0 0) = some r := h
 clear h
 have H' := Aside0.mk H
 clear H
 go_enter Tryd.func10, Tryd.ntmps10
 go_wp2
 go_loopg [3] k (fun kq v3 w' => ∃ (x3_1 : Int), v3 = .int .i64 x3_1 ∧ Aside0 (remoraref20_Small.l0 kq l0 x3_1 = some r) ∧ Aside0 (kq ≤ k) ∧ Drawn0 w w')
 case atStart => exact ⟨(0), (by first | rfl | (simp; done) | (simp [*]; done)), H', ⟨Nat.le_refl _⟩, by repeat (first | exact Drawn0.refl _ | apply Drawn0.step)⟩
 case round =>
  clear H'
  try clear c1
  obtain ⟨x3_1, rfl, HA, HK1, ⟨m1, rfl⟩⟩ := hrel
  cases gk with
  | zero => exact absurd HA.out (by simp [remoraref20_Small.l0])
  | succ k1 =>
   have H := HA.out
   clear HA
   simp only [remoraref20_Small.l0] at H
   by_cases c2 : x3_1 < (l0.length : Int)
   ·rw [if_pos c2] at H
    have c2b0 : decide (x3_1 < (l0.length : Int)) = true := decide_eq_true c2
    clear c2
    by_cases c3 : 0 ≤ x3_1
    ·rw [if_pos c3] at H
     have c3b0 : decide (0 ≤ x3_1) = true := decide_eq_true c3
     clear c3
     by_cases c4 : (((rd_T35 l0 x3_1).f0).size : Int) > 600
     ·rw [if_pos c4] at H
      have c4b0 : decide (600 < (((rd_T35 l0 x3_1).f0).size : Int)) = true := decide_eq_true c4
      have c4b1 : decide (600 < ((rd_T35 l0 x3_1).f0).size) = true := decide_eq_true (by omega)
      clear c4
      obtain rfl := Option.some.inj H
      have p101 : 0 ≤ (x3_1 : Int) := of_decide_eq_true (by first | (with_reducible assumption) | assumption)
      have q101 : x3_1 < (l0.length : Int) := of_decide_eq_true (by first | (with_reducible assumption) | assumption)
      obtain ⟨ad101, e101, hx101_0, hx101_1, hx101_2, hx101_3, hx101_4, hx101_5, hx101_6, hx101_7, hx101_8, hx101_9, hx101_10⟩ := at_T35 HR0.out x3_1 p101 q101
      cases e101
      replace p101 := eq_true p101
      replace q101 := eq_true q101
      go_wp2
      go_ret
      exact ⟨by first | rfl | (simp; done) | (simp [*]; done), by repeat (first | exact Drawn0.refl _ | apply Drawn0.step)⟩
     rw [if_neg c4] at H
     have c4b0 : decide (600 < (((rd_T35 l0 x3_1).f0).size : Int)) = false := decide_eq_false c4
     have c4b1 : decide (600 < ((rd_T35 l0 x3_1).f0).size) = false := decide_eq_false (by omega)
     clear c4
     by_cases c5 : (((rd_T35 l0 x3_1).f4).size : Int) > 600
     ·rw [if_pos c5] at H
      have c5b0 : decide (600 < (((rd_T35 l0 x3_1).f4).size : Int)) = true := decide_eq_true c5
      have c5b1 : decide (600 < ((rd_T35 l0 x3_1).f4).size) = true := decide_eq_true (by omega)
      clear c5
      obtain rfl := Option.some.inj H
      have p101 : 0 ≤ (x3_1 : Int) := of_decide_eq_true (by first | (with_reducible assumption) | assumption)
      have q101 : x3_1 < (l0.length : Int) := of_decide_eq_true (by first | (with_reducible assumption) | assumption)
      obtain ⟨ad101, e101, hx101_0, hx101_1, hx101_2, hx101_3, hx101_4, hx101_5, hx101_6, hx101_7, hx101_8, hx101_9, hx101_10⟩ := at_T35 HR0.out x3_1 p101 q101
      cases e101
      replace p101 := eq_true p101
      replace q101 := eq_true q101
      have p102 : 0 ≤ (x3_1 : Int) := of_decide_eq_true (by first | (with_reducible assumption) | assumption)
      have q102 : x3_1 < (l0.length : Int) := of_decide_eq_true (by first | (with_reducible assumption) | assumption)
      obtain ⟨ad102, e102, hx102_0, hx102_1, hx102_2, hx102_3, hx102_4, hx102_5, hx102_6, hx102_7, hx102_8, hx102_9, hx102_10⟩ := at_T35 HR0.out x3_1 p102 q102
      obtain rfl : ad101 = ad102 := (by injection e102)
      replace p102 := eq_true p102
      replace q102 := eq_true q102
      go_wp2
      go_ret
      exact ⟨by first | rfl | (simp; done) | (simp [*]; done), by repeat (first | exact Drawn0.refl _ | apply Drawn0.step)⟩
     rw [if_neg c5] at H
     have c5b0 : decide (600 < (((rd_T35 l0 x3_1).f4).size : Int)) = false := decide_eq_false c5
     have c5b1 : decide (600 < ((rd_T35 l0 x3_1).f4).size) = false := decide_eq_false (by omega)
     clear c5
     by_cases c6 : (((rd_T35 l0 x3_1).f5).size : Int) > 100
     ·rw [if_pos c6] at H
      have c6b0 : decide (100 < (((rd_T35 l0 x3_1).f5).size : Int)) = true := decide_eq_true c6
      have c6b1 : decide (100 < ((rd_T35 l0 x3_1).f5).size) = true := decide_eq_true (by omega)
      clear c6
      obtain rfl := Option.some.inj H
      have p101 : 0 ≤ (x3_1 : Int) := of_decide_eq_true (by first | (with_reducible assumption) | assumption)
      have q101 : x3_1 < (l0.length : Int) := of_decide_eq_true (by first | (with_reducible assumption) | assumption)
      obtain ⟨ad101, e101, hx101_0, hx101_1, hx101_2, hx101_3, hx101_4, hx101_5, hx101_6, hx101_7, hx101_8, hx101_9, hx101_10⟩ := at_T35 HR0.out x3_1 p101 q101
      cases e101
      replace p101 := eq_true p101
      replace q101 := eq_true q101
      have p102 : 0 ≤ (x3_1 : Int) := of_decide_eq_true (by first | (with_reducible assumption) | assumption)
      have q102 : x3_1 < (l0.length : Int) := of_decide_eq_true (by first | (with_reducible assumption) | assumption)
      obtain ⟨ad102, e102, hx102_0, hx102_1, hx102_2, hx102_3, hx102_4, hx102_5, hx102_6, hx102_7, hx102_8, hx102_9, hx102_10⟩ := at_T35 HR0.out x3_1 p102 q102
      obtain rfl : ad101 = ad102 := (by injection e102)
      replace p102 := eq_true p102
      replace q102 := eq_true q102
      have p103 : 0 ≤ (x3_1 : Int) := of_decide_eq_true (by first | (with_reducible assumption) | assumption)
      have q103 : x3_1 < (l0.length : Int) := of_decide_eq_true (by first | (with_reducible assumption) | assumption)
      obtain ⟨ad103, e103, hx103_0, hx103_1, hx103_2, hx103_3, hx103_4, hx103_5, hx103_6, hx103_7, hx103_8, hx103_9, hx103_10⟩ := at_T35 HR0.out x3_1 p103 q103
      obtain rfl : ad101 = ad103 := (by injection e103)
      replace p103 := eq_true p103
      replace q103 := eq_true q103
      go_wp2
      go_ret
      exact ⟨by first | rfl | (simp; done) | (simp [*]; done), by repeat (first | exact Drawn0.refl _ | apply Drawn0.step)⟩
     rw [if_neg c6] at H
     have c6b0 : decide (100 < (((rd_T35 l0 x3_1).f5).size : Int)) = false := decide_eq_false c6
     have c6b1 : decide (100 < ((rd_T35 l0 x3_1).f5).size) = false := decide_eq_false (by omega)
     clear c6
     have H' := Aside0.mk H
     clear H
     have p101 : 0 ≤ (x3_1 : Int) := of_decide_eq_true (by first | (with_reducible assumption) | assumption)
     have q101 : x3_1 < (l0.length : Int) := of_decide_eq_true (by first | (with_reducible assumption) | assumption)
     obtain ⟨ad101, e101, hx101_0, hx101_1, hx101_2, hx101_3, hx101_4, hx101_5, hx101_6, hx101_7, hx101_8, hx101_9, hx101_10⟩ := at_T35 HR0.out x3_1 p101 q101
     cases e101
     replace p101 := eq_true p101
     replace q101 := eq_true q101
     have p102 : 0 ≤ (x3_1 : Int) := of_decide_eq_true (by first | (with_reducible assumption) | assumption)
     have q102 : x3_1 < (l0.length : Int) := of_decide_eq_true (by first | (with_reducible assumption) | assumption)
     obtain ⟨ad102, e102, hx102_0, hx102_1, hx102_2, hx102_3, hx102_4, hx102_5, hx102_6, hx102_7, hx102_8, hx102_9, hx102_10⟩ := at_T35 HR0.out x3_1 p102 q102
     obtain rfl : ad101 = ad102 := (by injection e102)
     replace p102 := eq_true p102
     replace q102 := eq_true q102
     have p103 : 0 ≤ (x3_1 : Int) := of_decide_eq_true (by first | (with_reducible assumption) | assumption)
     have q103 : x3_1 < (l0.length : Int) := of_decide_eq_true (by first | (with_reducible assumption) | assumption)
     obtain ⟨ad103, e103, hx103_0, hx103_1, hx103_2, hx103_3, hx103_4, hx103_5, hx103_6, hx103_7, hx103_8, hx103_9, hx103_10⟩ := at_T35 HR0.out x3_1 p103 q103
     obtain rfl : ad101 = ad103 := (by injection e103)
     replace p103 := eq_true p103
     replace q103 := eq_true q103
     go_wp2
     go_roundg k1
     case measure => have := HK1.out; omega
     case rel => exact ⟨(wrap64 (x3_1 + 1)), (by first | rfl | (simp; done) | (simp [*]; done)), H', ⟨by have := HK1.out; omega⟩, by repeat (first | exact Drawn0.refl _ | apply Drawn0.step)⟩
    rw [if_neg c3] at H
    exact absurd H (by simp)
   rw [if_neg c2] at H
   have c2b0 : decide (x3_1 < (l0.length : Int)) = false := decide_eq_false c2
   clear c2
   obtain rfl := Option.some.inj H
   go_wp2
   go_ret
   exact ⟨by first | rfl | (simp; done) | (simp [*]; done), by repeat (first | exact Drawn0.refl _ | apply Drawn0.step)⟩
set_option linter.unusedVariables false
set_option linter.unusedSimpArgs false
mutual
def remoraref20_Sort.l0 : Nat → List (S35) → List (S35) → Int → Option ((List (S35)))
 | 0, _, _, _ => none
 | k + 1, x0, x3, x4 => if x4 < (x0.length : Int) then (if 0 ≤ x4 then (if x3.length < 1256584717458 then (remoraref20_Sort.l1 k x0 (x3 ++ [(⟨(rd_T35 x0 x4).f0, (rd_T35 x0 x4).f1, (rd_T35 x0 x4).f2, (⟨(rd_T35 x0 x4).f3.f0, (rd_T35 x0 x4).f3.f1, (rd_T35 x0 x4).f3.f2, (rd_T35 x0 x4).f3.f3, (rd_T35 x0 x4).f3.f4⟩ : S33), (rd_T35 x0 x4).f4, (rd_T35 x0 x4).f5, (rd_T35 x0 x4).f6⟩ : S35)]) x4 (x3.length : Int)) else (none)) else (none)) else (some x3)
def remoraref20_Sort.l1 : Nat → List (S35) → List (S35) → Int → Int → Option ((List (S35)))
 | 0, _, _, _, _ => none
 | k + 1, x0, x3, x4, x5 => if x5 > 0 then (if 0 ≤ x4 then (if x4 < (x0.length : Int) then (if 0 ≤ (wrap64 (x5 - 1)) then (if (wrap64 (x5 - 1)) < (x3.length : Int) then ((remoraref13_Less.f k ((rd_T35 x0 x4).f0) ((rd_T35 x3 (wrap64 (x5 - 1))).f0)).bind fun t107 => (if t107 = true then (if 0 ≤ x5 then (if x5 < (x3.length : Int) then (remoraref20_Sort.l1 k x0 (x3.set (x5 : Int).toNat (⟨(rd_T35 x3 (wrap64 (x5 - 1))).f0, (rd_T35 x3 (wrap64 (x5 - 1))).f1, (rd_T35 x3 (wrap64 (x5 - 1))).f2, (⟨(rd_T35 x3 (wrap64 (x5 - 1))).f3.f0, (rd_T35 x3 (wrap64 (x5 - 1))).f3.f1, (rd_T35 x3 (wrap64 (x5 - 1))).f3.f2, (rd_T35 x3 (wrap64 (x5 - 1))).f3.f3, (rd_T35 x3 (wrap64 (x5 - 1))).f3.f4⟩ : S33), (rd_T35 x3 (wrap64 (x5 - 1))).f4, (rd_T35 x3 (wrap64 (x5 - 1))).f5, (rd_T35 x3 (wrap64 (x5 - 1))).f6⟩ : S35)) x4 (wrap64 (x5 - 1))) else (none)) else (none)) else (if 0 ≤ x5 then (if x5 < (x3.length : Int) then (remoraref20_Sort.l0 k x0 (x3.set (x5 : Int).toNat (⟨(rd_T35 x0 x4).f0, (rd_T35 x0 x4).f1, (rd_T35 x0 x4).f2, (⟨(rd_T35 x0 x4).f3.f0, (rd_T35 x0 x4).f3.f1, (rd_T35 x0 x4).f3.f2, (rd_T35 x0 x4).f3.f3, (rd_T35 x0 x4).f3.f4⟩ : S33), (rd_T35 x0 x4).f4, (rd_T35 x0 x4).f5, (rd_T35 x0 x4).f6⟩ : S35)) (wrap64 (x4 + 1))) else (none)) else (none)))) else (none)) else (none)) else (none)) else (none)) else (if 0 ≤ x4 then (if x4 < (x0.length : Int) then (if 0 ≤ x5 then (if x5 < (x3.length : Int) then (remoraref20_Sort.l0 k x0 (x3.set (x5 : Int).toNat (⟨(rd_T35 x0 x4).f0, (rd_T35 x0 x4).f1, (rd_T35 x0 x4).f2, (⟨(rd_T35 x0 x4).f3.f0, (rd_T35 x0 x4).f3.f1, (rd_T35 x0 x4).f3.f2, (rd_T35 x0 x4).f3.f3, (rd_T35 x0 x4).f3.f4⟩ : S33), (rd_T35 x0 x4).f4, (rd_T35 x0 x4).f5, (rd_T35 x0 x4).f6⟩ : S35)) (wrap64 (x4 + 1))) else (none)) else (none)) else (none)) else (none))
end
def remoraref20_Sort.f (k : Nat) (l0 : List (S35)) : Option ((List (S35))) := remoraref20_Sort.l0 k l0 ([] : List (S35)) 0
def remoraref20_Sort.T7 : Bool × List (List Nat × List Nat) := (true, [([], []), ([0], [0]), ([1], [1]), ([2], [2]), ([2], [2]), ([3, 4, 2], [2, 3, 4]), ([5, 2], [2, 5]), ([6, 2], [2, 6]), ([2], [2]), ([2], [2]), ([9, 2], [2, 9]), ([8, 10, 2], [2, 8, 10]), ([11, 2], [2, 11]), ([12, 2], [2, 12]), ([7, 13, 2, 2], [2, 7, 13]), ([2, 14], [2, 14])])
def remoraref20_Sort.B7 : List Nat := [0, 1, 3, 7, 7, 31, 63, 127, 7, 7, 519, 1799, 3847, 7943, 16383, 32767]
theorem remoraref20_Sort.tab7 : rtab .any (opsOf Tryd.f27 7) = remoraref20_Sort.T7 := by kernel_rfl
theorem remoraref20_Sort.bits7 : waitsOk remoraref20_Sort.T7.2 remoraref20_Sort.B7 = true := by kernel_rfl
set_option maxHeartbeats 8000000 in
set_option maxRecDepth 100000 in
theorem remoraref20_Sort.calls (k : Nat) (A0 : Option Addr) (c0 : Nat) (l0 : List (S35)) (r : List (S35)) (w : World) (hr0 : Kd.C k35 w A0 l0.length l0) (hc0 : l0.length ≤ c0) (h : remoraref20_Sort.f k l0 = some r) :
  Calls Tryd.prog 27 #[.slice A0 l0.length c0] w fun e w' => ∃ v0_ : Value, e = .returned (v0_) ∧ Kd.R k35 35 w' w.heap.size (fun _ => True) v0_ r ∧ Below w.heap.size w w' := by
 have hu35 := Tryd.underlying35
 have HR0 := Aside0.mk hr0
 have HC0 := Aside0.mk hc0
 clear hr0 hc0
 have HB := Aside0.mk (Below.refl w.heap.size w)
 have H : (remoraref20_Sort.l0 k l0 ([] : List (S35)) 0) = some r := h
 clear h
 have H' := Aside0.mk H
 clear H
 go_enter Tryd.func27, Tryd.ntmps27
 go_wp2
 go_loopg [3, 4] k (fun kq v3 v4 w' => ∃ (x3_1 : List (S35)) (x4_1 : Int), v4 = .int .i64 x4_1 ∧ Aside0 (remoraref20_Sort.l0 kq l0 x3_1 x4_1 = some r) ∧ Aside0 (kq ≤ k) ∧ Aside0 (Kd.R k35 35 w' w.heap.size (fun _ => True) v3 x3_1) ∧ Aside0 (Below w.heap.size w w'))
 case atStart => exact ⟨(([] : List (S35))), (0), (by first | rfl | (simp; done) | (simp [*]; done)), H', ⟨Nat.le_refl _⟩, ⟨by first | exact Kd.R_nil _ _ _ _ _ | exact Kd.N_nil _ _ _ _ _ | exact Kd.V_nil _ _ _ _ _ | exact Kd.Q_nil _ _ _ _ _ | exact Kd.S_nil _ _ _ _ _⟩, ⟨upB HB.out⟩⟩
 case round =>
  clear H'
  obtain ⟨x3_1, x4_1, rfl, HA, HK1, HO_3, HB⟩ := hrel
  cases gk with
  | zero => exact absurd HA.out (by simp [remoraref20_Sort.l0])
  | succ k1 =>
   have H := HA.out
   clear HA
   simp only [remoraref20_Sort.l0] at H
   by_cases c2 : x4_1 < (l0.length : Int)
   ·rw [if_pos c2] at H
    have c2b0 : decide (x4_1 < (l0.length : Int)) = true := decide_eq_true c2
    clear c2
    by_cases c3 : 0 ≤ x4_1
    ·rw [if_pos c3] at H
     have c3b0 : decide (0 ≤ x4_1) = true := decide_eq_true c3
     clear c3
     by_cases c4 : x3_1.length < 1256584717458
     ·rw [if_pos c4] at H
      have LMc4 := Aside0.mk c4
      clear c4
      obtain ⟨y102, hy102⟩ : ∃ y_ : List (S35), y_ = (x3_1 ++ [(⟨(rd_T35 l0 x4_1).f0, (rd_T35 l0 x4_1).f1, (rd_T35 l0 x4_1).f2, (⟨(rd_T35 l0 x4_1).f3.f0, (rd_T35 l0 x4_1).f3.f1, (rd_T35 l0 x4_1).f3.f2, (rd_T35 l0 x4_1).f3.f3, (rd_T35 l0 x4_1).f3.f4⟩ : S33), (rd_T35 l0 x4_1).f4, (rd_T35 l0 x4_1).f5, (rd_T35 l0 x4_1).f6⟩ : S35)]) := ⟨_, rfl⟩
      replace H : (remoraref20_Sort.l1 k1 l0 y102 x4_1 (x3_1.length : Int)) = some r := by first | (rw [hy102]; with_reducible exact H) | (have H2_ := (Option.bind_some _ _).symm.trans H; rw [hy102]; with_reducible exact H2_) | (have H2_ := (Option.bind_some _ _).symm.trans H; with_reducible exact H2_) | with_reducible exact H | (rw [hy102]; exact H) | exact H
      have Ny102 := Aside0.mk hy102
      clear hy102
      have H' := Aside0.mk H
      clear H
      obtain ⟨Ao5, co5, eo5⟩ := Kd.R_slice HO_3.out
      subst eo5
      have p101 : 0 ≤ (x4_1 : Int) := of_decide_eq_true (by first | (with_reducible assumption) | assumption)
      have q101 : x4_1 < (l0.length : Int) := of_decide_eq_true (by first | (with_reducible assumption) | assumption)
      obtain ⟨ad101, e101, hx101_0, hx101_1, hx101_2, hx101_3, hx101_4, hx101_5, hx101_6, hx101_7, hx101_8, hx101_9, hx101_10⟩ := at_T35 HR0.out x4_1 p101 q101
      cases e101
      replace hx101_0 := (HB.out.cell (World.block_lt_of_cell? w _ hx101_0)).trans hx101_0
      replace hx101_1 := (HB.out.cell (World.block_lt_of_cell? w _ hx101_1)).trans hx101_1
      replace hx101_2 := (HB.out.cell (World.block_lt_of_cell? w _ hx101_2)).trans hx101_2
      replace hx101_3 := (HB.out.cell (World.block_lt_of_cell? w _ hx101_3)).trans hx101_3
      replace hx101_4 := (HB.out.cell (World.block_lt_of_cell? w _ hx101_4)).trans hx101_4
      replace hx101_5 := (HB.out.cell (World.block_lt_of_cell? w _ hx101_5)).trans hx101_5
      replace hx101_6 := (HB.out.cell (World.block_lt_of_cell? w _ hx101_6)).trans hx101_6
      replace hx101_7 := (HB.out.cell (World.block_lt_of_cell? w _ hx101_7)).trans hx101_7
      replace hx101_8 := (HB.out.cell (World.block_lt_of_cell? w _ hx101_8)).trans hx101_8
      replace hx101_9 := (HB.out.cell (World.block_lt_of_cell? w _ hx101_9)).trans hx101_9
      replace hx101_10 := (HB.out.cell (World.block_lt_of_cell? w _ hx101_10)).trans hx101_10
      replace p101 := eq_true p101
      replace q101 := eq_true q101
      go_wp2_with (first | ((with_reducible refine gate_builtin (b := .append) (xs := #[.tmp 14, .tmp 19]) rfl ?_); at_builtin; refine Kd.R_append k35 (w0 := w) w.heap.size rfl (.tmp 14) (.tmp 19) 22 35 (.agg #[(.string ⟨#[]⟩), (.int .i64 0), (.int .i64 0), (.int .i64 0), (.int .i64 0), (.int .i64 0), (.int .i64 0), (.int .i64 0), (.string ⟨#[]⟩), (.string ⟨#[]⟩), (.int .i64 0)]) 112 rfl Tryd.underlying22 info35 rfl (by decide) (by omega) (.slice Ao5 x3_1.length co5) x3_1 (⟨(rd_T35 l0 x4_1).f0, (rd_T35 l0 x4_1).f1, (rd_T35 l0 x4_1).f2, (⟨(rd_T35 l0 x4_1).f3.f0, (rd_T35 l0 x4_1).f3.f1, (rd_T35 l0 x4_1).f3.f2, (rd_T35 l0 x4_1).f3.f3, (rd_T35 l0 x4_1).f3.f4⟩ : S33), (rd_T35 l0 x4_1).f4, (rd_T35 l0 x4_1).f5, (rd_T35 l0 x4_1).f6⟩ : S35) [.string ((rd_T35 l0 x4_1).f0), .int .i64 ((rd_T35 l0 x4_1).f1), .int .i64 ((rd_T35 l0 x4_1).f2), .int .i64 ((rd_T35 l0 x4_1).f3.f0), .int .i64 ((rd_T35 l0 x4_1).f3.f1), .int .i64 ((rd_T35 l0 x4_1).f3.f2), .int .i64 ((rd_T35 l0 x4_1).f3.f3), .int .i64 ((rd_T35 l0 x4_1).f3.f4), .string ((rd_T35 l0 x4_1).f4), .string ((rd_T35 l0 x4_1).f5), .int .i64 ((rd_T35 l0 x4_1).f6)] (fun _ => True) (fun _ => False) rfl rfl ?aP (fun _ hk => hk.elim) ?aF ?aO ?aB ?aS ?aL ?_; (case aP => exact k35_mkM _ _ _ (⟨(rd_T35 l0 x4_1).f0, (rd_T35 l0 x4_1).f1, (rd_T35 l0 x4_1).f2, (⟨(rd_T35 l0 x4_1).f3.f0, (rd_T35 l0 x4_1).f3.f1, (rd_T35 l0 x4_1).f3.f2, (rd_T35 l0 x4_1).f3.f3, (rd_T35 l0 x4_1).f3.f4⟩ : S33), (rd_T35 l0 x4_1).f4, (rd_T35 l0 x4_1).f5, (rd_T35 l0 x4_1).f6⟩ : S35)); (case aB => exact (upB HB.out)); (case aF => exact (fun _ _ => trivial)); (case aO => exact (upR HO_3.out)); (case aS => exact (below_size (upB HB.out))); (case aL => have := LMc4.out; omega); intro v103 w6 ho hb hg hat; rw [← Ny102.out] at ho; have n0_ := Aside0.mk (hb); have n1_ := Aside0.mk (ho); clear HB; clear HO_3; have HB := n0_; have HO104 := n1_; clear n0_ n1_; clear ho hb hg hat))
      go_loopg [5] k1 (fun kq v5 w' => ∃ (x3_2 : List (S35)) (x5_2 : Int), v5 = .int .i64 x5_2 ∧ Aside0 (remoraref20_Sort.l1 kq l0 x3_2 x4_1 x5_2 = some r) ∧ Aside0 (kq ≤ k1) ∧ Aside0 (Kd.R k35 35 w' w.heap.size (fun _ => True) v103 x3_2) ∧ Aside0 (Below w.heap.size w w'))
      case atStart => exact ⟨(y102), ((x3_1.length : Int)), (by first | rfl | (simp; done) | (simp [*]; done)), H', ⟨Nat.le_refl _⟩, ⟨upR HO104.out⟩, ⟨upB HB.out⟩⟩
      case round =>
       clear H'
       try clear p1
       try clear q1
       try clear hx1
       try clear c2
       try clear c2b0
       try clear p2
       try clear c3
       try clear c3b0
       try clear c4
       try clear hx101_0
       try clear hx101_1
       try clear hx101_10
       try clear hx101_2
       try clear hx101_3
       try clear hx101_4
       try clear hx101_5
       try clear hx101_6
       try clear hx101_7
       try clear hx101_8
       try clear hx101_9
       try clear p101
       try clear q101
       obtain ⟨x3_2, x5_2, rfl, HA, HK2, HO_3, HB⟩ := hrel
       cases gk with
       | zero => exact absurd HA.out (by simp [remoraref20_Sort.l1])
       | succ k2 =>
        have H := HA.out
        clear HA
        simp only [remoraref20_Sort.l1] at H
        by_cases c7 : x5_2 > 0
        ·rw [if_pos c7] at H
         have c7b0 : decide (0 < x5_2) = true := decide_eq_true c7
         clear c7
         by_cases c8 : 0 ≤ x4_1
         ·rw [if_pos c8] at H
          have c8b0 : decide (0 ≤ x4_1) = true := decide_eq_true c8
          clear c8
          by_cases c9 : x4_1 < (l0.length : Int)
          ·rw [if_pos c9] at H
           have c9b0 : decide (x4_1 < (l0.length : Int)) = true := decide_eq_true c9
           clear c9
           obtain ⟨ji10, hji10⟩ : ∃ j_ : Int, (wrap64 (x5_2 - 1)) = j_ := ⟨_, rfl⟩
           replace H : (if 0 ≤ (ji10) then (if (ji10) < (x3_2.length : Int) then ((remoraref13_Less.f k2 ((rd_T35 l0 x4_1).f0) ((rd_T35 x3_2 (ji10)).f0)).bind fun t107 => (if t107 = true then (if 0 ≤ x5_2 then (if x5_2 < (x3_2.length : Int) then (remoraref20_Sort.l1 k2 l0 (x3_2.set (x5_2 : Int).toNat (⟨(rd_T35 x3_2 (ji10)).f0, (rd_T35 x3_2 (ji10)).f1, (rd_T35 x3_2 (ji10)).f2, (⟨(rd_T35 x3_2 (ji10)).f3.f0, (rd_T35 x3_2 (ji10)).f3.f1, (rd_T35 x3_2 (ji10)).f3.f2, (rd_T35 x3_2 (ji10)).f3.f3, (rd_T35 x3_2 (ji10)).f3.f4⟩ : S33), (rd_T35 x3_2 (ji10)).f4, (rd_T35 x3_2 (ji10)).f5, (rd_T35 x3_2 (ji10)).f6⟩ : S35)) x4_1 ji10) else (none)) else (none)) else (if 0 ≤ x5_2 then (if x5_2 < (x3_2.length : Int) then (remoraref20_Sort.l0 k2 l0 (x3_2.set (x5_2 : Int).toNat (⟨(rd_T35 l0 x4_1).f0, (rd_T35 l0 x4_1).f1, (rd_T35 l0 x4_1).f2, (⟨(rd_T35 l0 x4_1).f3.f0, (rd_T35 l0 x4_1).f3.f1, (rd_T35 l0 x4_1).f3.f2, (rd_T35 l0 x4_1).f3.f3, (rd_T35 l0 x4_1).f3.f4⟩ : S33), (rd_T35 l0 x4_1).f4, (rd_T35 l0 x4_1).f5, (rd_T35 l0 x4_1).f6⟩ : S35)) (wrap64 (x4_1 + 1))) else (none)) else (none)))) else (none)) else (none)) = some r := by first | (rw [hji10] at H; exact H) | (simp only [hji10] at H ⊢; exact H)
           have hji10w : (IntKind.i64.wrap (x5_2 - 1)) = ji10 := (i64_w _).trans hji10
           by_cases c11 : 0 ≤ (ji10)
           ·rw [if_pos c11] at H
            have c11b0 : decide (0 ≤ (ji10)) = true := decide_eq_true c11
            clear c11
            by_cases c12 : (ji10) < (x3_2.length : Int)
            ·rw [if_pos c12] at H
             have c12b0 : decide ((ji10) < (x3_2.length : Int)) = true := decide_eq_true c12
             clear c12
             replace H := Option.bind_eq_some_iff.mp H
             obtain ⟨t107, A130, H⟩ := H
             replace H : (if t107 = true then (if 0 ≤ x5_2 then (if x5_2 < (x3_2.length : Int) then (remoraref20_Sort.l1 k2 l0 (x3_2.set (x5_2 : Int).toNat (⟨(rd_T35 x3_2 (ji10)).f0, (rd_T35 x3_2 (ji10)).f1, (rd_T35 x3_2 (ji10)).f2, (⟨(rd_T35 x3_2 (ji10)).f3.f0, (rd_T35 x3_2 (ji10)).f3.f1, (rd_T35 x3_2 (ji10)).f3.f2, (rd_T35 x3_2 (ji10)).f3.f3, (rd_T35 x3_2 (ji10)).f3.f4⟩ : S33), (rd_T35 x3_2 (ji10)).f4, (rd_T35 x3_2 (ji10)).f5, (rd_T35 x3_2 (ji10)).f6⟩ : S35)) x4_1 ji10) else (none)) else (none)) else (if 0 ≤ x5_2 then (if x5_2 < (x3_2.length : Int) then (remoraref20_Sort.l0 k2 l0 (x3_2.set (x5_2 : Int).toNat (⟨(rd_T35 l0 x4_1).f0, (rd_T35 l0 x4_1).f1, (rd_T35 l0 x4_1).f2, (⟨(rd_T35 l0 x4_1).f3.f0, (rd_T35 l0 x4_1).f3.f1, (rd_T35 l0 x4_1).f3.f2, (rd_T35 l0 x4_1).f3.f3, (rd_T35 l0 x4_1).f3.f4⟩ : S33), (rd_T35 l0 x4_1).f4, (rd_T35 l0 x4_1).f5, (rd_T35 l0 x4_1).f6⟩ : S35)) (wrap64 (x4_1 + 1))) else (none)) else (none))) = some r := H
             have A13 := Aside0.mk A130
             clear A130
             by_cases c14 : t107 = true
             ·subst c14
              have H1 : (if 0 ≤ x5_2 then (if x5_2 < (x3_2.length : Int) then (remoraref20_Sort.l1 k2 l0 (x3_2.set (x5_2 : Int).toNat (⟨(rd_T35 x3_2 (ji10)).f0, (rd_T35 x3_2 (ji10)).f1, (rd_T35 x3_2 (ji10)).f2, (⟨(rd_T35 x3_2 (ji10)).f3.f0, (rd_T35 x3_2 (ji10)).f3.f1, (rd_T35 x3_2 (ji10)).f3.f2, (rd_T35 x3_2 (ji10)).f3.f3, (rd_T35 x3_2 (ji10)).f3.f4⟩ : S33), (rd_T35 x3_2 (ji10)).f4, (rd_T35 x3_2 (ji10)).f5, (rd_T35 x3_2 (ji10)).f6⟩ : S35)) x4_1 ji10) else (none)) else (none)) = some r := by rw [if_pos rfl] at H; exact H
              clear H
              have H := H1
              clear H1
              by_cases c15 : 0 ≤ x5_2
              ·rw [if_pos c15] at H
               have c15b0 : decide (0 ≤ x5_2) = true := decide_eq_true c15
               clear c15
               by_cases c16 : x5_2 < (x3_2.length : Int)
               ·rw [if_pos c16] at H
                have c16b0 : decide (x5_2 < (x3_2.length : Int)) = true := decide_eq_true c16
                clear c16
                obtain ⟨y109, hy109⟩ : ∃ y_ : List (S35), y_ = (x3_2.set (x5_2 : Int).toNat (⟨(rd_T35 x3_2 (ji10)).f0, (rd_T35 x3_2 (ji10)).f1, (rd_T35 x3_2 (ji10)).f2, (⟨(rd_T35 x3_2 (ji10)).f3.f0, (rd_T35 x3_2 (ji10)).f3.f1, (rd_T35 x3_2 (ji10)).f3.f2, (rd_T35 x3_2 (ji10)).f3.f3, (rd_T35 x3_2 (ji10)).f3.f4⟩ : S33), (rd_T35 x3_2 (ji10)).f4, (rd_T35 x3_2 (ji10)).f5, (rd_T35 x3_2 (ji10)).f6⟩ : S35)) := ⟨_, rfl⟩
                replace H : (remoraref20_Sort.l1 k2 l0 y109 x4_1 ji10) = some r := by first | (rw [hy109]; with_reducible exact H) | (have H2_ := (Option.bind_some _ _).symm.trans H; rw [hy109]; with_reducible exact H2_) | (have H2_ := (Option.bind_some _ _).symm.trans H; with_reducible exact H2_) | with_reducible exact H | (rw [hy109]; exact H) | exact H
                have Ny109 := Aside0.mk hy109
                clear hy109
                have H' := Aside0.mk H
                clear H
                try go_wp2
                have n0_ := Aside0.mk (Kd.R_drew HO_3.out)
                have n1_ := Aside0.mk (below_drew1 HB.out)
                clear HO_3
                clear HB
                have HO_3 := n0_
                have HB := n1_
                clear n0_ n1_
                have p105 : 0 ≤ (x4_1 : Int) := of_decide_eq_true (by first | (with_reducible assumption) | assumption)
                have q105 : x4_1 < (l0.length : Int) := of_decide_eq_true (by first | (with_reducible assumption) | assumption)
                obtain ⟨ad105, e105, hx105_0, hx105_1, hx105_2, hx105_3, hx105_4, hx105_5, hx105_6, hx105_7, hx105_8, hx105_9, hx105_10⟩ := at_T35 HR0.out x4_1 p105 q105
                have hw105_10 := hx105_10
                have hw105_9 := hx105_9
                have hw105_8 := hx105_8
                have hw105_7 := hx105_7
                have hw105_6 := hx105_6
                have hw105_5 := hx105_5
                have hw105_4 := hx105_4
                have hw105_3 := hx105_3
                have hw105_2 := hx105_2
                have hw105_1 := hx105_1
                have hw105_0 := hx105_0
                obtain rfl : ad101 = ad105 := (by injection e105)
                replace hx105_0 := (HB.out.cell (World.block_lt_of_cell? w _ hx105_0)).trans hx105_0
                replace hx105_1 := (HB.out.cell (World.block_lt_of_cell? w _ hx105_1)).trans hx105_1
                replace hx105_2 := (HB.out.cell (World.block_lt_of_cell? w _ hx105_2)).trans hx105_2
                replace hx105_3 := (HB.out.cell (World.block_lt_of_cell? w _ hx105_3)).trans hx105_3
                replace hx105_4 := (HB.out.cell (World.block_lt_of_cell? w _ hx105_4)).trans hx105_4
                replace hx105_5 := (HB.out.cell (World.block_lt_of_cell? w _ hx105_5)).trans hx105_5
                replace hx105_6 := (HB.out.cell (World.block_lt_of_cell? w _ hx105_6)).trans hx105_6
                replace hx105_7 := (HB.out.cell (World.block_lt_of_cell? w _ hx105_7)).trans hx105_7
                replace hx105_8 := (HB.out.cell (World.block_lt_of_cell? w _ hx105_8)).trans hx105_8
                replace hx105_9 := (HB.out.cell (World.block_lt_of_cell? w _ hx105_9)).trans hx105_9
                replace hx105_10 := (HB.out.cell (World.block_lt_of_cell? w _ hx105_10)).trans hx105_10
                replace p105 := eq_true p105
                replace q105 := eq_true q105
                obtain ⟨Ao19, co19, eo19⟩ := Kd.R_slice HO_3.out
                (first | subst eo19 | (injection eo19 with f1_ f2_ f3_; have f4_ := f1_.symm; have f5_ := f3_.symm; clear f1_ f2_ f3_; subst f4_; subst f5_))
                have p106 : 0 ≤ ((ji10) : Int) := of_decide_eq_true (by first | (with_reducible assumption) | assumption)
                have q106 : (ji10) < (x3_2.length : Int) := of_decide_eq_true (by first | (with_reducible assumption) | assumption)
                obtain ⟨ad106, e106, hx106_0, hx106_1, hx106_2, hx106_3, hx106_4, hx106_5, hx106_6, hx106_7, hx106_8, hx106_9, hx106_10⟩ := at_T35 (Kd.R_reads' HO_3.out).2.2 (ji10) p106 q106
                cases e106
                replace p106 := eq_true p106
                replace q106 := eq_true q106
                refine start_ (n := 16) (S := fun w' => w'.cell? (ad101.add ((x4_1).toNat * 11)) = some (.string ((rd_T35 l0 x4_1).f0)) ∧ w'.cell? ⟨(ad101.add ((x4_1).toNat * 11)).block, (ad101.add ((x4_1).toNat * 11)).off + 1, none⟩ = some (.int .i64 ((rd_T35 l0 x4_1).f1)) ∧ w'.cell? ⟨(ad101.add ((x4_1).toNat * 11)).block, (ad101.add ((x4_1).toNat * 11)).off + 2, none⟩ = some (.int .i64 ((rd_T35 l0 x4_1).f2)) ∧ w'.cell? ⟨(ad101.add ((x4_1).toNat * 11)).block, (ad101.add ((x4_1).toNat * 11)).off + 3, none⟩ = some (.int .i64 ((rd_T35 l0 x4_1).f3.f0)) ∧ w'.cell? ⟨(ad101.add ((x4_1).toNat * 11)).block, (ad101.add ((x4_1).toNat * 11)).off + 4, none⟩ = some (.int .i64 ((rd_T35 l0 x4_1).f3.f1)) ∧ w'.cell? ⟨(ad101.add ((x4_1).toNat * 11)).block, (ad101.add ((x4_1).toNat * 11)).off + 5, none⟩ = some (.int .i64 ((rd_T35 l0 x4_1).f3.f2)) ∧ w'.cell? ⟨(ad101.add ((x4_1).toNat * 11)).block, (ad101.add ((x4_1).toNat * 11)).off + 6, none⟩ = some (.int .i64 ((rd_T35 l0 x4_1).f3.f3)) ∧ w'.cell? ⟨(ad101.add ((x4_1).toNat * 11)).block, (ad101.add ((x4_1).toNat * 11)).off + 7, none⟩ = some (.int .i64 ((rd_T35 l0 x4_1).f3.f4)) ∧ w'.cell? ⟨(ad101.add ((x4_1).toNat * 11)).block, (ad101.add ((x4_1).toNat * 11)).off + 8, none⟩ = some (.string ((rd_T35 l0 x4_1).f4)) ∧ w'.cell? ⟨(ad101.add ((x4_1).toNat * 11)).block, (ad101.add ((x4_1).toNat * 11)).off + 9, none⟩ = some (.string ((rd_T35 l0 x4_1).f5)) ∧ w'.cell? ⟨(ad101.add ((x4_1).toNat * 11)).block, (ad101.add ((x4_1).toNat * 11)).off + 10, none⟩ = some (.int .i64 ((rd_T35 l0 x4_1).f6)) ∧ w'.cell? (ad106.add (((ji10)).toNat * 11)) = some (.string ((rd_T35 x3_2 (ji10)).f0)) ∧ w'.cell? ⟨(ad106.add (((ji10)).toNat * 11)).block, (ad106.add (((ji10)).toNat * 11)).off + 1, none⟩ = some (.int .i64 ((rd_T35 x3_2 (ji10)).f1)) ∧ w'.cell? ⟨(ad106.add (((ji10)).toNat * 11)).block, (ad106.add (((ji10)).toNat * 11)).off + 2, none⟩ = some (.int .i64 ((rd_T35 x3_2 (ji10)).f2)) ∧ w'.cell? ⟨(ad106.add (((ji10)).toNat * 11)).block, (ad106.add (((ji10)).toNat * 11)).off + 3, none⟩ = some (.int .i64 ((rd_T35 x3_2 (ji10)).f3.f0)) ∧ w'.cell? ⟨(ad106.add (((ji10)).toNat * 11)).block, (ad106.add (((ji10)).toNat * 11)).off + 4, none⟩ = some (.int .i64 ((rd_T35 x3_2 (ji10)).f3.f1)) ∧ w'.cell? ⟨(ad106.add (((ji10)).toNat * 11)).block, (ad106.add (((ji10)).toNat * 11)).off + 5, none⟩ = some (.int .i64 ((rd_T35 x3_2 (ji10)).f3.f2)) ∧ w'.cell? ⟨(ad106.add (((ji10)).toNat * 11)).block, (ad106.add (((ji10)).toNat * 11)).off + 6, none⟩ = some (.int .i64 ((rd_T35 x3_2 (ji10)).f3.f3)) ∧ w'.cell? ⟨(ad106.add (((ji10)).toNat * 11)).block, (ad106.add (((ji10)).toNat * 11)).off + 7, none⟩ = some (.int .i64 ((rd_T35 x3_2 (ji10)).f3.f4)) ∧ w'.cell? ⟨(ad106.add (((ji10)).toNat * 11)).block, (ad106.add (((ji10)).toNat * 11)).off + 8, none⟩ = some (.string ((rd_T35 x3_2 (ji10)).f4)) ∧ w'.cell? ⟨(ad106.add (((ji10)).toNat * 11)).block, (ad106.add (((ji10)).toNat * 11)).off + 9, none⟩ = some (.string ((rd_T35 x3_2 (ji10)).f5)) ∧ w'.cell? ⟨(ad106.add (((ji10)).toNat * 11)).block, (ad106.add (((ji10)).toNat * 11)).off + 10, none⟩ = some (.int .i64 ((rd_T35 x3_2 (ji10)).f6))) (ds := []) #[Z_,Z_,Z_,Z_,Z_,Z_,Z_,Z_,Z_,Z_,Z_,Z_,Z_,Z_,Z_,Z_] (by kernel_rfl) rfl rfl ⟨((HB.out.cell (World.block_lt_of_cell? w _ hw105_0)).trans hw105_0), ((HB.out.cell (World.block_lt_of_cell? w _ hw105_1)).trans hw105_1), ((HB.out.cell (World.block_lt_of_cell? w _ hw105_2)).trans hw105_2), ((HB.out.cell (World.block_lt_of_cell? w _ hw105_3)).trans hw105_3), ((HB.out.cell (World.block_lt_of_cell? w _ hw105_4)).trans hw105_4), ((HB.out.cell (World.block_lt_of_cell? w _ hw105_5)).trans hw105_5), ((HB.out.cell (World.block_lt_of_cell? w _ hw105_6)).trans hw105_6), ((HB.out.cell (World.block_lt_of_cell? w _ hw105_7)).trans hw105_7), ((HB.out.cell (World.block_lt_of_cell? w _ hw105_8)).trans hw105_8), ((HB.out.cell (World.block_lt_of_cell? w _ hw105_9)).trans hw105_9), ((HB.out.cell (World.block_lt_of_cell? w _ hw105_10)).trans hw105_10), hx106_0, hx106_1, hx106_2, hx106_3, hx106_4, hx106_5, hx106_6, hx106_7, hx106_8, hx106_9, hx106_10⟩ (fun hHeld => ?_); refine with_tabW remoraref20_Sort.tab7 remoraref20_Sort.bits7 (fun HT_ HW_ => ?_)
                generalize wr.drew = w18 at HO_3 HB hx105_0 hx105_1 hx105_10 hx105_2 hx105_3 hx105_4 hx105_5 hx105_6 hx105_7 hx105_8 hx105_9 hx106_0 hx106_1 hx106_10 hx106_2 hx106_3 hx106_4 hx106_5 hx106_6 hx106_7 hx106_8 hx106_9 hHeld ⊢
                refine pure_ (i := 0) (N := some 21) (v := ?_) (a' := ?_) #[Y_,Z_,Z_,Z_,Z_,Z_,Z_,Z_,Z_,Z_,Z_,Z_,Z_,Z_,Z_,Z_] rfl rfl (any_of HT_.out (by kernel_rfl)) (fun _ _ _ h => h) (Or.inl ⟨by rfl, ?_⟩) ?_ ?_
                rotate_left
                ·intro w';go_simp;with_reducible rfl
                rotate_left
                ·simp only [Act.put, nS, i64_w, i32_w];rfl
                refine pure_ (i := 1) (N := some 22) (v := ?_) (a' := ?_) #[Y_,Y_,Z_,Z_,Z_,Z_,Z_,Z_,Z_,Z_,Z_,Z_,Z_,Z_,Z_,Z_] rfl rfl (any_of HT_.out (by kernel_rfl)) (fun _ _ _ h => h) (Or.inl ⟨by rfl, ?_⟩) ?_ ?_
                rotate_left
                ·intro w';go_simp;with_reducible rfl
                rotate_left
                ·simp only [Act.put, nS, i64_w, i32_w];rfl
                refine pure_ (i := 2) (N := some 23) (v := ?_) (a' := ?_) #[Y_,Y_,Y_,Z_,Z_,Z_,Z_,Z_,Z_,Z_,Z_,Z_,Z_,Z_,Z_,Z_] rfl rfl (any_of HT_.out (by kernel_rfl)) (fun _ _ _ h => h) (Or.inl ⟨by rfl, ?_⟩) ?_ ?_
                rotate_left
                ·intro w';go_simp;with_reducible rfl
                rotate_left
                ·simp only [Act.put, nS, i64_w, i32_w];rfl
                refine pure_ (i := 3) (N := some 24) (v := ?_) (a' := ?_) #[Y_,Y_,Y_,Y_,Z_,Z_,Z_,Z_,Z_,Z_,Z_,Z_,Z_,Z_,Z_,Z_] rfl rfl (any_of HT_.out (by kernel_rfl)) (fun _ _ _ h => h) (Or.inl ⟨by rfl, ?_⟩) ?_ ?_
                rotate_left
                ·intro w';go_simp;with_reducible rfl
                rotate_left
                ·simp only [Act.put, nS, i64_w, i32_w];rfl
                refine pure_ (i := 4) (N := some 25) (v := ?_) (a' := ?_) #[Y_,Y_,Y_,Y_,Y_,Z_,Z_,Z_,Z_,Z_,Z_,Z_,Z_,Z_,Z_,Z_] rfl rfl (any_of HT_.out (by kernel_rfl)) (fun _ _ _ h => h) (Or.inl ⟨by rfl, ?_⟩) ?_ ?_
                rotate_left
                ·intro w';go_simp;with_reducible rfl
                rotate_left
                ·simp only [Act.put, nS, i64_w, i32_w];rfl
                refine pure_ (i := 5) (N := some 26) (v := ?_) (a' := ?_) #[Y_,Y_,Y_,Y_,Y_,Y_,Z_,Z_,Z_,Z_,Z_,Z_,Z_,Z_,Z_,Z_] rfl rfl (any_of HT_.out (by kernel_rfl)) (fun _ _ _ h => h) (Or.inl ⟨by rfl, ?_⟩) ?_ ?_
                rotate_left
                ·intro w';go_simp;with_reducible rfl
                rotate_left
                ·simp only [Act.put, nS, i64_w, i32_w];rfl
                refine pure_ (i := 6) (N := some 27) (v := ?_) (a' := ?_) #[Y_,Y_,Y_,Y_,Y_,Y_,Y_,Z_,Z_,Z_,Z_,Z_,Z_,Z_,Z_,Z_] rfl rfl (any_of HT_.out (by kernel_rfl)) (fun _ _ _ h => h) (Or.inl ⟨by rfl, ?_⟩) ?_ ?_
                rotate_left
                ·intro w';go_simp;with_reducible rfl
                rotate_left
                ·simp only [Act.put, nS, i64_w, i32_w];rfl
                refine pure_ (i := 8) (N := some 29) (v := ?_) (a' := ?_) #[Y_,Y_,Y_,Y_,Y_,Y_,Y_,Z_,Y_,Z_,Z_,Z_,Z_,Z_,Z_,Z_] rfl rfl (any_of HT_.out (by kernel_rfl)) (fun _ _ _ h => h) (Or.inl ⟨by rfl, ?_⟩) ?_ ?_
                rotate_left
                ·intro w';go_simp;with_reducible rfl
                rotate_left
                ·simp only [Act.put, nS, i64_w, i32_w];rfl
                refine pure_ (i := 9) (N := some 30) (v := ?_) (a' := ?_) #[Y_,Y_,Y_,Y_,Y_,Y_,Y_,Z_,Y_,Y_,Z_,Z_,Z_,Z_,Z_,Z_] rfl rfl (any_of HT_.out (by kernel_rfl)) (fun _ _ _ h => h) (Or.inl ⟨by rfl, ?_⟩) ?_ ?_
                rotate_left
                ·intro w';go_simp;with_reducible rfl
                rotate_left
                ·simp only [Act.put, nS, i64_w, i32_w];rfl
                refine pure_ (i := 10) (N := some 31) (v := ?_) (a' := ?_) #[Y_,Y_,Y_,Y_,Y_,Y_,Y_,Z_,Y_,Y_,Y_,Z_,Z_,Z_,Z_,Z_] rfl rfl (any_of HT_.out (by kernel_rfl)) (fun _ _ _ h => h) (Or.inl ⟨by rfl, ?_⟩) ?_ ?_
                rotate_left
                ·intro w';go_simp;with_reducible rfl
                rotate_left
                ·simp only [Act.put, nS, i64_w, i32_w];rfl
                refine pure_ (i := 11) (N := some 32) (v := ?_) (a' := ?_) #[Y_,Y_,Y_,Y_,Y_,Y_,Y_,Z_,Y_,Y_,Y_,Y_,Z_,Z_,Z_,Z_] rfl rfl (any_of HT_.out (by kernel_rfl)) (fun _ _ _ h => h) (Or.inl ⟨by rfl, ?_⟩) ?_ ?_
                rotate_left
                ·intro w';go_simp;with_reducible rfl
                rotate_left
                ·simp only [Act.put, nS, i64_w, i32_w];rfl
                refine pure_ (i := 12) (N := some 33) (v := ?_) (a' := ?_) #[Y_,Y_,Y_,Y_,Y_,Y_,Y_,Z_,Y_,Y_,Y_,Y_,Y_,Z_,Z_,Z_] rfl rfl (any_of HT_.out (by kernel_rfl)) (fun _ _ _ h => h) (Or.inl ⟨by rfl, ?_⟩) ?_ ?_
                rotate_left
                ·intro w';go_simp;with_reducible rfl
                rotate_left
                ·simp only [Act.put, nS, i64_w, i32_w];rfl
                refine take_ (i := 7) (N := some 28) (v := ?_) (a' := ?_) #[Y_,Y_,Y_,Y_,Y_,Y_,Y_,Y_,Y_,Y_,Y_,Y_,Y_,Z_,Z_,Z_] rfl rfl (take_ofW HT_.out HW_.out (by kernel_rfl)) (fun _ _ _ h => h) (Or.inl ⟨by rfl, ?_⟩) hHeld ?_ ?_
                rotate_left
                ·rintro w' ⟨s0, s1, s2, s3, s4, s5, s6, s7, s8, s9, s10, s11, s12, s13, s14, s15, s16, s17, s18, s19, s20, s21⟩
                 go_simp
                 with_reducible rfl
                rotate_left
                ·simp only [Act.put, nS, i64_w, i32_w];rfl
                refine take_ (i := 13) (N := some 34) (v := ?_) (a' := ?_) #[Y_,Y_,Y_,Y_,Y_,Y_,Y_,Y_,Y_,Y_,Y_,Y_,Y_,Y_,Z_,Z_] rfl rfl (take_ofW HT_.out HW_.out (by kernel_rfl)) (fun _ _ _ h => h) (Or.inl ⟨by rfl, ?_⟩) hHeld ?_ ?_
                rotate_left
                ·rintro w' ⟨s0, s1, s2, s3, s4, s5, s6, s7, s8, s9, s10, s11, s12, s13, s14, s15, s16, s17, s18, s19, s20, s21⟩
                 go_simp
                 with_reducible rfl
                rotate_left
                ·simp only [Act.put, nS, i64_w, i32_w];rfl
                refine one_ (i := 14) (N := some 35) #[Y_,Y_,Y_,Y_,Y_,Y_,Y_,Y_,Y_,Y_,Y_,Y_,Y_,Y_,Y_,Z_] rfl rfl (one_of HT_.out (by kernel_rfl)) (by decide) (fun K hK => ?_)
                refine goes_ Tryd.func24 (by kernel_rfl) rfl #[.string ((rd_T35 l0 x4_1).f0), .string ((rd_T35 x3_2 (ji10)).f0)] (by rfl) rfl rfl (by (try simp only [List.map_toArray, List.map_cons, List.map_nil]); first | done | (simp only [hji10]; rfl) | rfl | (simp only [List.length_drop, List.length_take]; rfl)) ?_
                with_reducible refine (remoraref13_Less.calls k2 ((rd_T35 l0 x4_1).f0) ((rd_T35 x3_2 (ji10)).f0) true _ A13.out).mono ?_
                rintro e w20 ⟨rfl, hb⟩
                have HS11_ := (hb.cell (World.block_lt_of_cell? _ _ (hHeld.2.2.2.2.2.2.2.2.2.2.2.1))).trans (hHeld.2.2.2.2.2.2.2.2.2.2.2.1)
                have HS12_ := (hb.cell (World.block_lt_of_cell? _ _ (hHeld.2.2.2.2.2.2.2.2.2.2.2.2.1))).trans (hHeld.2.2.2.2.2.2.2.2.2.2.2.2.1)
                have HS13_ := (hb.cell (World.block_lt_of_cell? _ _ (hHeld.2.2.2.2.2.2.2.2.2.2.2.2.2.1))).trans (hHeld.2.2.2.2.2.2.2.2.2.2.2.2.2.1)
                have HS14_ := (hb.cell (World.block_lt_of_cell? _ _ (hHeld.2.2.2.2.2.2.2.2.2.2.2.2.2.2.1))).trans (hHeld.2.2.2.2.2.2.2.2.2.2.2.2.2.2.1)
                have HS15_ := (hb.cell (World.block_lt_of_cell? _ _ (hHeld.2.2.2.2.2.2.2.2.2.2.2.2.2.2.2.1))).trans (hHeld.2.2.2.2.2.2.2.2.2.2.2.2.2.2.2.1)
                have HS16_ := (hb.cell (World.block_lt_of_cell? _ _ (hHeld.2.2.2.2.2.2.2.2.2.2.2.2.2.2.2.2.1))).trans (hHeld.2.2.2.2.2.2.2.2.2.2.2.2.2.2.2.2.1)
                have HS17_ := (hb.cell (World.block_lt_of_cell? _ _ (hHeld.2.2.2.2.2.2.2.2.2.2.2.2.2.2.2.2.2.1))).trans (hHeld.2.2.2.2.2.2.2.2.2.2.2.2.2.2.2.2.2.1)
                have HS18_ := (hb.cell (World.block_lt_of_cell? _ _ (hHeld.2.2.2.2.2.2.2.2.2.2.2.2.2.2.2.2.2.2.1))).trans (hHeld.2.2.2.2.2.2.2.2.2.2.2.2.2.2.2.2.2.2.1)
                have HS19_ := (hb.cell (World.block_lt_of_cell? _ _ (hHeld.2.2.2.2.2.2.2.2.2.2.2.2.2.2.2.2.2.2.2.1))).trans (hHeld.2.2.2.2.2.2.2.2.2.2.2.2.2.2.2.2.2.2.2.1)
                have HS20_ := (hb.cell (World.block_lt_of_cell? _ _ (hHeld.2.2.2.2.2.2.2.2.2.2.2.2.2.2.2.2.2.2.2.2.1))).trans (hHeld.2.2.2.2.2.2.2.2.2.2.2.2.2.2.2.2.2.2.2.2.1)
                have HS21_ := (hb.cell (World.block_lt_of_cell? _ _ (hHeld.2.2.2.2.2.2.2.2.2.2.2.2.2.2.2.2.2.2.2.2.2))).trans (hHeld.2.2.2.2.2.2.2.2.2.2.2.2.2.2.2.2.2.2.2.2.2)
                refine ⟨_, rfl, ?_⟩
                have n0_ := Aside0.mk (Kd.R_below (upR HO_3.out) hb)
                have n1_ := Aside0.mk (below_step (upB HB.out) hb)
                clear HO_3
                clear HB
                have HO_3 := n0_
                have HB := n1_
                clear n0_ n1_
                (try clear hb)
                (try clear hb2)
                (try clear hk)
                (try clear hi)
                refine hK.out _ _ ⟨((HB.out.cell (World.block_lt_of_cell? w _ hw105_0)).trans hw105_0), ((HB.out.cell (World.block_lt_of_cell? w _ hw105_1)).trans hw105_1), ((HB.out.cell (World.block_lt_of_cell? w _ hw105_2)).trans hw105_2), ((HB.out.cell (World.block_lt_of_cell? w _ hw105_3)).trans hw105_3), ((HB.out.cell (World.block_lt_of_cell? w _ hw105_4)).trans hw105_4), ((HB.out.cell (World.block_lt_of_cell? w _ hw105_5)).trans hw105_5), ((HB.out.cell (World.block_lt_of_cell? w _ hw105_6)).trans hw105_6), ((HB.out.cell (World.block_lt_of_cell? w _ hw105_7)).trans hw105_7), ((HB.out.cell (World.block_lt_of_cell? w _ hw105_8)).trans hw105_8), ((HB.out.cell (World.block_lt_of_cell? w _ hw105_9)).trans hw105_9), ((HB.out.cell (World.block_lt_of_cell? w _ hw105_10)).trans hw105_10), HS11_, HS12_, HS13_, HS14_, HS15_, HS16_, HS17_, HS18_, HS19_, HS20_, HS21_⟩ (fun hHeld => ?_)
                clear hK K
                refine norm_ (a' := ?_) ?_ ?_
                rotate_left
                ·show Act.put _ (some 35) _ = _
                 simp only [Act.put, nS, i64_w, i32_w]
                 rfl
                refine pure_ (i := 15) (N := some 36) (v := ?_) (a' := ?_) #[Y_,Y_,Y_,Y_,Y_,Y_,Y_,Y_,Y_,Y_,Y_,Y_,Y_,Y_,Y_,Y_] rfl rfl (any_of HT_.out (by kernel_rfl)) (fun _ _ _ h => h) (Or.inl ⟨by rfl, ?_⟩) ?_ ?_
                rotate_left
                ·intro w';go_simp;with_reducible rfl
                rotate_left
                ·simp only [Act.put, nS, i64_w, i32_w];rfl
                refine done_ (done_of HT_.out (by kernel_rfl)) ?_
                have p108 : 0 ≤ ((ji10) : Int) := of_decide_eq_true (by first | (with_reducible assumption) | assumption)
                have q108 : (ji10) < (x3_2.length : Int) := of_decide_eq_true (by first | (with_reducible assumption) | assumption)
                obtain ⟨ad108, e108, hx108_0, hx108_1, hx108_2, hx108_3, hx108_4, hx108_5, hx108_6, hx108_7, hx108_8, hx108_9, hx108_10⟩ := at_T35 (Kd.R_reads' HO_3.out).2.2 (ji10) p108 q108
                obtain rfl : ad106 = ad108 := (by injection e108)
                replace p108 := eq_true p108
                replace q108 := eq_true q108
                have p17 : 0 ≤ (x5_2 : Int) := of_decide_eq_true (by first | (with_reducible assumption) | assumption)
                have q17 : (x5_2 : Int) < ((x3_2.length : Int) : Int) := of_decide_eq_true (by first | (with_reducible assumption) | assumption)
                obtain ⟨go17, co17, eo17, gb17, gl17, cl17, HG17⟩ := Kd.R_form HO_3.out (by omega)
                (first | cases eo17 | (injection eo17 with ea_ en_ ec_; (first | subst ea_ | (injection ea_ with ea_; subst ea_)); subst ec_; clear en_))
                have GB17 := Aside0.mk gb17
                have GG17 := Aside0.mk HG17
                clear gb17 gl17 HG17
                (first | simp only [add_plain] at hx106_0 | skip)
                (first | simp only [add_plain] at hx106_1 | skip)
                (first | simp only [add_plain] at hx106_2 | skip)
                (first | simp only [add_plain] at hx106_3 | skip)
                (first | simp only [add_plain] at hx106_4 | skip)
                (first | simp only [add_plain] at hx106_5 | skip)
                (first | simp only [add_plain] at hx106_6 | skip)
                (first | simp only [add_plain] at hx106_7 | skip)
                (first | simp only [add_plain] at hx106_8 | skip)
                (first | simp only [add_plain] at hx106_9 | skip)
                (first | simp only [add_plain] at hx106_10 | skip)
                (first | simp only [add_plain] at hx108_0 | skip)
                (first | simp only [add_plain] at hx108_1 | skip)
                (first | simp only [add_plain] at hx108_2 | skip)
                (first | simp only [add_plain] at hx108_3 | skip)
                (first | simp only [add_plain] at hx108_4 | skip)
                (first | simp only [add_plain] at hx108_5 | skip)
                (first | simp only [add_plain] at hx108_6 | skip)
                (first | simp only [add_plain] at hx108_7 | skip)
                (first | simp only [add_plain] at hx108_8 | skip)
                (first | simp only [add_plain] at hx108_9 | skip)
                (first | simp only [add_plain] at hx108_10 | skip)
                obtain ⟨ce17, hcl17, hM17, hcc17, hfr17⟩ := Kd.R_elem HO_3.out z35 (x5_2 : Int) p17 q17
                obtain rfl := k35_openM hM17
                have hx17_0 : w20.cell? ⟨go17, (x5_2 : Int).toNat * 11, none⟩ = some (.string ((rd_T35 x3_2 x5_2).f0)) := hcc17 0 _ rfl
                have hx17_1 : w20.cell? ⟨go17, (x5_2 : Int).toNat * 11 + 1, none⟩ = some (.int .i64 ((rd_T35 x3_2 x5_2).f1)) := hcc17 1 _ rfl
                have hx17_2 : w20.cell? ⟨go17, (x5_2 : Int).toNat * 11 + 2, none⟩ = some (.int .i64 ((rd_T35 x3_2 x5_2).f2)) := hcc17 2 _ rfl
                have hx17_3 : w20.cell? ⟨go17, (x5_2 : Int).toNat * 11 + 3, none⟩ = some (.int .i64 ((rd_T35 x3_2 x5_2).f3.f0)) := hcc17 3 _ rfl
                have hx17_4 : w20.cell? ⟨go17, (x5_2 : Int).toNat * 11 + 4, none⟩ = some (.int .i64 ((rd_T35 x3_2 x5_2).f3.f1)) := hcc17 4 _ rfl
                have hx17_5 : w20.cell? ⟨go17, (x5_2 : Int).toNat * 11 + 5, none⟩ = some (.int .i64 ((rd_T35 x3_2 x5_2).f3.f2)) := hcc17 5 _ rfl
                have hx17_6 : w20.cell? ⟨go17, (x5_2 : Int).toNat * 11 + 6, none⟩ = some (.int .i64 ((rd_T35 x3_2 x5_2).f3.f3)) := hcc17 6 _ rfl
                have hx17_7 : w20.cell? ⟨go17, (x5_2 : Int).toNat * 11 + 7, none⟩ = some (.int .i64 ((rd_T35 x3_2 x5_2).f3.f4)) := hcc17 7 _ rfl
                have hx17_8 : w20.cell? ⟨go17, (x5_2 : Int).toNat * 11 + 8, none⟩ = some (.string ((rd_T35 x3_2 x5_2).f4)) := hcc17 8 _ rfl
                have hx17_9 : w20.cell? ⟨go17, (x5_2 : Int).toNat * 11 + 9, none⟩ = some (.string ((rd_T35 x3_2 x5_2).f5)) := hcc17 9 _ rfl
                have hx17_10 : w20.cell? ⟨go17, (x5_2 : Int).toNat * 11 + 10, none⟩ = some (.int .i64 ((rd_T35 x3_2 x5_2).f6)) := hcc17 10 _ rfl
                have hf17_0 : w20.frozen? ⟨go17, (x5_2 : Int).toNat * 11, none⟩ = false := hfr17 0
                have hf17_1 : w20.frozen? ⟨go17, (x5_2 : Int).toNat * 11 + 1, none⟩ = false := hfr17 1
                have hf17_2 : w20.frozen? ⟨go17, (x5_2 : Int).toNat * 11 + 2, none⟩ = false := hfr17 2
                have hf17_3 : w20.frozen? ⟨go17, (x5_2 : Int).toNat * 11 + 3, none⟩ = false := hfr17 3
                have hf17_4 : w20.frozen? ⟨go17, (x5_2 : Int).toNat * 11 + 4, none⟩ = false := hfr17 4
                have hf17_5 : w20.frozen? ⟨go17, (x5_2 : Int).toNat * 11 + 5, none⟩ = false := hfr17 5
                have hf17_6 : w20.frozen? ⟨go17, (x5_2 : Int).toNat * 11 + 6, none⟩ = false := hfr17 6
                have hf17_7 : w20.frozen? ⟨go17, (x5_2 : Int).toNat * 11 + 7, none⟩ = false := hfr17 7
                have hf17_8 : w20.frozen? ⟨go17, (x5_2 : Int).toNat * 11 + 8, none⟩ = false := hfr17 8
                have hf17_9 : w20.frozen? ⟨go17, (x5_2 : Int).toNat * 11 + 9, none⟩ = false := hfr17 9
                have hf17_10 : w20.frozen? ⟨go17, (x5_2 : Int).toNat * 11 + 10, none⟩ = false := hfr17 10
                clear hcl17 hcc17 hfr17 hM17
                replace p17 := eq_true p17
                replace q17 := eq_true q17
                have HX21 := Aside0.mk (show Kd.R k35 35 w20 w.heap.size (fun _ => True) (.slice (some ⟨go17, 0, none⟩) x3_2.length co19) x3_2 from (upR HO_3.out))
                obtain ⟨ce21, hcl21, hM21, hcc21, hfr21⟩ := Kd.R_elem HX21.out z35 (x5_2 : Int) (of_decide_eq_true (by first | (with_reducible assumption) | assumption)) (by have h_ : (x5_2 : Int) < ((x3_2.length : Int) : Int) := of_decide_eq_true (by first | (with_reducible assumption) | assumption); first | exact h_ | (have e_ := (Kd.R_reads' HO_3.out).1; omega) | simpa using h_)
                obtain rfl := k35_openM hM21
                have HP21 := Kd.R_seg HX21.out (x5_2 : Int) (of_decide_eq_true (by first | (with_reducible assumption) | assumption)) (by have h_ : (x5_2 : Int) < ((x3_2.length : Int) : Int) := of_decide_eq_true (by first | (with_reducible assumption) | assumption); first | exact h_ | (have e_ := (Kd.R_reads' HO_3.out).1; omega) | simpa using h_) (seg := [.string ((rd_T35 x3_2 (ji10)).f0), .int .i64 ((rd_T35 x3_2 (ji10)).f1), .int .i64 ((rd_T35 x3_2 (ji10)).f2), .int .i64 ((rd_T35 x3_2 (ji10)).f3.f0), .int .i64 ((rd_T35 x3_2 (ji10)).f3.f1), .int .i64 ((rd_T35 x3_2 (ji10)).f3.f2), .int .i64 ((rd_T35 x3_2 (ji10)).f3.f3), .int .i64 ((rd_T35 x3_2 (ji10)).f3.f4), .string ((rd_T35 x3_2 (ji10)).f4), .string ((rd_T35 x3_2 (ji10)).f5), .int .i64 ((rd_T35 x3_2 (ji10)).f6)]) (j := 0) hcl21 hcc21 (show 11 ≤ 11 from by decide) (x' := (⟨(rd_T35 x3_2 (ji10)).f0, (rd_T35 x3_2 (ji10)).f1, (rd_T35 x3_2 (ji10)).f2, (⟨(rd_T35 x3_2 (ji10)).f3.f0, (rd_T35 x3_2 (ji10)).f3.f1, (rd_T35 x3_2 (ji10)).f3.f2, (rd_T35 x3_2 (ji10)).f3.f3, (rd_T35 x3_2 (ji10)).f3.f4⟩ : S33), (rd_T35 x3_2 (ji10)).f4, (rd_T35 x3_2 (ji10)).f5, (rd_T35 x3_2 (ji10)).f6⟩ : S35)) (k35_mkM _ _ _ (⟨(rd_T35 x3_2 (ji10)).f0, (rd_T35 x3_2 (ji10)).f1, (rd_T35 x3_2 (ji10)).f2, (⟨(rd_T35 x3_2 (ji10)).f3.f0, (rd_T35 x3_2 (ji10)).f3.f1, (rd_T35 x3_2 (ji10)).f3.f2, (rd_T35 x3_2 (ji10)).f3.f3, (rd_T35 x3_2 (ji10)).f3.f4⟩ : S33), (rd_T35 x3_2 (ji10)).f4, (rd_T35 x3_2 (ji10)).f5, (rd_T35 x3_2 (ji10)).f6⟩ : S35) ) (fun _ hk => hk)
                have hx21_0 := hcc21 0 _ rfl
                (try simp only [show (k35).sz = 11 from rfl, Nat.mul_one, Nat.add_zero] at hx21_0)
                have hf21_0 := hfr21 0
                (try simp only [show (k35).sz = 11 from rfl, Nat.mul_one, Nat.add_zero] at hf21_0)
                have hx21_1 := hcc21 1 _ rfl
                (try simp only [show (k35).sz = 11 from rfl, Nat.mul_one, Nat.add_zero] at hx21_1)
                have hf21_1 := hfr21 1
                (try simp only [show (k35).sz = 11 from rfl, Nat.mul_one, Nat.add_zero] at hf21_1)
                have hx21_2 := hcc21 2 _ rfl
                (try simp only [show (k35).sz = 11 from rfl, Nat.mul_one, Nat.add_zero] at hx21_2)
                have hf21_2 := hfr21 2
                (try simp only [show (k35).sz = 11 from rfl, Nat.mul_one, Nat.add_zero] at hf21_2)
                have hx21_3 := hcc21 3 _ rfl
                (try simp only [show (k35).sz = 11 from rfl, Nat.mul_one, Nat.add_zero] at hx21_3)
                have hf21_3 := hfr21 3
                (try simp only [show (k35).sz = 11 from rfl, Nat.mul_one, Nat.add_zero] at hf21_3)
                have hx21_4 := hcc21 4 _ rfl
                (try simp only [show (k35).sz = 11 from rfl, Nat.mul_one, Nat.add_zero] at hx21_4)
                have hf21_4 := hfr21 4
                (try simp only [show (k35).sz = 11 from rfl, Nat.mul_one, Nat.add_zero] at hf21_4)
                have hx21_5 := hcc21 5 _ rfl
                (try simp only [show (k35).sz = 11 from rfl, Nat.mul_one, Nat.add_zero] at hx21_5)
                have hf21_5 := hfr21 5
                (try simp only [show (k35).sz = 11 from rfl, Nat.mul_one, Nat.add_zero] at hf21_5)
                have hx21_6 := hcc21 6 _ rfl
                (try simp only [show (k35).sz = 11 from rfl, Nat.mul_one, Nat.add_zero] at hx21_6)
                have hf21_6 := hfr21 6
                (try simp only [show (k35).sz = 11 from rfl, Nat.mul_one, Nat.add_zero] at hf21_6)
                have hx21_7 := hcc21 7 _ rfl
                (try simp only [show (k35).sz = 11 from rfl, Nat.mul_one, Nat.add_zero] at hx21_7)
                have hf21_7 := hfr21 7
                (try simp only [show (k35).sz = 11 from rfl, Nat.mul_one, Nat.add_zero] at hf21_7)
                have hx21_8 := hcc21 8 _ rfl
                (try simp only [show (k35).sz = 11 from rfl, Nat.mul_one, Nat.add_zero] at hx21_8)
                have hf21_8 := hfr21 8
                (try simp only [show (k35).sz = 11 from rfl, Nat.mul_one, Nat.add_zero] at hf21_8)
                have hx21_9 := hcc21 9 _ rfl
                (try simp only [show (k35).sz = 11 from rfl, Nat.mul_one, Nat.add_zero] at hx21_9)
                have hf21_9 := hfr21 9
                (try simp only [show (k35).sz = 11 from rfl, Nat.mul_one, Nat.add_zero] at hf21_9)
                have hx21_10 := hcc21 10 _ rfl
                (try simp only [show (k35).sz = 11 from rfl, Nat.mul_one, Nat.add_zero] at hx21_10)
                have hf21_10 := hfr21 10
                (try simp only [show (k35).sz = 11 from rfl, Nat.mul_one, Nat.add_zero] at hf21_10)
                clear hcl21 hcc21 hfr21 hM21
                try go_wp2_with (first | ((with_reducible refine gate_store (t := 35) (p := 44) rfl ?_); refine store_event (t := 35) (p := 44) (v := ?vo_w22) (w1 := (((((((((((w20.setCell ⟨go17, (x5_2 : Int).toNat * 11, none⟩ (.string ((rd_T35 x3_2 (ji10)).f0))).setCell ⟨go17, (x5_2 : Int).toNat * 11 + 1, none⟩ (.int .i64 ((rd_T35 x3_2 (ji10)).f1))).setCell ⟨go17, (x5_2 : Int).toNat * 11 + 2, none⟩ (.int .i64 ((rd_T35 x3_2 (ji10)).f2))).setCell ⟨go17, (x5_2 : Int).toNat * 11 + 3, none⟩ (.int .i64 ((rd_T35 x3_2 (ji10)).f3.f0))).setCell ⟨go17, (x5_2 : Int).toNat * 11 + 4, none⟩ (.int .i64 ((rd_T35 x3_2 (ji10)).f3.f1))).setCell ⟨go17, (x5_2 : Int).toNat * 11 + 5, none⟩ (.int .i64 ((rd_T35 x3_2 (ji10)).f3.f2))).setCell ⟨go17, (x5_2 : Int).toNat * 11 + 6, none⟩ (.int .i64 ((rd_T35 x3_2 (ji10)).f3.f3))).setCell ⟨go17, (x5_2 : Int).toNat * 11 + 7, none⟩ (.int .i64 ((rd_T35 x3_2 (ji10)).f3.f4))).setCell ⟨go17, (x5_2 : Int).toNat * 11 + 8, none⟩ (.string ((rd_T35 x3_2 (ji10)).f4))).setCell ⟨go17, (x5_2 : Int).toNat * 11 + 9, none⟩ (.string ((rd_T35 x3_2 (ji10)).f5))).setCell ⟨go17, (x5_2 : Int).toNat * 11 + 10, none⟩ (.int .i64 ((rd_T35 x3_2 (ji10)).f6)))) ?hg ?ho ?hn ?hr ?_; (case ho => rfl); (case hg => rfl); (case hn => rfl); (case hr => first | (go_simp; done) | (go_simp; rfl)); intro w22 hw; have hg : w20.grownBy w22 (some go17) := (by rw [hw]; exact HP21.2); have hp_ : Kd.R k35 35 w22 w.heap.size (fun _ => True) (.slice (some ⟨go17, 0, none⟩) x3_2.length co19) y109 := (by rw [hw, Ny109.out]; exact HP21.1); clear HP21; have n0_ := Aside0.mk (hp_); have n1_ := Aside0.mk ((by rw [hw]; exact below_set (below_set (below_set (below_set (below_set (below_set (below_set (below_set (below_set (below_set (below_set (HB.out) GB17.out) GB17.out) GB17.out) GB17.out) GB17.out) GB17.out) GB17.out) GB17.out) GB17.out) GB17.out) GB17.out : Below w.heap.size w w22)); clear HO_3; clear HB; have HO_3 := n0_; have HB := n1_; clear n0_ n1_; clear hg hw hp_))
                go_roundg k2
                case measure => have := HK1.out; have := HK2.out; omega
                case rel => exact ⟨(y109), (ji10), (by first | rfl | (simp; done) | (simp only [← hji10] <;> (first | rfl | simp)) | (simp [*]; done)), H', ⟨by have := HK1.out; have := HK2.out; omega⟩, ⟨upR HO_3.out⟩, ⟨upB HB.out⟩⟩
               rw [if_neg c16] at H
               exact absurd H (by simp)
              rw [if_neg c15] at H
              exact absurd H (by simp)
             replace c14 := Bool.eq_false_iff.mpr c14
             subst c14
             have H1 : (if 0 ≤ x5_2 then (if x5_2 < (x3_2.length : Int) then (remoraref20_Sort.l0 k2 l0 (x3_2.set (x5_2 : Int).toNat (⟨(rd_T35 l0 x4_1).f0, (rd_T35 l0 x4_1).f1, (rd_T35 l0 x4_1).f2, (⟨(rd_T35 l0 x4_1).f3.f0, (rd_T35 l0 x4_1).f3.f1, (rd_T35 l0 x4_1).f3.f2, (rd_T35 l0 x4_1).f3.f3, (rd_T35 l0 x4_1).f3.f4⟩ : S33), (rd_T35 l0 x4_1).f4, (rd_T35 l0 x4_1).f5, (rd_T35 l0 x4_1).f6⟩ : S35)) (wrap64 (x4_1 + 1))) else (none)) else (none)) = some r := by rw [if_neg (show ¬ (false = true) by decide)] at H; exact H
             clear H
             have H := H1
             clear H1
             by_cases c23 : 0 ≤ x5_2
             ·rw [if_pos c23] at H
              have c23b0 : decide (0 ≤ x5_2) = true := decide_eq_true c23
              clear c23
              by_cases c24 : x5_2 < (x3_2.length : Int)
              ·rw [if_pos c24] at H
               have c24b0 : decide (x5_2 < (x3_2.length : Int)) = true := decide_eq_true c24
               clear c24
               obtain ⟨y111, hy111⟩ : ∃ y_ : List (S35), y_ = (x3_2.set (x5_2 : Int).toNat (⟨(rd_T35 l0 x4_1).f0, (rd_T35 l0 x4_1).f1, (rd_T35 l0 x4_1).f2, (⟨(rd_T35 l0 x4_1).f3.f0, (rd_T35 l0 x4_1).f3.f1, (rd_T35 l0 x4_1).f3.f2, (rd_T35 l0 x4_1).f3.f3, (rd_T35 l0 x4_1).f3.f4⟩ : S33), (rd_T35 l0 x4_1).f4, (rd_T35 l0 x4_1).f5, (rd_T35 l0 x4_1).f6⟩ : S35)) := ⟨_, rfl⟩
               replace H : (remoraref20_Sort.l0 k2 l0 y111 (wrap64 (x4_1 + 1))) = some r := by first | (rw [hy111]; with_reducible exact H) | (have H2_ := (Option.bind_some _ _).symm.trans H; rw [hy111]; with_reducible exact H2_) | (have H2_ := (Option.bind_some _ _).symm.trans H; with_reducible exact H2_) | with_reducible exact H | (rw [hy111]; exact H) | exact H
               have Ny111 := Aside0.mk hy111
               clear hy111
               have H' := Aside0.mk H
               clear H
               try go_wp2
               have n0_ := Aside0.mk (Kd.R_drew HO_3.out)
               have n1_ := Aside0.mk (below_drew1 HB.out)
               clear HO_3
               clear HB
               have HO_3 := n0_
               have HB := n1_
               clear n0_ n1_
               have p105 : 0 ≤ (x4_1 : Int) := of_decide_eq_true (by first | (with_reducible assumption) | assumption)
               have q105 : x4_1 < (l0.length : Int) := of_decide_eq_true (by first | (with_reducible assumption) | assumption)
               obtain ⟨ad105, e105, hx105_0, hx105_1, hx105_2, hx105_3, hx105_4, hx105_5, hx105_6, hx105_7, hx105_8, hx105_9, hx105_10⟩ := at_T35 HR0.out x4_1 p105 q105
               have hw105_10 := hx105_10
               have hw105_9 := hx105_9
               have hw105_8 := hx105_8
               have hw105_7 := hx105_7
               have hw105_6 := hx105_6
               have hw105_5 := hx105_5
               have hw105_4 := hx105_4
               have hw105_3 := hx105_3
               have hw105_2 := hx105_2
               have hw105_1 := hx105_1
               have hw105_0 := hx105_0
               obtain rfl : ad101 = ad105 := (by injection e105)
               replace hx105_0 := (HB.out.cell (World.block_lt_of_cell? w _ hx105_0)).trans hx105_0
               replace hx105_1 := (HB.out.cell (World.block_lt_of_cell? w _ hx105_1)).trans hx105_1
               replace hx105_2 := (HB.out.cell (World.block_lt_of_cell? w _ hx105_2)).trans hx105_2
               replace hx105_3 := (HB.out.cell (World.block_lt_of_cell? w _ hx105_3)).trans hx105_3
               replace hx105_4 := (HB.out.cell (World.block_lt_of_cell? w _ hx105_4)).trans hx105_4
               replace hx105_5 := (HB.out.cell (World.block_lt_of_cell? w _ hx105_5)).trans hx105_5
               replace hx105_6 := (HB.out.cell (World.block_lt_of_cell? w _ hx105_6)).trans hx105_6
               replace hx105_7 := (HB.out.cell (World.block_lt_of_cell? w _ hx105_7)).trans hx105_7
               replace hx105_8 := (HB.out.cell (World.block_lt_of_cell? w _ hx105_8)).trans hx105_8
               replace hx105_9 := (HB.out.cell (World.block_lt_of_cell? w _ hx105_9)).trans hx105_9
               replace hx105_10 := (HB.out.cell (World.block_lt_of_cell? w _ hx105_10)).trans hx105_10
               replace p105 := eq_true p105
               replace q105 := eq_true q105
               obtain ⟨Ao27, co27, eo27⟩ := Kd.R_slice HO_3.out
               (first | subst eo27 | (injection eo27 with f1_ f2_ f3_; have f4_ := f1_.symm; have f5_ := f3_.symm; clear f1_ f2_ f3_; subst f4_; subst f5_))
               have p106 : 0 ≤ ((ji10) : Int) := of_decide_eq_true (by first | (with_reducible assumption) | assumption)
               have q106 : (ji10) < (x3_2.length : Int) := of_decide_eq_true (by first | (with_reducible assumption) | assumption)
               obtain ⟨ad106, e106, hx106_0, hx106_1, hx106_2, hx106_3, hx106_4, hx106_5, hx106_6, hx106_7, hx106_8, hx106_9, hx106_10⟩ := at_T35 (Kd.R_reads' HO_3.out).2.2 (ji10) p106 q106
               cases e106
               replace p106 := eq_true p106
               replace q106 := eq_true q106
               refine start_ (n := 16) (S := fun w' => w'.cell? (ad101.add ((x4_1).toNat * 11)) = some (.string ((rd_T35 l0 x4_1).f0)) ∧ w'.cell? ⟨(ad101.add ((x4_1).toNat * 11)).block, (ad101.add ((x4_1).toNat * 11)).off + 1, none⟩ = some (.int .i64 ((rd_T35 l0 x4_1).f1)) ∧ w'.cell? ⟨(ad101.add ((x4_1).toNat * 11)).block, (ad101.add ((x4_1).toNat * 11)).off + 2, none⟩ = some (.int .i64 ((rd_T35 l0 x4_1).f2)) ∧ w'.cell? ⟨(ad101.add ((x4_1).toNat * 11)).block, (ad101.add ((x4_1).toNat * 11)).off + 3, none⟩ = some (.int .i64 ((rd_T35 l0 x4_1).f3.f0)) ∧ w'.cell? ⟨(ad101.add ((x4_1).toNat * 11)).block, (ad101.add ((x4_1).toNat * 11)).off + 4, none⟩ = some (.int .i64 ((rd_T35 l0 x4_1).f3.f1)) ∧ w'.cell? ⟨(ad101.add ((x4_1).toNat * 11)).block, (ad101.add ((x4_1).toNat * 11)).off + 5, none⟩ = some (.int .i64 ((rd_T35 l0 x4_1).f3.f2)) ∧ w'.cell? ⟨(ad101.add ((x4_1).toNat * 11)).block, (ad101.add ((x4_1).toNat * 11)).off + 6, none⟩ = some (.int .i64 ((rd_T35 l0 x4_1).f3.f3)) ∧ w'.cell? ⟨(ad101.add ((x4_1).toNat * 11)).block, (ad101.add ((x4_1).toNat * 11)).off + 7, none⟩ = some (.int .i64 ((rd_T35 l0 x4_1).f3.f4)) ∧ w'.cell? ⟨(ad101.add ((x4_1).toNat * 11)).block, (ad101.add ((x4_1).toNat * 11)).off + 8, none⟩ = some (.string ((rd_T35 l0 x4_1).f4)) ∧ w'.cell? ⟨(ad101.add ((x4_1).toNat * 11)).block, (ad101.add ((x4_1).toNat * 11)).off + 9, none⟩ = some (.string ((rd_T35 l0 x4_1).f5)) ∧ w'.cell? ⟨(ad101.add ((x4_1).toNat * 11)).block, (ad101.add ((x4_1).toNat * 11)).off + 10, none⟩ = some (.int .i64 ((rd_T35 l0 x4_1).f6)) ∧ w'.cell? (ad106.add (((ji10)).toNat * 11)) = some (.string ((rd_T35 x3_2 (ji10)).f0)) ∧ w'.cell? ⟨(ad106.add (((ji10)).toNat * 11)).block, (ad106.add (((ji10)).toNat * 11)).off + 1, none⟩ = some (.int .i64 ((rd_T35 x3_2 (ji10)).f1)) ∧ w'.cell? ⟨(ad106.add (((ji10)).toNat * 11)).block, (ad106.add (((ji10)).toNat * 11)).off + 2, none⟩ = some (.int .i64 ((rd_T35 x3_2 (ji10)).f2)) ∧ w'.cell? ⟨(ad106.add (((ji10)).toNat * 11)).block, (ad106.add (((ji10)).toNat * 11)).off + 3, none⟩ = some (.int .i64 ((rd_T35 x3_2 (ji10)).f3.f0)) ∧ w'.cell? ⟨(ad106.add (((ji10)).toNat * 11)).block, (ad106.add (((ji10)).toNat * 11)).off + 4, none⟩ = some (.int .i64 ((rd_T35 x3_2 (ji10)).f3.f1)) ∧ w'.cell? ⟨(ad106.add (((ji10)).toNat * 11)).block, (ad106.add (((ji10)).toNat * 11)).off + 5, none⟩ = some (.int .i64 ((rd_T35 x3_2 (ji10)).f3.f2)) ∧ w'.cell? ⟨(ad106.add (((ji10)).toNat * 11)).block, (ad106.add (((ji10)).toNat * 11)).off + 6, none⟩ = some (.int .i64 ((rd_T35 x3_2 (ji10)).f3.f3)) ∧ w'.cell? ⟨(ad106.add (((ji10)).toNat * 11)).block, (ad106.add (((ji10)).toNat * 11)).off + 7, none⟩ = some (.int .i64 ((rd_T35 x3_2 (ji10)).f3.f4)) ∧ w'.cell? ⟨(ad106.add (((ji10)).toNat * 11)).block, (ad106.add (((ji10)).toNat * 11)).off + 8, none⟩ = some (.string ((rd_T35 x3_2 (ji10)).f4)) ∧ w'.cell? ⟨(ad106.add (((ji10)).toNat * 11)).block, (ad106.add (((ji10)).toNat * 11)).off + 9, none⟩ = some (.string ((rd_T35 x3_2 (ji10)).f5)) ∧ w'.cell? ⟨(ad106.add (((ji10)).toNat * 11)).block, (ad106.add (((ji10)).toNat * 11)).off + 10, none⟩ = some (.int .i64 ((rd_T35 x3_2 (ji10)).f6))) (ds := []) #[Z_,Z_,Z_,Z_,Z_,Z_,Z_,Z_,Z_,Z_,Z_,Z_,Z_,Z_,Z_,Z_] (by kernel_rfl) rfl rfl ⟨((HB.out.cell (World.block_lt_of_cell? w _ hw105_0)).trans hw105_0), ((HB.out.cell (World.block_lt_of_cell? w _ hw105_1)).trans hw105_1), ((HB.out.cell (World.block_lt_of_cell? w _ hw105_2)).trans hw105_2), ((HB.out.cell (World.block_lt_of_cell? w _ hw105_3)).trans hw105_3), ((HB.out.cell (World.block_lt_of_cell? w _ hw105_4)).trans hw105_4), ((HB.out.cell (World.block_lt_of_cell? w _ hw105_5)).trans hw105_5), ((HB.out.cell (World.block_lt_of_cell? w _ hw105_6)).trans hw105_6), ((HB.out.cell (World.block_lt_of_cell? w _ hw105_7)).trans hw105_7), ((HB.out.cell (World.block_lt_of_cell? w _ hw105_8)).trans hw105_8), ((HB.out.cell (World.block_lt_of_cell? w _ hw105_9)).trans hw105_9), ((HB.out.cell (World.block_lt_of_cell? w _ hw105_10)).trans hw105_10), hx106_0, hx106_1, hx106_2, hx106_3, hx106_4, hx106_5, hx106_6, hx106_7, hx106_8, hx106_9, hx106_10⟩ (fun hHeld => ?_); refine with_tabW remoraref20_Sort.tab7 remoraref20_Sort.bits7 (fun HT_ HW_ => ?_)
               generalize wr.drew = w26 at HO_3 HB hx105_0 hx105_1 hx105_10 hx105_2 hx105_3 hx105_4 hx105_5 hx105_6 hx105_7 hx105_8 hx105_9 hx106_0 hx106_1 hx106_10 hx106_2 hx106_3 hx106_4 hx106_5 hx106_6 hx106_7 hx106_8 hx106_9 hHeld ⊢
               refine pure_ (i := 0) (N := some 21) (v := ?_) (a' := ?_) #[Y_,Z_,Z_,Z_,Z_,Z_,Z_,Z_,Z_,Z_,Z_,Z_,Z_,Z_,Z_,Z_] rfl rfl (any_of HT_.out (by kernel_rfl)) (fun _ _ _ h => h) (Or.inl ⟨by rfl, ?_⟩) ?_ ?_
               rotate_left
               ·intro w';go_simp;with_reducible rfl
               rotate_left
               ·simp only [Act.put, nS, i64_w, i32_w];rfl
               refine pure_ (i := 1) (N := some 22) (v := ?_) (a' := ?_) #[Y_,Y_,Z_,Z_,Z_,Z_,Z_,Z_,Z_,Z_,Z_,Z_,Z_,Z_,Z_,Z_] rfl rfl (any_of HT_.out (by kernel_rfl)) (fun _ _ _ h => h) (Or.inl ⟨by rfl, ?_⟩) ?_ ?_
               rotate_left
               ·intro w';go_simp;with_reducible rfl
               rotate_left
               ·simp only [Act.put, nS, i64_w, i32_w];rfl
               refine pure_ (i := 2) (N := some 23) (v := ?_) (a' := ?_) #[Y_,Y_,Y_,Z_,Z_,Z_,Z_,Z_,Z_,Z_,Z_,Z_,Z_,Z_,Z_,Z_] rfl rfl (any_of HT_.out (by kernel_rfl)) (fun _ _ _ h => h) (Or.inl ⟨by rfl, ?_⟩) ?_ ?_
               rotate_left
               ·intro w';go_simp;with_reducible rfl
               rotate_left
               ·simp only [Act.put, nS, i64_w, i32_w];rfl
               refine pure_ (i := 3) (N := some 24) (v := ?_) (a' := ?_) #[Y_,Y_,Y_,Y_,Z_,Z_,Z_,Z_,Z_,Z_,Z_,Z_,Z_,Z_,Z_,Z_] rfl rfl (any_of HT_.out (by kernel_rfl)) (fun _ _ _ h => h) (Or.inl ⟨by rfl, ?_⟩) ?_ ?_
               rotate_left
               ·intro w';go_simp;with_reducible rfl
               rotate_left
               ·simp only [Act.put, nS, i64_w, i32_w];rfl
               refine pure_ (i := 4) (N := some 25) (v := ?_) (a' := ?_) #[Y_,Y_,Y_,Y_,Y_,Z_,Z_,Z_,Z_,Z_,Z_,Z_,Z_,Z_,Z_,Z_] rfl rfl (any_of HT_.out (by kernel_rfl)) (fun _ _ _ h => h) (Or.inl ⟨by rfl, ?_⟩) ?_ ?_
               rotate_left
               ·intro w';go_simp;with_reducible rfl
               rotate_left
               ·simp only [Act.put, nS, i64_w, i32_w];rfl
               refine pure_ (i := 5) (N := some 26) (v := ?_) (a' := ?_) #[Y_,Y_,Y_,Y_,Y_,Y_,Z_,Z_,Z_,Z_,Z_,Z_,Z_,Z_,Z_,Z_] rfl rfl (any_of HT_.out (by kernel_rfl)) (fun _ _ _ h => h) (Or.inl ⟨by rfl, ?_⟩) ?_ ?_
               rotate_left
               ·intro w';go_simp;with_reducible rfl
               rotate_left
               ·simp only [Act.put, nS, i64_w, i32_w];rfl
               refine pure_ (i := 6) (N := some 27) (v := ?_) (a' := ?_) #[Y_,Y_,Y_,Y_,Y_,Y_,Y_,Z_,Z_,Z_,Z_,Z_,Z_,Z_,Z_,Z_] rfl rfl (any_of HT_.out (by kernel_rfl)) (fun _ _ _ h => h) (Or.inl ⟨by rfl, ?_⟩) ?_ ?_
               rotate_left
               ·intro w';go_simp;with_reducible rfl
               rotate_left
               ·simp only [Act.put, nS, i64_w, i32_w];rfl
               refine pure_ (i := 8) (N := some 29) (v := ?_) (a' := ?_) #[Y_,Y_,Y_,Y_,Y_,Y_,Y_,Z_,Y_,Z_,Z_,Z_,Z_,Z_,Z_,Z_] rfl rfl (any_of HT_.out (by kernel_rfl)) (fun _ _ _ h => h) (Or.inl ⟨by rfl, ?_⟩) ?_ ?_
               rotate_left
               ·intro w';go_simp;with_reducible rfl
               rotate_left
               ·simp only [Act.put, nS, i64_w, i32_w];rfl
               refine pure_ (i := 9) (N := some 30) (v := ?_) (a' := ?_) #[Y_,Y_,Y_,Y_,Y_,Y_,Y_,Z_,Y_,Y_,Z_,Z_,Z_,Z_,Z_,Z_] rfl rfl (any_of HT_.out (by kernel_rfl)) (fun _ _ _ h => h) (Or.inl ⟨by rfl, ?_⟩) ?_ ?_
               rotate_left
               ·intro w';go_simp;with_reducible rfl
               rotate_left
               ·simp only [Act.put, nS, i64_w, i32_w];rfl
               refine pure_ (i := 10) (N := some 31) (v := ?_) (a' := ?_) #[Y_,Y_,Y_,Y_,Y_,Y_,Y_,Z_,Y_,Y_,Y_,Z_,Z_,Z_,Z_,Z_] rfl rfl (any_of HT_.out (by kernel_rfl)) (fun _ _ _ h => h) (Or.inl ⟨by rfl, ?_⟩) ?_ ?_
               rotate_left
               ·intro w';go_simp;with_reducible rfl
               rotate_left
               ·simp only [Act.put, nS, i64_w, i32_w];rfl
               refine pure_ (i := 11) (N := some 32) (v := ?_) (a' := ?_) #[Y_,Y_,Y_,Y_,Y_,Y_,Y_,Z_,Y_,Y_,Y_,Y_,Z_,Z_,Z_,Z_] rfl rfl (any_of HT_.out (by kernel_rfl)) (fun _ _ _ h => h) (Or.inl ⟨by rfl, ?_⟩) ?_ ?_
               rotate_left
               ·intro w';go_simp;with_reducible rfl
               rotate_left
               ·simp only [Act.put, nS, i64_w, i32_w];rfl
               refine pure_ (i := 12) (N := some 33) (v := ?_) (a' := ?_) #[Y_,Y_,Y_,Y_,Y_,Y_,Y_,Z_,Y_,Y_,Y_,Y_,Y_,Z_,Z_,Z_] rfl rfl (any_of HT_.out (by kernel_rfl)) (fun _ _ _ h => h) (Or.inl ⟨by rfl, ?_⟩) ?_ ?_
               rotate_left
               ·intro w';go_simp;with_reducible rfl
               rotate_left
               ·simp only [Act.put, nS, i64_w, i32_w];rfl
               refine take_ (i := 7) (N := some 28) (v := ?_) (a' := ?_) #[Y_,Y_,Y_,Y_,Y_,Y_,Y_,Y_,Y_,Y_,Y_,Y_,Y_,Z_,Z_,Z_] rfl rfl (take_ofW HT_.out HW_.out (by kernel_rfl)) (fun _ _ _ h => h) (Or.inl ⟨by rfl, ?_⟩) hHeld ?_ ?_
               rotate_left
               ·rintro w' ⟨s0, s1, s2, s3, s4, s5, s6, s7, s8, s9, s10, s11, s12, s13, s14, s15, s16, s17, s18, s19, s20, s21⟩
                go_simp
                with_reducible rfl
               rotate_left
               ·simp only [Act.put, nS, i64_w, i32_w];rfl
               refine take_ (i := 13) (N := some 34) (v := ?_) (a' := ?_) #[Y_,Y_,Y_,Y_,Y_,Y_,Y_,Y_,Y_,Y_,Y_,Y_,Y_,Y_,Z_,Z_] rfl rfl (take_ofW HT_.out HW_.out (by kernel_rfl)) (fun _ _ _ h => h) (Or.inl ⟨by rfl, ?_⟩) hHeld ?_ ?_
               rotate_left
               ·rintro w' ⟨s0, s1, s2, s3, s4, s5, s6, s7, s8, s9, s10, s11, s12, s13, s14, s15, s16, s17, s18, s19, s20, s21⟩
                go_simp
                with_reducible rfl
               rotate_left
               ·simp only [Act.put, nS, i64_w, i32_w];rfl
               refine one_ (i := 14) (N := some 35) #[Y_,Y_,Y_,Y_,Y_,Y_,Y_,Y_,Y_,Y_,Y_,Y_,Y_,Y_,Y_,Z_] rfl rfl (one_of HT_.out (by kernel_rfl)) (by decide) (fun K hK => ?_)
               refine goes_ Tryd.func24 (by kernel_rfl) rfl #[.string ((rd_T35 l0 x4_1).f0), .string ((rd_T35 x3_2 (ji10)).f0)] (by rfl) rfl rfl (by (try simp only [List.map_toArray, List.map_cons, List.map_nil]); first | done | (simp only [hji10]; rfl) | rfl | (simp only [List.length_drop, List.length_take]; rfl)) ?_
               with_reducible refine (remoraref13_Less.calls k2 ((rd_T35 l0 x4_1).f0) ((rd_T35 x3_2 (ji10)).f0) false _ A13.out).mono ?_
               rintro e w28 ⟨rfl, hb⟩
               have HS11_ := (hb.cell (World.block_lt_of_cell? _ _ (hHeld.2.2.2.2.2.2.2.2.2.2.2.1))).trans (hHeld.2.2.2.2.2.2.2.2.2.2.2.1)
               have HS12_ := (hb.cell (World.block_lt_of_cell? _ _ (hHeld.2.2.2.2.2.2.2.2.2.2.2.2.1))).trans (hHeld.2.2.2.2.2.2.2.2.2.2.2.2.1)
               have HS13_ := (hb.cell (World.block_lt_of_cell? _ _ (hHeld.2.2.2.2.2.2.2.2.2.2.2.2.2.1))).trans (hHeld.2.2.2.2.2.2.2.2.2.2.2.2.2.1)
               have HS14_ := (hb.cell (World.block_lt_of_cell? _ _ (hHeld.2.2.2.2.2.2.2.2.2.2.2.2.2.2.1))).trans (hHeld.2.2.2.2.2.2.2.2.2.2.2.2.2.2.1)
               have HS15_ := (hb.cell (World.block_lt_of_cell? _ _ (hHeld.2.2.2.2.2.2.2.2.2.2.2.2.2.2.2.1))).trans (hHeld.2.2.2.2.2.2.2.2.2.2.2.2.2.2.2.1)
               have HS16_ := (hb.cell (World.block_lt_of_cell? _ _ (hHeld.2.2.2.2.2.2.2.2.2.2.2.2.2.2.2.2.1))).trans (hHeld.2.2.2.2.2.2.2.2.2.2.2.2.2.2.2.2.1)
               have HS17_ := (hb.cell (World.block_lt_of_cell? _ _ (hHeld.2.2.2.2.2.2.2.2.2.2.2.2.2.2.2.2.2.1))).trans (hHeld.2.2.2.2.2.2.2.2.2.2.2.2.2.2.2.2.2.1)
               have HS18_ := (hb.cell (World.block_lt_of_cell? _ _ (hHeld.2.2.2.2.2.2.2.2.2.2.2.2.2.2.2.2.2.2.1))).trans (hHeld.2.2.2.2.2.2.2.2.2.2.2.2.2.2.2.2.2.2.1)
               have HS19_ := (hb.cell (World.block_lt_of_cell? _ _ (hHeld.2.2.2.2.2.2.2.2.2.2.2.2.2.2.2.2.2.2.2.1))).trans (hHeld.2.2.2.2.2.2.2.2.2.2.2.2.2.2.2.2.2.2.2.1)
               have HS20_ := (hb.cell (World.block_lt_of_cell? _ _ (hHeld.2.2.2.2.2.2.2.2.2.2.2.2.2.2.2.2.2.2.2.2.1))).trans (hHeld.2.2.2.2.2.2.2.2.2.2.2.2.2.2.2.2.2.2.2.2.1)
               have HS21_ := (hb.cell (World.block_lt_of_cell? _ _ (hHeld.2.2.2.2.2.2.2.2.2.2.2.2.2.2.2.2.2.2.2.2.2))).trans (hHeld.2.2.2.2.2.2.2.2.2.2.2.2.2.2.2.2.2.2.2.2.2)
               refine ⟨_, rfl, ?_⟩
               have n0_ := Aside0.mk (Kd.R_below (upR HO_3.out) hb)
               have n1_ := Aside0.mk (below_step (upB HB.out) hb)
               clear HO_3
               clear HB
               have HO_3 := n0_
               have HB := n1_
               clear n0_ n1_
               (try clear hb)
               (try clear hb2)
               (try clear hk)
               (try clear hi)
               refine hK.out _ _ ⟨((HB.out.cell (World.block_lt_of_cell? w _ hw105_0)).trans hw105_0), ((HB.out.cell (World.block_lt_of_cell? w _ hw105_1)).trans hw105_1), ((HB.out.cell (World.block_lt_of_cell? w _ hw105_2)).trans hw105_2), ((HB.out.cell (World.block_lt_of_cell? w _ hw105_3)).trans hw105_3), ((HB.out.cell (World.block_lt_of_cell? w _ hw105_4)).trans hw105_4), ((HB.out.cell (World.block_lt_of_cell? w _ hw105_5)).trans hw105_5), ((HB.out.cell (World.block_lt_of_cell? w _ hw105_6)).trans hw105_6), ((HB.out.cell (World.block_lt_of_cell? w _ hw105_7)).trans hw105_7), ((HB.out.cell (World.block_lt_of_cell? w _ hw105_8)).trans hw105_8), ((HB.out.cell (World.block_lt_of_cell? w _ hw105_9)).trans hw105_9), ((HB.out.cell (World.block_lt_of_cell? w _ hw105_10)).trans hw105_10), HS11_, HS12_, HS13_, HS14_, HS15_, HS16_, HS17_, HS18_, HS19_, HS20_, HS21_⟩ (fun hHeld => ?_)
               clear hK K
               refine norm_ (a' := ?_) ?_ ?_
               rotate_left
               ·show Act.put _ (some 35) _ = _
                simp only [Act.put, nS, i64_w, i32_w]
                rfl
               refine pure_ (i := 15) (N := some 36) (v := ?_) (a' := ?_) #[Y_,Y_,Y_,Y_,Y_,Y_,Y_,Y_,Y_,Y_,Y_,Y_,Y_,Y_,Y_,Y_] rfl rfl (any_of HT_.out (by kernel_rfl)) (fun _ _ _ h => h) (Or.inl ⟨by rfl, ?_⟩) ?_ ?_
               rotate_left
               ·intro w';go_simp;with_reducible rfl
               rotate_left
               ·simp only [Act.put, nS, i64_w, i32_w];rfl
               refine done_ (done_of HT_.out (by kernel_rfl)) ?_
               have p110 : 0 ≤ (x4_1 : Int) := of_decide_eq_true (by first | (with_reducible assumption) | assumption)
               have q110 : x4_1 < (l0.length : Int) := of_decide_eq_true (by first | (with_reducible assumption) | assumption)
               obtain ⟨ad110, e110, hx110_0, hx110_1, hx110_2, hx110_3, hx110_4, hx110_5, hx110_6, hx110_7, hx110_8, hx110_9, hx110_10⟩ := at_T35 HR0.out x4_1 p110 q110
               obtain rfl : ad101 = ad110 := (by injection e110)
               replace hx110_0 := (HB.out.cell (World.block_lt_of_cell? w _ hx110_0)).trans hx110_0
               replace hx110_1 := (HB.out.cell (World.block_lt_of_cell? w _ hx110_1)).trans hx110_1
               replace hx110_2 := (HB.out.cell (World.block_lt_of_cell? w _ hx110_2)).trans hx110_2
               replace hx110_3 := (HB.out.cell (World.block_lt_of_cell? w _ hx110_3)).trans hx110_3
               replace hx110_4 := (HB.out.cell (World.block_lt_of_cell? w _ hx110_4)).trans hx110_4
               replace hx110_5 := (HB.out.cell (World.block_lt_of_cell? w _ hx110_5)).trans hx110_5
               replace hx110_6 := (HB.out.cell (World.block_lt_of_cell? w _ hx110_6)).trans hx110_6
               replace hx110_7 := (HB.out.cell (World.block_lt_of_cell? w _ hx110_7)).trans hx110_7
               replace hx110_8 := (HB.out.cell (World.block_lt_of_cell? w _ hx110_8)).trans hx110_8
               replace hx110_9 := (HB.out.cell (World.block_lt_of_cell? w _ hx110_9)).trans hx110_9
               replace hx110_10 := (HB.out.cell (World.block_lt_of_cell? w _ hx110_10)).trans hx110_10
               replace p110 := eq_true p110
               replace q110 := eq_true q110
               have p25 : 0 ≤ (x5_2 : Int) := of_decide_eq_true (by first | (with_reducible assumption) | assumption)
               have q25 : (x5_2 : Int) < ((x3_2.length : Int) : Int) := of_decide_eq_true (by first | (with_reducible assumption) | assumption)
               obtain ⟨go25, co25, eo25, gb25, gl25, cl25, HG25⟩ := Kd.R_form HO_3.out (by omega)
               (first | cases eo25 | (injection eo25 with ea_ en_ ec_; (first | subst ea_ | (injection ea_ with ea_; subst ea_)); subst ec_; clear en_))
               have GB25 := Aside0.mk gb25
               have GG25 := Aside0.mk HG25
               clear gb25 gl25 HG25
               (first | simp only [add_plain] at hx106_0 | skip)
               (first | simp only [add_plain] at hx106_1 | skip)
               (first | simp only [add_plain] at hx106_2 | skip)
               (first | simp only [add_plain] at hx106_3 | skip)
               (first | simp only [add_plain] at hx106_4 | skip)
               (first | simp only [add_plain] at hx106_5 | skip)
               (first | simp only [add_plain] at hx106_6 | skip)
               (first | simp only [add_plain] at hx106_7 | skip)
               (first | simp only [add_plain] at hx106_8 | skip)
               (first | simp only [add_plain] at hx106_9 | skip)
               (first | simp only [add_plain] at hx106_10 | skip)
               obtain ⟨ce25, hcl25, hM25, hcc25, hfr25⟩ := Kd.R_elem HO_3.out z35 (x5_2 : Int) p25 q25
               obtain rfl := k35_openM hM25
               have hx25_0 : w28.cell? ⟨go25, (x5_2 : Int).toNat * 11, none⟩ = some (.string ((rd_T35 x3_2 x5_2).f0)) := hcc25 0 _ rfl
               have hx25_1 : w28.cell? ⟨go25, (x5_2 : Int).toNat * 11 + 1, none⟩ = some (.int .i64 ((rd_T35 x3_2 x5_2).f1)) := hcc25 1 _ rfl
               have hx25_2 : w28.cell? ⟨go25, (x5_2 : Int).toNat * 11 + 2, none⟩ = some (.int .i64 ((rd_T35 x3_2 x5_2).f2)) := hcc25 2 _ rfl
               have hx25_3 : w28.cell? ⟨go25, (x5_2 : Int).toNat * 11 + 3, none⟩ = some (.int .i64 ((rd_T35 x3_2 x5_2).f3.f0)) := hcc25 3 _ rfl
               have hx25_4 : w28.cell? ⟨go25, (x5_2 : Int).toNat * 11 + 4, none⟩ = some (.int .i64 ((rd_T35 x3_2 x5_2).f3.f1)) := hcc25 4 _ rfl
               have hx25_5 : w28.cell? ⟨go25, (x5_2 : Int).toNat * 11 + 5, none⟩ = some (.int .i64 ((rd_T35 x3_2 x5_2).f3.f2)) := hcc25 5 _ rfl
               have hx25_6 : w28.cell? ⟨go25, (x5_2 : Int).toNat * 11 + 6, none⟩ = some (.int .i64 ((rd_T35 x3_2 x5_2).f3.f3)) := hcc25 6 _ rfl
               have hx25_7 : w28.cell? ⟨go25, (x5_2 : Int).toNat * 11 + 7, none⟩ = some (.int .i64 ((rd_T35 x3_2 x5_2).f3.f4)) := hcc25 7 _ rfl
               have hx25_8 : w28.cell? ⟨go25, (x5_2 : Int).toNat * 11 + 8, none⟩ = some (.string ((rd_T35 x3_2 x5_2).f4)) := hcc25 8 _ rfl
               have hx25_9 : w28.cell? ⟨go25, (x5_2 : Int).toNat * 11 + 9, none⟩ = some (.string ((rd_T35 x3_2 x5_2).f5)) := hcc25 9 _ rfl
               have hx25_10 : w28.cell? ⟨go25, (x5_2 : Int).toNat * 11 + 10, none⟩ = some (.int .i64 ((rd_T35 x3_2 x5_2).f6)) := hcc25 10 _ rfl
               have hf25_0 : w28.frozen? ⟨go25, (x5_2 : Int).toNat * 11, none⟩ = false := hfr25 0
               have hf25_1 : w28.frozen? ⟨go25, (x5_2 : Int).toNat * 11 + 1, none⟩ = false := hfr25 1
               have hf25_2 : w28.frozen? ⟨go25, (x5_2 : Int).toNat * 11 + 2, none⟩ = false := hfr25 2
               have hf25_3 : w28.frozen? ⟨go25, (x5_2 : Int).toNat * 11 + 3, none⟩ = false := hfr25 3
               have hf25_4 : w28.frozen? ⟨go25, (x5_2 : Int).toNat * 11 + 4, none⟩ = false := hfr25 4
               have hf25_5 : w28.frozen? ⟨go25, (x5_2 : Int).toNat * 11 + 5, none⟩ = false := hfr25 5
               have hf25_6 : w28.frozen? ⟨go25, (x5_2 : Int).toNat * 11 + 6, none⟩ = false := hfr25 6
               have hf25_7 : w28.frozen? ⟨go25, (x5_2 : Int).toNat * 11 + 7, none⟩ = false := hfr25 7
               have hf25_8 : w28.frozen? ⟨go25, (x5_2 : Int).toNat * 11 + 8, none⟩ = false := hfr25 8
               have hf25_9 : w28.frozen? ⟨go25, (x5_2 : Int).toNat * 11 + 9, none⟩ = false := hfr25 9
               have hf25_10 : w28.frozen? ⟨go25, (x5_2 : Int).toNat * 11 + 10, none⟩ = false := hfr25 10
               clear hcl25 hcc25 hfr25 hM25
               replace p25 := eq_true p25
               replace q25 := eq_true q25
               have HX29 := Aside0.mk (show Kd.R k35 35 w28 w.heap.size (fun _ => True) (.slice (some ⟨go25, 0, none⟩) x3_2.length co27) x3_2 from (upR HO_3.out))
               obtain ⟨ce29, hcl29, hM29, hcc29, hfr29⟩ := Kd.R_elem HX29.out z35 (x5_2 : Int) (of_decide_eq_true (by first | (with_reducible assumption) | assumption)) (by have h_ : (x5_2 : Int) < ((x3_2.length : Int) : Int) := of_decide_eq_true (by first | (with_reducible assumption) | assumption); first | exact h_ | (have e_ := (Kd.R_reads' HO_3.out).1; omega) | simpa using h_)
               obtain rfl := k35_openM hM29
               have HP29 := Kd.R_seg HX29.out (x5_2 : Int) (of_decide_eq_true (by first | (with_reducible assumption) | assumption)) (by have h_ : (x5_2 : Int) < ((x3_2.length : Int) : Int) := of_decide_eq_true (by first | (with_reducible assumption) | assumption); first | exact h_ | (have e_ := (Kd.R_reads' HO_3.out).1; omega) | simpa using h_) (seg := [.string ((rd_T35 l0 x4_1).f0), .int .i64 ((rd_T35 l0 x4_1).f1), .int .i64 ((rd_T35 l0 x4_1).f2), .int .i64 ((rd_T35 l0 x4_1).f3.f0), .int .i64 ((rd_T35 l0 x4_1).f3.f1), .int .i64 ((rd_T35 l0 x4_1).f3.f2), .int .i64 ((rd_T35 l0 x4_1).f3.f3), .int .i64 ((rd_T35 l0 x4_1).f3.f4), .string ((rd_T35 l0 x4_1).f4), .string ((rd_T35 l0 x4_1).f5), .int .i64 ((rd_T35 l0 x4_1).f6)]) (j := 0) hcl29 hcc29 (show 11 ≤ 11 from by decide) (x' := (⟨(rd_T35 l0 x4_1).f0, (rd_T35 l0 x4_1).f1, (rd_T35 l0 x4_1).f2, (⟨(rd_T35 l0 x4_1).f3.f0, (rd_T35 l0 x4_1).f3.f1, (rd_T35 l0 x4_1).f3.f2, (rd_T35 l0 x4_1).f3.f3, (rd_T35 l0 x4_1).f3.f4⟩ : S33), (rd_T35 l0 x4_1).f4, (rd_T35 l0 x4_1).f5, (rd_T35 l0 x4_1).f6⟩ : S35)) (k35_mkM _ _ _ (⟨(rd_T35 l0 x4_1).f0, (rd_T35 l0 x4_1).f1, (rd_T35 l0 x4_1).f2, (⟨(rd_T35 l0 x4_1).f3.f0, (rd_T35 l0 x4_1).f3.f1, (rd_T35 l0 x4_1).f3.f2, (rd_T35 l0 x4_1).f3.f3, (rd_T35 l0 x4_1).f3.f4⟩ : S33), (rd_T35 l0 x4_1).f4, (rd_T35 l0 x4_1).f5, (rd_T35 l0 x4_1).f6⟩ : S35) ) (fun _ hk => hk)
               have hx29_0 := hcc29 0 _ rfl
               (try simp only [show (k35).sz = 11 from rfl, Nat.mul_one, Nat.add_zero] at hx29_0)
               have hf29_0 := hfr29 0
               (try simp only [show (k35).sz = 11 from rfl, Nat.mul_one, Nat.add_zero] at hf29_0)
               have hx29_1 := hcc29 1 _ rfl
               (try simp only [show (k35).sz = 11 from rfl, Nat.mul_one, Nat.add_zero] at hx29_1)
               have hf29_1 := hfr29 1
               (try simp only [show (k35).sz = 11 from rfl, Nat.mul_one, Nat.add_zero] at hf29_1)
               have hx29_2 := hcc29 2 _ rfl
               (try simp only [show (k35).sz = 11 from rfl, Nat.mul_one, Nat.add_zero] at hx29_2)
               have hf29_2 := hfr29 2
               (try simp only [show (k35).sz = 11 from rfl, Nat.mul_one, Nat.add_zero] at hf29_2)
               have hx29_3 := hcc29 3 _ rfl
               (try simp only [show (k35).sz = 11 from rfl, Nat.mul_one, Nat.add_zero] at hx29_3)
               have hf29_3 := hfr29 3
               (try simp only [show (k35).sz = 11 from rfl, Nat.mul_one, Nat.add_zero] at hf29_3)
               have hx29_4 := hcc29 4 _ rfl
               (try simp only [show (k35).sz = 11 from rfl, Nat.mul_one, Nat.add_zero] at hx29_4)
               have hf29_4 := hfr29 4
               (try simp only [show (k35).sz = 11 from rfl, Nat.mul_one, Nat.add_zero] at hf29_4)
               have hx29_5 := hcc29 5 _ rfl
               (try simp only [show (k35).sz = 11 from rfl, Nat.mul_one, Nat.add_zero] at hx29_5)
               have hf29_5 := hfr29 5
               (try simp only [show (k35).sz = 11 from rfl, Nat.mul_one, Nat.add_zero] at hf29_5)
               have hx29_6 := hcc29 6 _ rfl
               (try simp only [show (k35).sz = 11 from rfl, Nat.mul_one, Nat.add_zero] at hx29_6)
               have hf29_6 := hfr29 6
               (try simp only [show (k35).sz = 11 from rfl, Nat.mul_one, Nat.add_zero] at hf29_6)
               have hx29_7 := hcc29 7 _ rfl
               (try simp only [show (k35).sz = 11 from rfl, Nat.mul_one, Nat.add_zero] at hx29_7)
               have hf29_7 := hfr29 7
               (try simp only [show (k35).sz = 11 from rfl, Nat.mul_one, Nat.add_zero] at hf29_7)
               have hx29_8 := hcc29 8 _ rfl
               (try simp only [show (k35).sz = 11 from rfl, Nat.mul_one, Nat.add_zero] at hx29_8)
               have hf29_8 := hfr29 8
               (try simp only [show (k35).sz = 11 from rfl, Nat.mul_one, Nat.add_zero] at hf29_8)
               have hx29_9 := hcc29 9 _ rfl
               (try simp only [show (k35).sz = 11 from rfl, Nat.mul_one, Nat.add_zero] at hx29_9)
               have hf29_9 := hfr29 9
               (try simp only [show (k35).sz = 11 from rfl, Nat.mul_one, Nat.add_zero] at hf29_9)
               have hx29_10 := hcc29 10 _ rfl
               (try simp only [show (k35).sz = 11 from rfl, Nat.mul_one, Nat.add_zero] at hx29_10)
               have hf29_10 := hfr29 10
               (try simp only [show (k35).sz = 11 from rfl, Nat.mul_one, Nat.add_zero] at hf29_10)
               clear hcl29 hcc29 hfr29 hM29
               try go_wp2_with (first | ((with_reducible refine gate_store (t := 35) (p := 53) rfl ?_); refine store_event (t := 35) (p := 53) (v := ?vo_w30) (w1 := (((((((((((w28.setCell ⟨go25, (x5_2 : Int).toNat * 11, none⟩ (.string ((rd_T35 l0 x4_1).f0))).setCell ⟨go25, (x5_2 : Int).toNat * 11 + 1, none⟩ (.int .i64 ((rd_T35 l0 x4_1).f1))).setCell ⟨go25, (x5_2 : Int).toNat * 11 + 2, none⟩ (.int .i64 ((rd_T35 l0 x4_1).f2))).setCell ⟨go25, (x5_2 : Int).toNat * 11 + 3, none⟩ (.int .i64 ((rd_T35 l0 x4_1).f3.f0))).setCell ⟨go25, (x5_2 : Int).toNat * 11 + 4, none⟩ (.int .i64 ((rd_T35 l0 x4_1).f3.f1))).setCell ⟨go25, (x5_2 : Int).toNat * 11 + 5, none⟩ (.int .i64 ((rd_T35 l0 x4_1).f3.f2))).setCell ⟨go25, (x5_2 : Int).toNat * 11 + 6, none⟩ (.int .i64 ((rd_T35 l0 x4_1).f3.f3))).setCell ⟨go25, (x5_2 : Int).toNat * 11 + 7, none⟩ (.int .i64 ((rd_T35 l0 x4_1).f3.f4))).setCell ⟨go25, (x5_2 : Int).toNat * 11 + 8, none⟩ (.string ((rd_T35 l0 x4_1).f4))).setCell ⟨go25, (x5_2 : Int).toNat * 11 + 9, none⟩ (.string ((rd_T35 l0 x4_1).f5))).setCell ⟨go25, (x5_2 : Int).toNat * 11 + 10, none⟩ (.int .i64 ((rd_T35 l0 x4_1).f6)))) ?hg ?ho ?hn ?hr ?_; (case ho => rfl); (case hg => rfl); (case hn => rfl); (case hr => first | (go_simp; done) | (go_simp; rfl)); intro w30 hw; have hg : w28.grownBy w30 (some go25) := (by rw [hw]; exact HP29.2); have hp_ : Kd.R k35 35 w30 w.heap.size (fun _ => True) (.slice (some ⟨go25, 0, none⟩) x3_2.length co27) y111 := (by rw [hw, Ny111.out]; exact HP29.1); clear HP29; have n0_ := Aside0.mk (hp_); have n1_ := Aside0.mk ((by rw [hw]; exact below_set (below_set (below_set (below_set (below_set (below_set (below_set (below_set (below_set (below_set (below_set (HB.out) GB25.out) GB25.out) GB25.out) GB25.out) GB25.out) GB25.out) GB25.out) GB25.out) GB25.out) GB25.out) GB25.out : Below w.heap.size w w30)); clear HO_3; clear HB; have HO_3 := n0_; have HB := n1_; clear n0_ n1_; clear hg hw hp_))
               go_roundg k2
               case measure => have := HK1.out; have := HK2.out; omega
               case rel => exact ⟨(y111), (wrap64 (x4_1 + 1)), (by first | rfl | (simp; done) | (simp [*]; done)), H', ⟨by have := HK1.out; have := HK2.out; omega⟩, ⟨upR HO_3.out⟩, ⟨upB HB.out⟩⟩
              rw [if_neg c24] at H
              exact absurd H (by simp)
             rw [if_neg c23] at H
             exact absurd H (by simp)
            rw [if_neg c12] at H
            exact absurd H (by simp)
           rw [if_neg c11] at H
           exact absurd H (by simp)
          rw [if_neg c9] at H
          exact absurd H (by simp)
         rw [if_neg c8] at H
         exact absurd H (by simp)
        rw [if_neg c7] at H
        have c7b0 : decide (0 < x5_2) = false := decide_eq_false c7
        clear c7
        by_cases c31 : 0 ≤ x4_1
        ·rw [if_pos c31] at H
         have c31b0 : decide (0 ≤ x4_1) = true := decide_eq_true c31
         clear c31
         by_cases c32 : x4_1 < (l0.length : Int)
         ·rw [if_pos c32] at H
          have c32b0 : decide (x4_1 < (l0.length : Int)) = true := decide_eq_true c32
          clear c32
          by_cases c33 : 0 ≤ x5_2
          ·rw [if_pos c33] at H
           have c33b0 : decide (0 ≤ x5_2) = true := decide_eq_true c33
           clear c33
           by_cases c34 : x5_2 < (x3_2.length : Int)
           ·rw [if_pos c34] at H
            have c34b0 : decide (x5_2 < (x3_2.length : Int)) = true := decide_eq_true c34
            clear c34
            obtain ⟨y113, hy113⟩ : ∃ y_ : List (S35), y_ = (x3_2.set (x5_2 : Int).toNat (⟨(rd_T35 l0 x4_1).f0, (rd_T35 l0 x4_1).f1, (rd_T35 l0 x4_1).f2, (⟨(rd_T35 l0 x4_1).f3.f0, (rd_T35 l0 x4_1).f3.f1, (rd_T35 l0 x4_1).f3.f2, (rd_T35 l0 x4_1).f3.f3, (rd_T35 l0 x4_1).f3.f4⟩ : S33), (rd_T35 l0 x4_1).f4, (rd_T35 l0 x4_1).f5, (rd_T35 l0 x4_1).f6⟩ : S35)) := ⟨_, rfl⟩
            replace H : (remoraref20_Sort.l0 k2 l0 y113 (wrap64 (x4_1 + 1))) = some r := by first | (rw [hy113]; with_reducible exact H) | (have H2_ := (Option.bind_some _ _).symm.trans H; rw [hy113]; with_reducible exact H2_) | (have H2_ := (Option.bind_some _ _).symm.trans H; with_reducible exact H2_) | with_reducible exact H | (rw [hy113]; exact H) | exact H
            have Ny113 := Aside0.mk hy113
            clear hy113
            have H' := Aside0.mk H
            clear H
            try go_wp2
            have n0_ := Aside0.mk (Kd.R_drew HO_3.out)
            have n1_ := Aside0.mk (below_drew1 HB.out)
            clear HO_3
            clear HB
            have HO_3 := n0_
            have HB := n1_
            clear n0_ n1_
            refine start_ (n := 16) (S := fun w' => True) (ds := []) #[Z_,Z_,Z_,Z_,Z_,Z_,Z_,Z_,Z_,Z_,Z_,Z_,Z_,Z_,Z_,Z_] (by kernel_rfl) rfl rfl trivial (fun hHeld => ?_); refine with_tabW remoraref20_Sort.tab7 remoraref20_Sort.bits7 (fun HT_ HW_ => ?_)
            generalize wr.drew = w36 at HO_3 HB hHeld ⊢
            refine pure_ (i := 0) (N := some 21) (v := ?_) (a' := ?_) #[Y_,Z_,Z_,Z_,Z_,Z_,Z_,Z_,Z_,Z_,Z_,Z_,Z_,Z_,Z_,Z_] rfl rfl (any_of HT_.out (by kernel_rfl)) (fun _ _ _ h => h) (Or.inl ⟨by rfl, ?_⟩) ?_ ?_
            rotate_left
            ·intro w';go_simp;with_reducible rfl
            rotate_left
            ·simp only [Act.put, nS, i64_w, i32_w];rfl
            refine pure_ (i := 1) (N := some 22) (v := ?_) (a' := ?_) #[Y_,Y_,Z_,Z_,Z_,Z_,Z_,Z_,Z_,Z_,Z_,Z_,Z_,Z_,Z_,Z_] rfl rfl (any_of HT_.out (by kernel_rfl)) (fun _ _ _ h => h) (Or.inl ⟨by rfl, ?_⟩) ?_ ?_
            rotate_left
            ·intro w';go_simp;with_reducible rfl
            rotate_left
            ·simp only [Act.put, nS, i64_w, i32_w];rfl
            refine pure_ (i := 2) (N := some 23) (v := ?_) (a' := ?_) #[Y_,Y_,Y_,Z_,Z_,Z_,Z_,Z_,Z_,Z_,Z_,Z_,Z_,Z_,Z_,Z_] rfl rfl (any_of HT_.out (by kernel_rfl)) (fun _ _ _ h => h) (Or.inl ⟨by rfl, ?_⟩) ?_ ?_
            rotate_left
            ·intro w';go_simp;with_reducible rfl
            rotate_left
            ·simp only [Act.put, nS, i64_w, i32_w];rfl
            refine pure_ (i := 3) (N := some 24) (v := undef) (a' := ?_) #[Y_,Y_,Y_,Y_,Z_,Z_,Z_,Z_,Z_,Z_,Z_,Z_,Z_,Z_,Z_,Z_] rfl rfl (any_of HT_.out (by kernel_rfl)) (fun _ _ _ h => h) (Or.inr ⟨by rfl, rfl⟩) ?_ ?_
            rotate_left
            ·simp only [Act.put, nS, i64_w, i32_w];rfl
            refine pure_ (i := 4) (N := some 25) (v := undef) (a' := ?_) #[Y_,Y_,Y_,Y_,Y_,Z_,Z_,Z_,Z_,Z_,Z_,Z_,Z_,Z_,Z_,Z_] rfl rfl (any_of HT_.out (by kernel_rfl)) (fun _ _ _ h => h) (Or.inr ⟨by rfl, rfl⟩) ?_ ?_
            rotate_left
            ·simp only [Act.put, nS, i64_w, i32_w];rfl
            refine pure_ (i := 5) (N := some 26) (v := undef) (a' := ?_) #[Y_,Y_,Y_,Y_,Y_,Y_,Z_,Z_,Z_,Z_,Z_,Z_,Z_,Z_,Z_,Z_] rfl rfl (any_of HT_.out (by kernel_rfl)) (fun _ _ _ h => h) (Or.inr ⟨by rfl, rfl⟩) ?_ ?_
            rotate_left
            ·simp only [Act.put, nS, i64_w, i32_w];rfl
            refine pure_ (i := 6) (N := some 27) (v := undef) (a' := ?_) #[Y_,Y_,Y_,Y_,Y_,Y_,Y_,Z_,Z_,Z_,Z_,Z_,Z_,Z_,Z_,Z_] rfl rfl (any_of HT_.out (by kernel_rfl)) (fun _ _ _ h => h) (Or.inr ⟨by rfl, rfl⟩) ?_ ?_
            rotate_left
            ·simp only [Act.put, nS, i64_w, i32_w];rfl
            refine pure_ (i := 7) (N := some 28) (v := undef) (a' := ?_) #[Y_,Y_,Y_,Y_,Y_,Y_,Y_,Y_,Z_,Z_,Z_,Z_,Z_,Z_,Z_,Z_] rfl rfl (any_of HT_.out (by kernel_rfl)) (fun _ _ _ h => h) (Or.inr ⟨by rfl, rfl⟩) ?_ ?_
            rotate_left
            ·simp only [Act.put, nS, i64_w, i32_w];rfl
            refine pure_ (i := 8) (N := some 29) (v := undef) (a' := ?_) #[Y_,Y_,Y_,Y_,Y_,Y_,Y_,Y_,Y_,Z_,Z_,Z_,Z_,Z_,Z_,Z_] rfl rfl (any_of HT_.out (by kernel_rfl)) (fun _ _ _ h => h) (Or.inr ⟨by rfl, rfl⟩) ?_ ?_
            rotate_left
            ·simp only [Act.put, nS, i64_w, i32_w];rfl
            refine pure_ (i := 9) (N := some 30) (v := undef) (a' := ?_) #[Y_,Y_,Y_,Y_,Y_,Y_,Y_,Y_,Y_,Y_,Z_,Z_,Z_,Z_,Z_,Z_] rfl rfl (any_of HT_.out (by kernel_rfl)) (fun _ _ _ h => h) (Or.inr ⟨by rfl, rfl⟩) ?_ ?_
            rotate_left
            ·simp only [Act.put, nS, i64_w, i32_w];rfl
            refine pure_ (i := 10) (N := some 31) (v := undef) (a' := ?_) #[Y_,Y_,Y_,Y_,Y_,Y_,Y_,Y_,Y_,Y_,Y_,Z_,Z_,Z_,Z_,Z_] rfl rfl (any_of HT_.out (by kernel_rfl)) (fun _ _ _ h => h) (Or.inr ⟨by rfl, rfl⟩) ?_ ?_
            rotate_left
            ·simp only [Act.put, nS, i64_w, i32_w];rfl
            refine pure_ (i := 11) (N := some 32) (v := undef) (a' := ?_) #[Y_,Y_,Y_,Y_,Y_,Y_,Y_,Y_,Y_,Y_,Y_,Y_,Z_,Z_,Z_,Z_] rfl rfl (any_of HT_.out (by kernel_rfl)) (fun _ _ _ h => h) (Or.inr ⟨by rfl, rfl⟩) ?_ ?_
            rotate_left
            ·simp only [Act.put, nS, i64_w, i32_w];rfl
            refine pure_ (i := 12) (N := some 33) (v := undef) (a' := ?_) #[Y_,Y_,Y_,Y_,Y_,Y_,Y_,Y_,Y_,Y_,Y_,Y_,Y_,Z_,Z_,Z_] rfl rfl (any_of HT_.out (by kernel_rfl)) (fun _ _ _ h => h) (Or.inr ⟨by rfl, rfl⟩) ?_ ?_
            rotate_left
            ·simp only [Act.put, nS, i64_w, i32_w];rfl
            refine pure_ (i := 13) (N := some 34) (v := undef) (a' := ?_) #[Y_,Y_,Y_,Y_,Y_,Y_,Y_,Y_,Y_,Y_,Y_,Y_,Y_,Y_,Z_,Z_] rfl rfl (any_of HT_.out (by kernel_rfl)) (fun _ _ _ h => h) (Or.inr ⟨by rfl, rfl⟩) ?_ ?_
            rotate_left
            ·simp only [Act.put, nS, i64_w, i32_w];rfl
            refine pure_ (i := 14) (N := some 35) (v := undef) (a' := ?_) #[Y_,Y_,Y_,Y_,Y_,Y_,Y_,Y_,Y_,Y_,Y_,Y_,Y_,Y_,Y_,Z_] rfl rfl (any_of HT_.out (by kernel_rfl)) (fun _ _ _ h => h) (Or.inr ⟨by rfl, rfl⟩) ?_ ?_
            rotate_left
            ·simp only [Act.put, nS, i64_w, i32_w];rfl
            refine pure_ (i := 15) (N := some 36) (v := ?_) (a' := ?_) #[Y_,Y_,Y_,Y_,Y_,Y_,Y_,Y_,Y_,Y_,Y_,Y_,Y_,Y_,Y_,Y_] rfl rfl (any_of HT_.out (by kernel_rfl)) (fun _ _ _ h => h) (Or.inl ⟨by rfl, ?_⟩) ?_ ?_
            rotate_left
            ·intro w';go_simp;with_reducible rfl
            rotate_left
            ·simp only [Act.put, nS, i64_w, i32_w];rfl
            refine done_ (done_of HT_.out (by kernel_rfl)) ?_
            have p112 : 0 ≤ (x4_1 : Int) := of_decide_eq_true (by first | (with_reducible assumption) | assumption)
            have q112 : x4_1 < (l0.length : Int) := of_decide_eq_true (by first | (with_reducible assumption) | assumption)
            obtain ⟨ad112, e112, hx112_0, hx112_1, hx112_2, hx112_3, hx112_4, hx112_5, hx112_6, hx112_7, hx112_8, hx112_9, hx112_10⟩ := at_T35 HR0.out x4_1 p112 q112
            obtain rfl : ad101 = ad112 := (by injection e112)
            replace hx112_0 := (HB.out.cell (World.block_lt_of_cell? w _ hx112_0)).trans hx112_0
            replace hx112_1 := (HB.out.cell (World.block_lt_of_cell? w _ hx112_1)).trans hx112_1
            replace hx112_2 := (HB.out.cell (World.block_lt_of_cell? w _ hx112_2)).trans hx112_2
            replace hx112_3 := (HB.out.cell (World.block_lt_of_cell? w _ hx112_3)).trans hx112_3
            replace hx112_4 := (HB.out.cell (World.block_lt_of_cell? w _ hx112_4)).trans hx112_4
            replace hx112_5 := (HB.out.cell (World.block_lt_of_cell? w _ hx112_5)).trans hx112_5
            replace hx112_6 := (HB.out.cell (World.block_lt_of_cell? w _ hx112_6)).trans hx112_6
            replace hx112_7 := (HB.out.cell (World.block_lt_of_cell? w _ hx112_7)).trans hx112_7
            replace hx112_8 := (HB.out.cell (World.block_lt_of_cell? w _ hx112_8)).trans hx112_8
            replace hx112_9 := (HB.out.cell (World.block_lt_of_cell? w _ hx112_9)).trans hx112_9
            replace hx112_10 := (HB.out.cell (World.block_lt_of_cell? w _ hx112_10)).trans hx112_10
            replace p112 := eq_true p112
            replace q112 := eq_true q112
            have p35 : 0 ≤ (x5_2 : Int) := of_decide_eq_true (by first | (with_reducible assumption) | assumption)
            have q35 : (x5_2 : Int) < ((x3_2.length : Int) : Int) := of_decide_eq_true (by first | (with_reducible assumption) | assumption)
            obtain ⟨go35, co35, eo35, gb35, gl35, cl35, HG35⟩ := Kd.R_form HO_3.out (by omega)
            (first | cases eo35 | (injection eo35 with ea_ en_ ec_; (first | subst ea_ | (injection ea_ with ea_; subst ea_)); subst ec_; clear en_))
            have GB35 := Aside0.mk gb35
            have GG35 := Aside0.mk HG35
            clear gb35 gl35 HG35
            obtain ⟨ce35, hcl35, hM35, hcc35, hfr35⟩ := Kd.R_elem HO_3.out z35 (x5_2 : Int) p35 q35
            obtain rfl := k35_openM hM35
            have hx35_0 : w36.cell? ⟨go35, (x5_2 : Int).toNat * 11, none⟩ = some (.string ((rd_T35 x3_2 x5_2).f0)) := hcc35 0 _ rfl
            have hx35_1 : w36.cell? ⟨go35, (x5_2 : Int).toNat * 11 + 1, none⟩ = some (.int .i64 ((rd_T35 x3_2 x5_2).f1)) := hcc35 1 _ rfl
            have hx35_2 : w36.cell? ⟨go35, (x5_2 : Int).toNat * 11 + 2, none⟩ = some (.int .i64 ((rd_T35 x3_2 x5_2).f2)) := hcc35 2 _ rfl
            have hx35_3 : w36.cell? ⟨go35, (x5_2 : Int).toNat * 11 + 3, none⟩ = some (.int .i64 ((rd_T35 x3_2 x5_2).f3.f0)) := hcc35 3 _ rfl
            have hx35_4 : w36.cell? ⟨go35, (x5_2 : Int).toNat * 11 + 4, none⟩ = some (.int .i64 ((rd_T35 x3_2 x5_2).f3.f1)) := hcc35 4 _ rfl
            have hx35_5 : w36.cell? ⟨go35, (x5_2 : Int).toNat * 11 + 5, none⟩ = some (.int .i64 ((rd_T35 x3_2 x5_2).f3.f2)) := hcc35 5 _ rfl
            have hx35_6 : w36.cell? ⟨go35, (x5_2 : Int).toNat * 11 + 6, none⟩ = some (.int .i64 ((rd_T35 x3_2 x5_2).f3.f3)) := hcc35 6 _ rfl
            have hx35_7 : w36.cell? ⟨go35, (x5_2 : Int).toNat * 11 + 7, none⟩ = some (.int .i64 ((rd_T35 x3_2 x5_2).f3.f4)) := hcc35 7 _ rfl
            have hx35_8 : w36.cell? ⟨go35, (x5_2 : Int).toNat * 11 + 8, none⟩ = some (.string ((rd_T35 x3_2 x5_2).f4)) := hcc35 8 _ rfl
            have hx35_9 : w36.cell? ⟨go35, (x5_2 : Int).toNat * 11 + 9, none⟩ = some (.string ((rd_T35 x3_2 x5_2).f5)) := hcc35 9 _ rfl
            have hx35_10 : w36.cell? ⟨go35, (x5_2 : Int).toNat * 11 + 10, none⟩ = some (.int .i64 ((rd_T35 x3_2 x5_2).f6)) := hcc35 10 _ rfl
            have hf35_0 : w36.frozen? ⟨go35, (x5_2 : Int).toNat * 11, none⟩ = false := hfr35 0
            have hf35_1 : w36.frozen? ⟨go35, (x5_2 : Int).toNat * 11 + 1, none⟩ = false := hfr35 1
            have hf35_2 : w36.frozen? ⟨go35, (x5_2 : Int).toNat * 11 + 2, none⟩ = false := hfr35 2
            have hf35_3 : w36.frozen? ⟨go35, (x5_2 : Int).toNat * 11 + 3, none⟩ = false := hfr35 3
            have hf35_4 : w36.frozen? ⟨go35, (x5_2 : Int).toNat * 11 + 4, none⟩ = false := hfr35 4
            have hf35_5 : w36.frozen? ⟨go35, (x5_2 : Int).toNat * 11 + 5, none⟩ = false := hfr35 5
            have hf35_6 : w36.frozen? ⟨go35, (x5_2 : Int).toNat * 11 + 6, none⟩ = false := hfr35 6
            have hf35_7 : w36.frozen? ⟨go35, (x5_2 : Int).toNat * 11 + 7, none⟩ = false := hfr35 7
            have hf35_8 : w36.frozen? ⟨go35, (x5_2 : Int).toNat * 11 + 8, none⟩ = false := hfr35 8
            have hf35_9 : w36.frozen? ⟨go35, (x5_2 : Int).toNat * 11 + 9, none⟩ = false := hfr35 9
            have hf35_10 : w36.frozen? ⟨go35, (x5_2 : Int).toNat * 11 + 10, none⟩ = false := hfr35 10
            clear hcl35 hcc35 hfr35 hM35
            replace p35 := eq_true p35
            replace q35 := eq_true q35
            have HX37 := Aside0.mk (show Kd.R k35 35 w36 w.heap.size (fun _ => True) (.slice (some ⟨go35, 0, none⟩) x3_2.length co35) x3_2 from (upR HO_3.out))
            obtain ⟨ce37, hcl37, hM37, hcc37, hfr37⟩ := Kd.R_elem HX37.out z35 (x5_2 : Int) (of_decide_eq_true (by first | (with_reducible assumption) | assumption)) (by have h_ : (x5_2 : Int) < ((x3_2.length : Int) : Int) := of_decide_eq_true (by first | (with_reducible assumption) | assumption); first | exact h_ | (have e_ := (Kd.R_reads' HO_3.out).1; omega) | simpa using h_)
            obtain rfl := k35_openM hM37
            have HP37 := Kd.R_seg HX37.out (x5_2 : Int) (of_decide_eq_true (by first | (with_reducible assumption) | assumption)) (by have h_ : (x5_2 : Int) < ((x3_2.length : Int) : Int) := of_decide_eq_true (by first | (with_reducible assumption) | assumption); first | exact h_ | (have e_ := (Kd.R_reads' HO_3.out).1; omega) | simpa using h_) (seg := [.string ((rd_T35 l0 x4_1).f0), .int .i64 ((rd_T35 l0 x4_1).f1), .int .i64 ((rd_T35 l0 x4_1).f2), .int .i64 ((rd_T35 l0 x4_1).f3.f0), .int .i64 ((rd_T35 l0 x4_1).f3.f1), .int .i64 ((rd_T35 l0 x4_1).f3.f2), .int .i64 ((rd_T35 l0 x4_1).f3.f3), .int .i64 ((rd_T35 l0 x4_1).f3.f4), .string ((rd_T35 l0 x4_1).f4), .string ((rd_T35 l0 x4_1).f5), .int .i64 ((rd_T35 l0 x4_1).f6)]) (j := 0) hcl37 hcc37 (show 11 ≤ 11 from by decide) (x' := (⟨(rd_T35 l0 x4_1).f0, (rd_T35 l0 x4_1).f1, (rd_T35 l0 x4_1).f2, (⟨(rd_T35 l0 x4_1).f3.f0, (rd_T35 l0 x4_1).f3.f1, (rd_T35 l0 x4_1).f3.f2, (rd_T35 l0 x4_1).f3.f3, (rd_T35 l0 x4_1).f3.f4⟩ : S33), (rd_T35 l0 x4_1).f4, (rd_T35 l0 x4_1).f5, (rd_T35 l0 x4_1).f6⟩ : S35)) (k35_mkM _ _ _ (⟨(rd_T35 l0 x4_1).f0, (rd_T35 l0 x4_1).f1, (rd_T35 l0 x4_1).f2, (⟨(rd_T35 l0 x4_1).f3.f0, (rd_T35 l0 x4_1).f3.f1, (rd_T35 l0 x4_1).f3.f2, (rd_T35 l0 x4_1).f3.f3, (rd_T35 l0 x4_1).f3.f4⟩ : S33), (rd_T35 l0 x4_1).f4, (rd_T35 l0 x4_1).f5, (rd_T35 l0 x4_1).f6⟩ : S35) ) (fun _ hk => hk)
            have hx37_0 := hcc37 0 _ rfl
            (try simp only [show (k35).sz = 11 from rfl, Nat.mul_one, Nat.add_zero] at hx37_0)
            have hf37_0 := hfr37 0
            (try simp only [show (k35).sz = 11 from rfl, Nat.mul_one, Nat.add_zero] at hf37_0)
            have hx37_1 := hcc37 1 _ rfl
            (try simp only [show (k35).sz = 11 from rfl, Nat.mul_one, Nat.add_zero] at hx37_1)
            have hf37_1 := hfr37 1
            (try simp only [show (k35).sz = 11 from rfl, Nat.mul_one, Nat.add_zero] at hf37_1)
            have hx37_2 := hcc37 2 _ rfl
            (try simp only [show (k35).sz = 11 from rfl, Nat.mul_one, Nat.add_zero] at hx37_2)
            have hf37_2 := hfr37 2
            (try simp only [show (k35).sz = 11 from rfl, Nat.mul_one, Nat.add_zero] at hf37_2)
            have hx37_3 := hcc37 3 _ rfl
            (try simp only [show (k35).sz = 11 from rfl, Nat.mul_one, Nat.add_zero] at hx37_3)
            have hf37_3 := hfr37 3
            (try simp only [show (k35).sz = 11 from rfl, Nat.mul_one, Nat.add_zero] at hf37_3)
            have hx37_4 := hcc37 4 _ rfl
            (try simp only [show (k35).sz = 11 from rfl, Nat.mul_one, Nat.add_zero] at hx37_4)
            have hf37_4 := hfr37 4
            (try simp only [show (k35).sz = 11 from rfl, Nat.mul_one, Nat.add_zero] at hf37_4)
            have hx37_5 := hcc37 5 _ rfl
            (try simp only [show (k35).sz = 11 from rfl, Nat.mul_one, Nat.add_zero] at hx37_5)
            have hf37_5 := hfr37 5
            (try simp only [show (k35).sz = 11 from rfl, Nat.mul_one, Nat.add_zero] at hf37_5)
            have hx37_6 := hcc37 6 _ rfl
            (try simp only [show (k35).sz = 11 from rfl, Nat.mul_one, Nat.add_zero] at hx37_6)
            have hf37_6 := hfr37 6
            (try simp only [show (k35).sz = 11 from rfl, Nat.mul_one, Nat.add_zero] at hf37_6)
            have hx37_7 := hcc37 7 _ rfl
            (try simp only [show (k35).sz = 11 from rfl, Nat.mul_one, Nat.add_zero] at hx37_7)
            have hf37_7 := hfr37 7
            (try simp only [show (k35).sz = 11 from rfl, Nat.mul_one, Nat.add_zero] at hf37_7)
            have hx37_8 := hcc37 8 _ rfl
            (try simp only [show (k35).sz = 11 from rfl, Nat.mul_one, Nat.add_zero] at hx37_8)
            have hf37_8 := hfr37 8
            (try simp only [show (k35).sz = 11 from rfl, Nat.mul_one, Nat.add_zero] at hf37_8)
            have hx37_9 := hcc37 9 _ rfl
            (try simp only [show (k35).sz = 11 from rfl, Nat.mul_one, Nat.add_zero] at hx37_9)
            have hf37_9 := hfr37 9
            (try simp only [show (k35).sz = 11 from rfl, Nat.mul_one, Nat.add_zero] at hf37_9)
            have hx37_10 := hcc37 10 _ rfl
            (try simp only [show (k35).sz = 11 from rfl, Nat.mul_one, Nat.add_zero] at hx37_10)
            have hf37_10 := hfr37 10
            (try simp only [show (k35).sz = 11 from rfl, Nat.mul_one, Nat.add_zero] at hf37_10)
            clear hcl37 hcc37 hfr37 hM37
            try go_wp2_with (first | ((with_reducible refine gate_store (t := 35) (p := 53) rfl ?_); refine store_event (t := 35) (p := 53) (v := ?vo_w38) (w1 := (((((((((((w36.setCell ⟨go35, (x5_2 : Int).toNat * 11, none⟩ (.string ((rd_T35 l0 x4_1).f0))).setCell ⟨go35, (x5_2 : Int).toNat * 11 + 1, none⟩ (.int .i64 ((rd_T35 l0 x4_1).f1))).setCell ⟨go35, (x5_2 : Int).toNat * 11 + 2, none⟩ (.int .i64 ((rd_T35 l0 x4_1).f2))).setCell ⟨go35, (x5_2 : Int).toNat * 11 + 3, none⟩ (.int .i64 ((rd_T35 l0 x4_1).f3.f0))).setCell ⟨go35, (x5_2 : Int).toNat * 11 + 4, none⟩ (.int .i64 ((rd_T35 l0 x4_1).f3.f1))).setCell ⟨go35, (x5_2 : Int).toNat * 11 + 5, none⟩ (.int .i64 ((rd_T35 l0 x4_1).f3.f2))).setCell ⟨go35, (x5_2 : Int).toNat * 11 + 6, none⟩ (.int .i64 ((rd_T35 l0 x4_1).f3.f3))).setCell ⟨go35, (x5_2 : Int).toNat * 11 + 7, none⟩ (.int .i64 ((rd_T35 l0 x4_1).f3.f4))).setCell ⟨go35, (x5_2 : Int).toNat * 11 + 8, none⟩ (.string ((rd_T35 l0 x4_1).f4))).setCell ⟨go35, (x5_2 : Int).toNat * 11 + 9, none⟩ (.string ((rd_T35 l0 x4_1).f5))).setCell ⟨go35, (x5_2 : Int).toNat * 11 + 10, none⟩ (.int .i64 ((rd_T35 l0 x4_1).f6)))) ?hg ?ho ?hn ?hr ?_; (case ho => rfl); (case hg => rfl); (case hn => rfl); (case hr => first | (go_simp; done) | (go_simp; rfl)); intro w38 hw; have hg : w36.grownBy w38 (some go35) := (by rw [hw]; exact HP37.2); have hp_ : Kd.R k35 35 w38 w.heap.size (fun _ => True) (.slice (some ⟨go35, 0, none⟩) x3_2.length co35) y113 := (by rw [hw, Ny113.out]; exact HP37.1); clear HP37; have n0_ := Aside0.mk (hp_); have n1_ := Aside0.mk ((by rw [hw]; exact below_set (below_set (below_set (below_set (below_set (below_set (below_set (below_set (below_set (below_set (below_set (HB.out) GB35.out) GB35.out) GB35.out) GB35.out) GB35.out) GB35.out) GB35.out) GB35.out) GB35.out) GB35.out) GB35.out : Below w.heap.size w w38)); clear HO_3; clear HB; have HO_3 := n0_; have HB := n1_; clear n0_ n1_; clear hg hw hp_))
            go_roundg k2
            case measure => have := HK1.out; have := HK2.out; omega
            case rel => exact ⟨(y113), (wrap64 (x4_1 + 1)), (by first | rfl | (simp; done) | (simp [*]; done)), H', ⟨by have := HK1.out; have := HK2.out; omega⟩, ⟨upR HO_3.out⟩, ⟨upB HB.out⟩⟩
           rw [if_neg c34] at H
           exact absurd H (by simp)
          rw [if_neg c33] at H
          exact absurd H (by simp)
         rw [if_neg c32] at H
         exact absurd H (by simp)
        rw [if_neg c31] at H
        exact absurd H (by simp)
     rw [if_neg c4] at H
     exact absurd H (by simp)
    rw [if_neg c3] at H
    exact absurd H (by simp)
   rw [if_neg c2] at H
   have c2b0 : decide (x4_1 < (l0.length : Int)) = false := decide_eq_false c2
   clear c2
   obtain rfl := Option.some.inj H
   go_wp2
   go_ret
   exact ⟨_, by first | rfl | (simp [errW_none, errW_some] <;> rfl) | (simp [*, errW_none, errW_some] <;> rfl), by (with_reducible repeat (first | apply Kd.R_alloc | apply Kd.R_drewN | apply Kd.R_drew)); exact HO_3.out, upB HB.out⟩
end Go.Proofs.YtcdmgdegohcmhaaDoor.PA
