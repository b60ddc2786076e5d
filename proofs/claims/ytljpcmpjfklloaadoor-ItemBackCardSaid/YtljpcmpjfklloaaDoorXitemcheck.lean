/- item.check by its contract. -/
import Derived.Test.YtljpcmpjfklloaaDoorPAfitemmay
import Derived.Test.YtljpcmpjfklloaaDoorPAfitemtwo
import Derived.Test.YtljpcmpjfklloaaDoorPAx0
import Derived.Test.YtljpcmpjfklloaaDoorXB1
import Derived.Test.YtljpcmpjfklloaaDoorXKinds
import Derived.Test.YtljpcmpjfklloaaDoorXMayPure
namespace Go.Proofs.YtljpcmpjfklloaaDoor.PA
open Go.RowKit Go.Proofs.YtljpcmpjfklloaaDoorW.PrintWords Go.Proofs.YtljpcmpjfklloaaDoorW.PrintLast Go.Proofs.YtljpcmpjfklloaaDoorW.PrintMore
attribute [local go_sem] max2_int min2_int max_two min_two max_three min_three max_four min_four
set_option linter.unusedVariables false
set_option linter.unusedSimpArgs false
def item_check_h.T1 : Bool × List (List Nat × List Nat) := (true, [([], []), ([0], [0]), ([1], [1]), ([2], [2]), ([3], [3]), ([4, 3], [3, 4]), ([3, 3], [3]), ([3, 6], [3]), ([5, 7, 3], [3, 5, 7]), ([3, 8], [3, 8]), ([9, 6], [9]), ([10], [10]), ([11, 10], [10, 11]), ([12, 10], [10, 12]), ([10, 13], [10, 13]), ([14, 10], [14]), ([15], [15]), ([16, 15], [15, 16]), ([17, 15], [15, 17]), ([15, 18], [15, 18]), ([19, 15], [19]), ([20], [20]), ([21, 20], [20, 21]), ([22, 20], [20, 22]), ([23, 20], [20, 23]), ([20, 24], [20, 24]), ([25, 20], [25]), ([26], [26]), ([27, 26], [26, 27]), ([28, 26], [26, 28]), ([26, 26], [26]), ([26, 30], [26]), ([29, 31, 26], [26, 29, 31]), ([26, 32], [26, 32]), ([33, 30], [33])])
def item_check_h.B1 : List Nat := [0, 1, 3, 7, 15, 31, 15, 79, 255, 511, 1023, 2047, 4095, 8191, 16383, 32767, 65535, 131071, 262143, 524287, 1048575, 2097151, 4194303, 8388607, 16777215, 33554431, 67108863, 134217727, 268435455, 536870911, 134217727, 1207959551, 4294967295, 8589934591, 17179869183]
theorem item_check_h.tab1 : rtab .any (opsOf Tryd.f22 1) = item_check_h.T1 := by kernel_rfl
theorem item_check_h.bits1 : waitsOk item_check_h.T1.2 item_check_h.B1 = true := by kernel_rfl
def checkI (k : Int) (p f : ByteArray) (t d : Int) : Int :=
  if k < 1 ∨ k ≥ 8 ∨ d < 0 ∨ d ≥ 512 ∨ t < 0 ∨ t ≥ 4 then 2
  else if mayB p = false ∨ (twoB k = true ∧ mayB f = false) then 9
  else if twoB k = false ∧ ¬ f.toList = [] then 2 else 0
def item_check.f (a0_0 : Int) (a0_1 : ByteArray) (a0_2 : ByteArray) (a0_3 : ByteArray) (a0_4 : Int) (a0_5 : Int) (a0_6 : Int) (a0_7 : Int) (a0_8 : Int) (a0_9 : Int) (a0_10 : Int) (a0_11 : ByteArray) (a0_12 : ByteArray) (a0_13 : Int) (a0_14 : Int) : Option Int := if a0_1.size < 4398046511104 ∧ a0_2.size < 4398046511104 then some (checkI a0_0 a0_1 a0_2 a0_4 a0_14) else none
theorem chk_cells {w w' : World} {a0_0 : Int} {a0_1 : ByteArray} {a0_2 : ByteArray} {a0_3 : ByteArray} {a0_4 : Int} {a0_5 : Int} {a0_6 : Int} {a0_7 : Int} {a0_8 : Int} {a0_9 : Int} {a0_10 : Int} {a0_11 : ByteArray} {a0_12 : ByteArray} {a0_13 : Int} {a0_14 : Int} (h : B1 28 w w' #[.int .i64 a0_0, .string a0_1, .string a0_2, .string a0_3, .int .i64 a0_4, .int .i64 a0_5, .int .i64 a0_6, .int .i64 a0_7, .int .i64 a0_8, .int .i64 a0_9, .int .i64 a0_10, .string a0_11, .string a0_12, .int .i64 a0_13, .int .i64 a0_14]) : w'.cell? ⟨w.heap.size, 0, none⟩ = some (.int .i64 a0_0) ∧ w'.cell? ⟨w.heap.size, 4, none⟩ = some (.int .i64 a0_4) ∧ w'.cell? ⟨w.heap.size, 14, none⟩ = some (.int .i64 a0_14) :=
  ⟨blk_cell h.2 0, blk_cell h.2 4, blk_cell h.2 14⟩
set_option maxHeartbeats 4000000 in
set_option maxRecDepth 100000 in
theorem item_check.calls (a0_0 : Int) (a0_1 : ByteArray) (a0_2 : ByteArray) (a0_3 : ByteArray) (a0_4 : Int) (a0_5 : Int) (a0_6 : Int) (a0_7 : Int) (a0_8 : Int) (a0_9 : Int) (a0_10 : Int) (a0_11 : ByteArray) (a0_12 : ByteArray) (a0_13 : Int) (a0_14 : Int) (r : Int) (w : World) (h : item_check.f a0_0 a0_1 a0_2 a0_3 a0_4 a0_5 a0_6 a0_7 a0_8 a0_9 a0_10 a0_11 a0_12 a0_13 a0_14 = some r) :
    Calls Tryd.prog 22 #[.agg #[.int .i64 a0_0, .string a0_1, .string a0_2, .string a0_3, .int .i64 a0_4, .int .i64 a0_5, .int .i64 a0_6, .int .i64 a0_7, .int .i64 a0_8, .int .i64 a0_9, .int .i64 a0_10, .string a0_11, .string a0_12, .int .i64 a0_13, .int .i64 a0_14]] w fun e w' => e = .returned (.int .i64 r) ∧ Below w.heap.size w w' := by
  unfold item_check.f at h
  by_cases hs : a0_1.size < 4398046511104 ∧ a0_2.size < 4398046511104
  · rw [if_pos hs] at h
    obtain rfl := Option.some.inj h
    clear h
    have HD := Aside0.mk (B1.step (B1.start 28 w #[.int .i64 a0_0, .string a0_1, .string a0_2, .string a0_3, .int .i64 a0_4, .int .i64 a0_5, .int .i64 a0_6, .int .i64 a0_7, .int .i64 a0_8, .int .i64 a0_9, .int .i64 a0_10, .string a0_11, .string a0_12, .int .i64 a0_13, .int .i64 a0_14]) (below_drew1 (Below.refl _ _)))
    go_enter Tryd.func22, Tryd.ntmps22
    by_cases e0 : a0_0 < 1
    · have d0 : decide (a0_0 < 1) = true := decide_eq_true e0
      rw [checkI, if_pos (by omega)]
      go_wp2
      refine start_ (n := 35) (S := fun w' => w'.cell? ⟨w.heap.size, 0, none⟩ = some (.int .i64 a0_0) ∧ w'.cell? ⟨w.heap.size, 4, none⟩ = some (.int .i64 a0_4) ∧ w'.cell? ⟨w.heap.size, 14, none⟩ = some (.int .i64 a0_14)) (ds := []) #[Z_, Z_, Z_, Z_, Z_, Z_, Z_, Z_, Z_, Z_, Z_, Z_, Z_, Z_, Z_, Z_, Z_, Z_, Z_, Z_, Z_, Z_, Z_, Z_, Z_, Z_, Z_, Z_, Z_, Z_, Z_, Z_, Z_, Z_, Z_] (by kernel_rfl) rfl rfl (chk_cells HD.out) (fun hHeld => ?_)
      refine with_tabW item_check_h.tab1 item_check_h.bits1 (fun HT_ HW_ => ?_)
      refine pure_ (i := 0) (N := some 4) (v := ?_) (a' := ?_) #[Y_, Z_, Z_, Z_, Z_, Z_, Z_, Z_, Z_, Z_, Z_, Z_, Z_, Z_, Z_, Z_, Z_, Z_, Z_, Z_, Z_, Z_, Z_, Z_, Z_, Z_, Z_, Z_, Z_, Z_, Z_, Z_, Z_, Z_, Z_] rfl rfl (any_of HT_.out (by kernel_rfl)) (fun _ _ _ h => h) (Or.inl ⟨by rfl, ?_⟩) ?_ ?_
      rotate_left
      · intro w'; go_simp; with_reducible rfl
      rotate_left
      · simp only [Act.put, nS, i64_w, i32_w]; rfl
      refine take_ (i := 1) (N := some 5) (v := ?_) (a' := ?_) #[Y_, Y_, Z_, Z_, Z_, Z_, Z_, Z_, Z_, Z_, Z_, Z_, Z_, Z_, Z_, Z_, Z_, Z_, Z_, Z_, Z_, Z_, Z_, Z_, Z_, Z_, Z_, Z_, Z_, Z_, Z_, Z_, Z_, Z_, Z_] rfl rfl (take_ofW HT_.out HW_.out (by kernel_rfl)) (fun _ _ _ h => h) (Or.inl ⟨by rfl, ?_⟩) hHeld ?_ ?_
      rotate_left
      · rintro w' ⟨hc0, hc4, hc14⟩
        go_simp
        with_reducible rfl
      rotate_left
      · simp only [Act.put, nS, i64_w, i32_w]; rfl
      refine pure_ (i := 2) (N := some 6) (v := ?_) (a' := ?_) #[Y_, Y_, Y_, Z_, Z_, Z_, Z_, Z_, Z_, Z_, Z_, Z_, Z_, Z_, Z_, Z_, Z_, Z_, Z_, Z_, Z_, Z_, Z_, Z_, Z_, Z_, Z_, Z_, Z_, Z_, Z_, Z_, Z_, Z_, Z_] rfl rfl (any_of HT_.out (by kernel_rfl)) (fun _ _ _ h => h) (Or.inl ⟨by rfl, ?_⟩) ?_ ?_
      rotate_left
      · intro w'; go_simp; with_reducible rfl
      rotate_left
      · simp only [Act.put, nS, i64_w, i32_w]; rfl
      refine pure_ (i := 3) (N := some 7) (v := ?_) (a' := ?_) #[Y_, Y_, Y_, Y_, Z_, Z_, Z_, Z_, Z_, Z_, Z_, Z_, Z_, Z_, Z_, Z_, Z_, Z_, Z_, Z_, Z_, Z_, Z_, Z_, Z_, Z_, Z_, Z_, Z_, Z_, Z_, Z_, Z_, Z_, Z_] rfl rfl (any_of HT_.out (by kernel_rfl)) (fun _ _ _ h => h) (Or.inl ⟨by rfl, ?_⟩) ?_ ?_
      rotate_left
      · intro w'; go_simp; with_reducible rfl
      rotate_left
      · simp only [Act.put, nS, i64_w, i32_w]; rfl
      refine pure_ (i := 4) (N := some 8) (v := undef) (a' := ?_) #[Y_, Y_, Y_, Y_, Y_, Z_, Z_, Z_, Z_, Z_, Z_, Z_, Z_, Z_, Z_, Z_, Z_, Z_, Z_, Z_, Z_, Z_, Z_, Z_, Z_, Z_, Z_, Z_, Z_, Z_, Z_, Z_, Z_, Z_, Z_] rfl rfl (any_of HT_.out (by kernel_rfl)) (fun _ _ _ h => h) (Or.inr ⟨by rfl, rfl⟩) ?_ ?_
      rotate_left
      · simp only [Act.put, nS, i64_w, i32_w]; rfl
      refine pure_ (i := 5) (N := some 9) (v := undef) (a' := ?_) #[Y_, Y_, Y_, Y_, Y_, Y_, Z_, Z_, Z_, Z_, Z_, Z_, Z_, Z_, Z_, Z_, Z_, Z_, Z_, Z_, Z_, Z_, Z_, Z_, Z_, Z_, Z_, Z_, Z_, Z_, Z_, Z_, Z_, Z_, Z_] rfl rfl (any_of HT_.out (by kernel_rfl)) (fun _ _ _ h => h) (Or.inr ⟨by rfl, rfl⟩) ?_ ?_
      rotate_left
      · simp only [Act.put, nS, i64_w, i32_w]; rfl
      refine pure_ (i := 6) (N := some 10) (v := undef) (a' := ?_) #[Y_, Y_, Y_, Y_, Y_, Y_, Y_, Z_, Z_, Z_, Z_, Z_, Z_, Z_, Z_, Z_, Z_, Z_, Z_, Z_, Z_, Z_, Z_, Z_, Z_, Z_, Z_, Z_, Z_, Z_, Z_, Z_, Z_, Z_, Z_] rfl rfl (any_of HT_.out (by kernel_rfl)) (fun _ _ _ h => h) (Or.inr ⟨by rfl, rfl⟩) ?_ ?_
      rotate_left
      · simp only [Act.put, nS, i64_w, i32_w]; rfl
      refine pure_ (i := 7) (N := some 11) (v := undef) (a' := ?_) #[Y_, Y_, Y_, Y_, Y_, Y_, Y_, Y_, Z_, Z_, Z_, Z_, Z_, Z_, Z_, Z_, Z_, Z_, Z_, Z_, Z_, Z_, Z_, Z_, Z_, Z_, Z_, Z_, Z_, Z_, Z_, Z_, Z_, Z_, Z_] rfl rfl (any_of HT_.out (by kernel_rfl)) (fun _ _ _ h => h) (Or.inr ⟨by rfl, rfl⟩) ?_ ?_
      rotate_left
      · simp only [Act.put, nS, i64_w, i32_w]; rfl
      refine pure_ (i := 8) (N := some 12) (v := undef) (a' := ?_) #[Y_, Y_, Y_, Y_, Y_, Y_, Y_, Y_, Y_, Z_, Z_, Z_, Z_, Z_, Z_, Z_, Z_, Z_, Z_, Z_, Z_, Z_, Z_, Z_, Z_, Z_, Z_, Z_, Z_, Z_, Z_, Z_, Z_, Z_, Z_] rfl rfl (any_of HT_.out (by kernel_rfl)) (fun _ _ _ h => h) (Or.inr ⟨by rfl, rfl⟩) ?_ ?_
      rotate_left
      · simp only [Act.put, nS, i64_w, i32_w]; rfl
      refine pure_ (i := 9) (N := some 13) (v := ?_) (a' := ?_) #[Y_, Y_, Y_, Y_, Y_, Y_, Y_, Y_, Y_, Y_, Z_, Z_, Z_, Z_, Z_, Z_, Z_, Z_, Z_, Z_, Z_, Z_, Z_, Z_, Z_, Z_, Z_, Z_, Z_, Z_, Z_, Z_, Z_, Z_, Z_] rfl rfl (any_of HT_.out (by kernel_rfl)) (fun _ _ _ h => h) (Or.inl ⟨by rfl, ?_⟩) ?_ ?_
      rotate_left
      · intro w'; go_simp; with_reducible rfl
      rotate_left
      · simp only [Act.put, nS, i64_w, i32_w]; rfl
      refine pure_ (i := 10) (N := some 14) (v := ?_) (a' := ?_) #[Y_, Y_, Y_, Y_, Y_, Y_, Y_, Y_, Y_, Y_, Y_, Z_, Z_, Z_, Z_, Z_, Z_, Z_, Z_, Z_, Z_, Z_, Z_, Z_, Z_, Z_, Z_, Z_, Z_, Z_, Z_, Z_, Z_, Z_, Z_] rfl rfl (any_of HT_.out (by kernel_rfl)) (fun _ _ _ h => h) (Or.inl ⟨by rfl, ?_⟩) ?_ ?_
      rotate_left
      · intro w'; go_simp; with_reducible rfl
      rotate_left
      · simp only [Act.put, nS, i64_w, i32_w]; rfl
      refine pure_ (i := 11) (N := some 15) (v := undef) (a' := ?_) #[Y_, Y_, Y_, Y_, Y_, Y_, Y_, Y_, Y_, Y_, Y_, Y_, Z_, Z_, Z_, Z_, Z_, Z_, Z_, Z_, Z_, Z_, Z_, Z_, Z_, Z_, Z_, Z_, Z_, Z_, Z_, Z_, Z_, Z_, Z_] rfl rfl (any_of HT_.out (by kernel_rfl)) (fun _ _ _ h => h) (Or.inr ⟨by rfl, rfl⟩) ?_ ?_
      rotate_left
      · simp only [Act.put, nS, i64_w, i32_w]; rfl
      refine pure_ (i := 12) (N := some 16) (v := undef) (a' := ?_) #[Y_, Y_, Y_, Y_, Y_, Y_, Y_, Y_, Y_, Y_, Y_, Y_, Y_, Z_, Z_, Z_, Z_, Z_, Z_, Z_, Z_, Z_, Z_, Z_, Z_, Z_, Z_, Z_, Z_, Z_, Z_, Z_, Z_, Z_, Z_] rfl rfl (any_of HT_.out (by kernel_rfl)) (fun _ _ _ h => h) (Or.inr ⟨by rfl, rfl⟩) ?_ ?_
      rotate_left
      · simp only [Act.put, nS, i64_w, i32_w]; rfl
      refine pure_ (i := 13) (N := some 17) (v := undef) (a' := ?_) #[Y_, Y_, Y_, Y_, Y_, Y_, Y_, Y_, Y_, Y_, Y_, Y_, Y_, Y_, Z_, Z_, Z_, Z_, Z_, Z_, Z_, Z_, Z_, Z_, Z_, Z_, Z_, Z_, Z_, Z_, Z_, Z_, Z_, Z_, Z_] rfl rfl (any_of HT_.out (by kernel_rfl)) (fun _ _ _ h => h) (Or.inr ⟨by rfl, rfl⟩) ?_ ?_
      rotate_left
      · simp only [Act.put, nS, i64_w, i32_w]; rfl
      refine pure_ (i := 14) (N := some 18) (v := ?_) (a' := ?_) #[Y_, Y_, Y_, Y_, Y_, Y_, Y_, Y_, Y_, Y_, Y_, Y_, Y_, Y_, Y_, Z_, Z_, Z_, Z_, Z_, Z_, Z_, Z_, Z_, Z_, Z_, Z_, Z_, Z_, Z_, Z_, Z_, Z_, Z_, Z_] rfl rfl (any_of HT_.out (by kernel_rfl)) (fun _ _ _ h => h) (Or.inl ⟨by rfl, ?_⟩) ?_ ?_
      rotate_left
      · intro w'; go_simp; with_reducible rfl
      rotate_left
      · simp only [Act.put, nS, i64_w, i32_w]; rfl
      refine pure_ (i := 15) (N := some 19) (v := ?_) (a' := ?_) #[Y_, Y_, Y_, Y_, Y_, Y_, Y_, Y_, Y_, Y_, Y_, Y_, Y_, Y_, Y_, Y_, Z_, Z_, Z_, Z_, Z_, Z_, Z_, Z_, Z_, Z_, Z_, Z_, Z_, Z_, Z_, Z_, Z_, Z_, Z_] rfl rfl (any_of HT_.out (by kernel_rfl)) (fun _ _ _ h => h) (Or.inl ⟨by rfl, ?_⟩) ?_ ?_
      rotate_left
      · intro w'; go_simp; with_reducible rfl
      rotate_left
      · simp only [Act.put, nS, i64_w, i32_w]; rfl
      refine pure_ (i := 16) (N := some 20) (v := undef) (a' := ?_) #[Y_, Y_, Y_, Y_, Y_, Y_, Y_, Y_, Y_, Y_, Y_, Y_, Y_, Y_, Y_, Y_, Y_, Z_, Z_, Z_, Z_, Z_, Z_, Z_, Z_, Z_, Z_, Z_, Z_, Z_, Z_, Z_, Z_, Z_, Z_] rfl rfl (any_of HT_.out (by kernel_rfl)) (fun _ _ _ h => h) (Or.inr ⟨by rfl, rfl⟩) ?_ ?_
      rotate_left
      · simp only [Act.put, nS, i64_w, i32_w]; rfl
      refine pure_ (i := 17) (N := some 21) (v := undef) (a' := ?_) #[Y_, Y_, Y_, Y_, Y_, Y_, Y_, Y_, Y_, Y_, Y_, Y_, Y_, Y_, Y_, Y_, Y_, Y_, Z_, Z_, Z_, Z_, Z_, Z_, Z_, Z_, Z_, Z_, Z_, Z_, Z_, Z_, Z_, Z_, Z_] rfl rfl (any_of HT_.out (by kernel_rfl)) (fun _ _ _ h => h) (Or.inr ⟨by rfl, rfl⟩) ?_ ?_
      rotate_left
      · simp only [Act.put, nS, i64_w, i32_w]; rfl
      refine pure_ (i := 18) (N := some 22) (v := undef) (a' := ?_) #[Y_, Y_, Y_, Y_, Y_, Y_, Y_, Y_, Y_, Y_, Y_, Y_, Y_, Y_, Y_, Y_, Y_, Y_, Y_, Z_, Z_, Z_, Z_, Z_, Z_, Z_, Z_, Z_, Z_, Z_, Z_, Z_, Z_, Z_, Z_] rfl rfl (any_of HT_.out (by kernel_rfl)) (fun _ _ _ h => h) (Or.inr ⟨by rfl, rfl⟩) ?_ ?_
      rotate_left
      · simp only [Act.put, nS, i64_w, i32_w]; rfl
      refine pure_ (i := 19) (N := some 23) (v := ?_) (a' := ?_) #[Y_, Y_, Y_, Y_, Y_, Y_, Y_, Y_, Y_, Y_, Y_, Y_, Y_, Y_, Y_, Y_, Y_, Y_, Y_, Y_, Z_, Z_, Z_, Z_, Z_, Z_, Z_, Z_, Z_, Z_, Z_, Z_, Z_, Z_, Z_] rfl rfl (any_of HT_.out (by kernel_rfl)) (fun _ _ _ h => h) (Or.inl ⟨by rfl, ?_⟩) ?_ ?_
      rotate_left
      · intro w'; go_simp; with_reducible rfl
      rotate_left
      · simp only [Act.put, nS, i64_w, i32_w]; rfl
      refine pure_ (i := 20) (N := some 24) (v := ?_) (a' := ?_) #[Y_, Y_, Y_, Y_, Y_, Y_, Y_, Y_, Y_, Y_, Y_, Y_, Y_, Y_, Y_, Y_, Y_, Y_, Y_, Y_, Y_, Z_, Z_, Z_, Z_, Z_, Z_, Z_, Z_, Z_, Z_, Z_, Z_, Z_, Z_] rfl rfl (any_of HT_.out (by kernel_rfl)) (fun _ _ _ h => h) (Or.inl ⟨by rfl, ?_⟩) ?_ ?_
      rotate_left
      · intro w'; go_simp; with_reducible rfl
      rotate_left
      · simp only [Act.put, nS, i64_w, i32_w]; rfl
      refine pure_ (i := 21) (N := some 25) (v := undef) (a' := ?_) #[Y_, Y_, Y_, Y_, Y_, Y_, Y_, Y_, Y_, Y_, Y_, Y_, Y_, Y_, Y_, Y_, Y_, Y_, Y_, Y_, Y_, Y_, Z_, Z_, Z_, Z_, Z_, Z_, Z_, Z_, Z_, Z_, Z_, Z_, Z_] rfl rfl (any_of HT_.out (by kernel_rfl)) (fun _ _ _ h => h) (Or.inr ⟨by rfl, rfl⟩) ?_ ?_
      rotate_left
      · simp only [Act.put, nS, i64_w, i32_w]; rfl
      refine pure_ (i := 22) (N := some 26) (v := undef) (a' := ?_) #[Y_, Y_, Y_, Y_, Y_, Y_, Y_, Y_, Y_, Y_, Y_, Y_, Y_, Y_, Y_, Y_, Y_, Y_, Y_, Y_, Y_, Y_, Y_, Z_, Z_, Z_, Z_, Z_, Z_, Z_, Z_, Z_, Z_, Z_, Z_] rfl rfl (any_of HT_.out (by kernel_rfl)) (fun _ _ _ h => h) (Or.inr ⟨by rfl, rfl⟩) ?_ ?_
      rotate_left
      · simp only [Act.put, nS, i64_w, i32_w]; rfl
      refine pure_ (i := 23) (N := some 27) (v := undef) (a' := ?_) #[Y_, Y_, Y_, Y_, Y_, Y_, Y_, Y_, Y_, Y_, Y_, Y_, Y_, Y_, Y_, Y_, Y_, Y_, Y_, Y_, Y_, Y_, Y_, Y_, Z_, Z_, Z_, Z_, Z_, Z_, Z_, Z_, Z_, Z_, Z_] rfl rfl (any_of HT_.out (by kernel_rfl)) (fun _ _ _ h => h) (Or.inr ⟨by rfl, rfl⟩) ?_ ?_
      rotate_left
      · simp only [Act.put, nS, i64_w, i32_w]; rfl
      refine pure_ (i := 24) (N := some 28) (v := undef) (a' := ?_) #[Y_, Y_, Y_, Y_, Y_, Y_, Y_, Y_, Y_, Y_, Y_, Y_, Y_, Y_, Y_, Y_, Y_, Y_, Y_, Y_, Y_, Y_, Y_, Y_, Y_, Z_, Z_, Z_, Z_, Z_, Z_, Z_, Z_, Z_, Z_] rfl rfl (any_of HT_.out (by kernel_rfl)) (fun _ _ _ h => h) (Or.inr ⟨by rfl, rfl⟩) ?_ ?_
      rotate_left
      · simp only [Act.put, nS, i64_w, i32_w]; rfl
      refine pure_ (i := 25) (N := some 29) (v := ?_) (a' := ?_) #[Y_, Y_, Y_, Y_, Y_, Y_, Y_, Y_, Y_, Y_, Y_, Y_, Y_, Y_, Y_, Y_, Y_, Y_, Y_, Y_, Y_, Y_, Y_, Y_, Y_, Y_, Z_, Z_, Z_, Z_, Z_, Z_, Z_, Z_, Z_] rfl rfl (any_of HT_.out (by kernel_rfl)) (fun _ _ _ h => h) (Or.inl ⟨by rfl, ?_⟩) ?_ ?_
      rotate_left
      · intro w'; go_simp; with_reducible rfl
      rotate_left
      · simp only [Act.put, nS, i64_w, i32_w]; rfl
      refine pure_ (i := 26) (N := some 30) (v := ?_) (a' := ?_) #[Y_, Y_, Y_, Y_, Y_, Y_, Y_, Y_, Y_, Y_, Y_, Y_, Y_, Y_, Y_, Y_, Y_, Y_, Y_, Y_, Y_, Y_, Y_, Y_, Y_, Y_, Y_, Z_, Z_, Z_, Z_, Z_, Z_, Z_, Z_] rfl rfl (any_of HT_.out (by kernel_rfl)) (fun _ _ _ h => h) (Or.inl ⟨by rfl, ?_⟩) ?_ ?_
      rotate_left
      · intro w'; go_simp; with_reducible rfl
      rotate_left
      · simp only [Act.put, nS, i64_w, i32_w]; rfl
      refine pure_ (i := 27) (N := some 31) (v := undef) (a' := ?_) #[Y_, Y_, Y_, Y_, Y_, Y_, Y_, Y_, Y_, Y_, Y_, Y_, Y_, Y_, Y_, Y_, Y_, Y_, Y_, Y_, Y_, Y_, Y_, Y_, Y_, Y_, Y_, Y_, Z_, Z_, Z_, Z_, Z_, Z_, Z_] rfl rfl (any_of HT_.out (by kernel_rfl)) (fun _ _ _ h => h) (Or.inr ⟨by rfl, rfl⟩) ?_ ?_
      rotate_left
      · simp only [Act.put, nS, i64_w, i32_w]; rfl
      refine pure_ (i := 28) (N := some 32) (v := undef) (a' := ?_) #[Y_, Y_, Y_, Y_, Y_, Y_, Y_, Y_, Y_, Y_, Y_, Y_, Y_, Y_, Y_, Y_, Y_, Y_, Y_, Y_, Y_, Y_, Y_, Y_, Y_, Y_, Y_, Y_, Y_, Z_, Z_, Z_, Z_, Z_, Z_] rfl rfl (any_of HT_.out (by kernel_rfl)) (fun _ _ _ h => h) (Or.inr ⟨by rfl, rfl⟩) ?_ ?_
      rotate_left
      · simp only [Act.put, nS, i64_w, i32_w]; rfl
      refine pure_ (i := 29) (N := some 33) (v := undef) (a' := ?_) #[Y_, Y_, Y_, Y_, Y_, Y_, Y_, Y_, Y_, Y_, Y_, Y_, Y_, Y_, Y_, Y_, Y_, Y_, Y_, Y_, Y_, Y_, Y_, Y_, Y_, Y_, Y_, Y_, Y_, Y_, Z_, Z_, Z_, Z_, Z_] rfl rfl (any_of HT_.out (by kernel_rfl)) (fun _ _ _ h => h) (Or.inr ⟨by rfl, rfl⟩) ?_ ?_
      rotate_left
      · simp only [Act.put, nS, i64_w, i32_w]; rfl
      refine pure_ (i := 30) (N := some 34) (v := undef) (a' := ?_) #[Y_, Y_, Y_, Y_, Y_, Y_, Y_, Y_, Y_, Y_, Y_, Y_, Y_, Y_, Y_, Y_, Y_, Y_, Y_, Y_, Y_, Y_, Y_, Y_, Y_, Y_, Y_, Y_, Y_, Y_, Y_, Z_, Z_, Z_, Z_] rfl rfl (any_of HT_.out (by kernel_rfl)) (fun _ _ _ h => h) (Or.inr ⟨by rfl, rfl⟩) ?_ ?_
      rotate_left
      · simp only [Act.put, nS, i64_w, i32_w]; rfl
      refine pure_ (i := 31) (N := some 35) (v := undef) (a' := ?_) #[Y_, Y_, Y_, Y_, Y_, Y_, Y_, Y_, Y_, Y_, Y_, Y_, Y_, Y_, Y_, Y_, Y_, Y_, Y_, Y_, Y_, Y_, Y_, Y_, Y_, Y_, Y_, Y_, Y_, Y_, Y_, Y_, Z_, Z_, Z_] rfl rfl (any_of HT_.out (by kernel_rfl)) (fun _ _ _ h => h) (Or.inr ⟨by rfl, rfl⟩) ?_ ?_
      rotate_left
      · simp only [Act.put, nS, i64_w, i32_w]; rfl
      refine pure_ (i := 32) (N := some 36) (v := undef) (a' := ?_) #[Y_, Y_, Y_, Y_, Y_, Y_, Y_, Y_, Y_, Y_, Y_, Y_, Y_, Y_, Y_, Y_, Y_, Y_, Y_, Y_, Y_, Y_, Y_, Y_, Y_, Y_, Y_, Y_, Y_, Y_, Y_, Y_, Y_, Z_, Z_] rfl rfl (any_of HT_.out (by kernel_rfl)) (fun _ _ _ h => h) (Or.inr ⟨by rfl, rfl⟩) ?_ ?_
      rotate_left
      · simp only [Act.put, nS, i64_w, i32_w]; rfl
      refine pure_ (i := 33) (N := some 37) (v := ?_) (a' := ?_) #[Y_, Y_, Y_, Y_, Y_, Y_, Y_, Y_, Y_, Y_, Y_, Y_, Y_, Y_, Y_, Y_, Y_, Y_, Y_, Y_, Y_, Y_, Y_, Y_, Y_, Y_, Y_, Y_, Y_, Y_, Y_, Y_, Y_, Y_, Z_] rfl rfl (any_of HT_.out (by kernel_rfl)) (fun _ _ _ h => h) (Or.inl ⟨by rfl, ?_⟩) ?_ ?_
      rotate_left
      · intro w'; go_simp; with_reducible rfl
      rotate_left
      · simp only [Act.put, nS, i64_w, i32_w]; rfl
      refine pure_ (i := 34) (N := some 3) (v := ?_) (a' := ?_) #[Y_, Y_, Y_, Y_, Y_, Y_, Y_, Y_, Y_, Y_, Y_, Y_, Y_, Y_, Y_, Y_, Y_, Y_, Y_, Y_, Y_, Y_, Y_, Y_, Y_, Y_, Y_, Y_, Y_, Y_, Y_, Y_, Y_, Y_, Y_] rfl rfl (any_of HT_.out (by kernel_rfl)) (fun _ _ _ h => h) (Or.inl ⟨by rfl, ?_⟩) ?_ ?_
      rotate_left
      · intro w'; go_simp; with_reducible rfl
      rotate_left
      · simp only [Act.put, nS, i64_w, i32_w]; rfl
      refine done_ (done_of HT_.out (by kernel_rfl)) ?_
      go_wp2
      go_ret
      exact ⟨rfl, HD.out.1⟩
    · have d0 : decide (a0_0 < 1) = false := decide_eq_false e0
      by_cases e1 : a0_0 ≥ 8
      · have d1 : decide (a0_0 ≥ 8) = true := decide_eq_true e1
        rw [checkI, if_pos (by omega)]
        go_wp2
        refine start_ (n := 35) (S := fun w' => w'.cell? ⟨w.heap.size, 0, none⟩ = some (.int .i64 a0_0) ∧ w'.cell? ⟨w.heap.size, 4, none⟩ = some (.int .i64 a0_4) ∧ w'.cell? ⟨w.heap.size, 14, none⟩ = some (.int .i64 a0_14)) (ds := []) #[Z_, Z_, Z_, Z_, Z_, Z_, Z_, Z_, Z_, Z_, Z_, Z_, Z_, Z_, Z_, Z_, Z_, Z_, Z_, Z_, Z_, Z_, Z_, Z_, Z_, Z_, Z_, Z_, Z_, Z_, Z_, Z_, Z_, Z_, Z_] (by kernel_rfl) rfl rfl (chk_cells HD.out) (fun hHeld => ?_)
        refine with_tabW item_check_h.tab1 item_check_h.bits1 (fun HT_ HW_ => ?_)
        refine pure_ (i := 0) (N := some 4) (v := ?_) (a' := ?_) #[Y_, Z_, Z_, Z_, Z_, Z_, Z_, Z_, Z_, Z_, Z_, Z_, Z_, Z_, Z_, Z_, Z_, Z_, Z_, Z_, Z_, Z_, Z_, Z_, Z_, Z_, Z_, Z_, Z_, Z_, Z_, Z_, Z_, Z_, Z_] rfl rfl (any_of HT_.out (by kernel_rfl)) (fun _ _ _ h => h) (Or.inl ⟨by rfl, ?_⟩) ?_ ?_
        rotate_left
        · intro w'; go_simp; with_reducible rfl
        rotate_left
        · simp only [Act.put, nS, i64_w, i32_w]; rfl
        refine take_ (i := 1) (N := some 5) (v := ?_) (a' := ?_) #[Y_, Y_, Z_, Z_, Z_, Z_, Z_, Z_, Z_, Z_, Z_, Z_, Z_, Z_, Z_, Z_, Z_, Z_, Z_, Z_, Z_, Z_, Z_, Z_, Z_, Z_, Z_, Z_, Z_, Z_, Z_, Z_, Z_, Z_, Z_] rfl rfl (take_ofW HT_.out HW_.out (by kernel_rfl)) (fun _ _ _ h => h) (Or.inl ⟨by rfl, ?_⟩) hHeld ?_ ?_
        rotate_left
        · rintro w' ⟨hc0, hc4, hc14⟩
          go_simp
          with_reducible rfl
        rotate_left
        · simp only [Act.put, nS, i64_w, i32_w]; rfl
        refine pure_ (i := 2) (N := some 6) (v := ?_) (a' := ?_) #[Y_, Y_, Y_, Z_, Z_, Z_, Z_, Z_, Z_, Z_, Z_, Z_, Z_, Z_, Z_, Z_, Z_, Z_, Z_, Z_, Z_, Z_, Z_, Z_, Z_, Z_, Z_, Z_, Z_, Z_, Z_, Z_, Z_, Z_, Z_] rfl rfl (any_of HT_.out (by kernel_rfl)) (fun _ _ _ h => h) (Or.inl ⟨by rfl, ?_⟩) ?_ ?_
        rotate_left
        · intro w'; go_simp; with_reducible rfl
        rotate_left
        · simp only [Act.put, nS, i64_w, i32_w]; rfl
        refine pure_ (i := 3) (N := some 7) (v := ?_) (a' := ?_) #[Y_, Y_, Y_, Y_, Z_, Z_, Z_, Z_, Z_, Z_, Z_, Z_, Z_, Z_, Z_, Z_, Z_, Z_, Z_, Z_, Z_, Z_, Z_, Z_, Z_, Z_, Z_, Z_, Z_, Z_, Z_, Z_, Z_, Z_, Z_] rfl rfl (any_of HT_.out (by kernel_rfl)) (fun _ _ _ h => h) (Or.inl ⟨by rfl, ?_⟩) ?_ ?_
        rotate_left
        · intro w'; go_simp; with_reducible rfl
        rotate_left
        · simp only [Act.put, nS, i64_w, i32_w]; rfl
        refine pure_ (i := 4) (N := some 8) (v := ?_) (a' := ?_) #[Y_, Y_, Y_, Y_, Y_, Z_, Z_, Z_, Z_, Z_, Z_, Z_, Z_, Z_, Z_, Z_, Z_, Z_, Z_, Z_, Z_, Z_, Z_, Z_, Z_, Z_, Z_, Z_, Z_, Z_, Z_, Z_, Z_, Z_, Z_] rfl rfl (any_of HT_.out (by kernel_rfl)) (fun _ _ _ h => h) (Or.inl ⟨by rfl, ?_⟩) ?_ ?_
        rotate_left
        · intro w'; go_simp; with_reducible rfl
        rotate_left
        · simp only [Act.put, nS, i64_w, i32_w]; rfl
        refine take_ (i := 5) (N := some 9) (v := ?_) (a' := ?_) #[Y_, Y_, Y_, Y_, Y_, Y_, Z_, Z_, Z_, Z_, Z_, Z_, Z_, Z_, Z_, Z_, Z_, Z_, Z_, Z_, Z_, Z_, Z_, Z_, Z_, Z_, Z_, Z_, Z_, Z_, Z_, Z_, Z_, Z_, Z_] rfl rfl (take_ofW HT_.out HW_.out (by kernel_rfl)) (fun _ _ _ h => h) (Or.inl ⟨by rfl, ?_⟩) hHeld ?_ ?_
        rotate_left
        · rintro w' ⟨hc0, hc4, hc14⟩
          go_simp
          with_reducible rfl
        rotate_left
        · simp only [Act.put, nS, i64_w, i32_w]; rfl
        refine one_ (i := 6) (N := some 10) #[Y_, Y_, Y_, Y_, Y_, Y_, Y_, Z_, Z_, Z_, Z_, Z_, Z_, Z_, Z_, Z_, Z_, Z_, Z_, Z_, Z_, Z_, Z_, Z_, Z_, Z_, Z_, Z_, Z_, Z_, Z_, Z_, Z_, Z_, Z_] rfl rfl (one_of HT_.out (by kernel_rfl)) (by decide) (fun K hK => ?_)
        refine goes_ Tryd.func12 (by kernel_rfl) rfl #[] (by rfl) rfl rfl (by (try simp only [List.map_toArray, List.map_cons, List.map_nil]); first | done | rfl) ?_
        refine (kinds_call _).mono ?_
        rintro e w1 ⟨rfl, hb⟩
        refine ⟨_, rfl, ?_⟩
        have HB1 := Aside0.mk (B1.step HD.out hb)
        clear HD
        have HD := HB1
        clear HB1
        clear hb
        refine hK.out _ _ (chk_cells HD.out) (fun hHeld => ?_)
        clear hK K
        refine norm_ (a' := ?_) ?_ ?_
        rotate_left
        · show Act.put _ (some 10) _ = _
          simp only [Act.put, nS, i64_w, i32_w]
          rfl
        refine pure_ (i := 7) (N := some 11) (v := ?_) (a' := ?_) #[Y_, Y_, Y_, Y_, Y_, Y_, Y_, Y_, Z_, Z_, Z_, Z_, Z_, Z_, Z_, Z_, Z_, Z_, Z_, Z_, Z_, Z_, Z_, Z_, Z_, Z_, Z_, Z_, Z_, Z_, Z_, Z_, Z_, Z_, Z_] rfl rfl (any_of HT_.out (by kernel_rfl)) (fun _ _ _ h => h) (Or.inl ⟨by rfl, ?_⟩) ?_ ?_
        rotate_left
        · intro w'; go_simp; with_reducible rfl
        rotate_left
        · simp only [Act.put, nS, i64_w, i32_w]; rfl
        refine pure_ (i := 8) (N := some 12) (v := ?_) (a' := ?_) #[Y_, Y_, Y_, Y_, Y_, Y_, Y_, Y_, Y_, Z_, Z_, Z_, Z_, Z_, Z_, Z_, Z_, Z_, Z_, Z_, Z_, Z_, Z_, Z_, Z_, Z_, Z_, Z_, Z_, Z_, Z_, Z_, Z_, Z_, Z_] rfl rfl (any_of HT_.out (by kernel_rfl)) (fun _ _ _ h => h) (Or.inl ⟨by rfl, ?_⟩) ?_ ?_
        rotate_left
        · intro w'; go_simp; with_reducible rfl
        rotate_left
        · simp only [Act.put, nS, i64_w, i32_w]; rfl
        refine pure_ (i := 9) (N := some 13) (v := ?_) (a' := ?_) #[Y_, Y_, Y_, Y_, Y_, Y_, Y_, Y_, Y_, Y_, Z_, Z_, Z_, Z_, Z_, Z_, Z_, Z_, Z_, Z_, Z_, Z_, Z_, Z_, Z_, Z_, Z_, Z_, Z_, Z_, Z_, Z_, Z_, Z_, Z_] rfl rfl (any_of HT_.out (by kernel_rfl)) (fun _ _ _ h => h) (Or.inl ⟨by rfl, ?_⟩) ?_ ?_
        rotate_left
        · intro w'; go_simp; with_reducible rfl
        rotate_left
        · simp only [Act.put, nS, i64_w, i32_w]; rfl
        refine pure_ (i := 10) (N := some 14) (v := ?_) (a' := ?_) #[Y_, Y_, Y_, Y_, Y_, Y_, Y_, Y_, Y_, Y_, Y_, Z_, Z_, Z_, Z_, Z_, Z_, Z_, Z_, Z_, Z_, Z_, Z_, Z_, Z_, Z_, Z_, Z_, Z_, Z_, Z_, Z_, Z_, Z_, Z_] rfl rfl (any_of HT_.out (by kernel_rfl)) (fun _ _ _ h => h) (Or.inl ⟨by rfl, ?_⟩) ?_ ?_
        rotate_left
        · intro w'; go_simp; with_reducible rfl
        rotate_left
        · simp only [Act.put, nS, i64_w, i32_w]; rfl
        refine pure_ (i := 11) (N := some 15) (v := undef) (a' := ?_) #[Y_, Y_, Y_, Y_, Y_, Y_, Y_, Y_, Y_, Y_, Y_, Y_, Z_, Z_, Z_, Z_, Z_, Z_, Z_, Z_, Z_, Z_, Z_, Z_, Z_, Z_, Z_, Z_, Z_, Z_, Z_, Z_, Z_, Z_, Z_] rfl rfl (any_of HT_.out (by kernel_rfl)) (fun _ _ _ h => h) (Or.inr ⟨by rfl, rfl⟩) ?_ ?_
        rotate_left
        · simp only [Act.put, nS, i64_w, i32_w]; rfl
        refine pure_ (i := 12) (N := some 16) (v := undef) (a' := ?_) #[Y_, Y_, Y_, Y_, Y_, Y_, Y_, Y_, Y_, Y_, Y_, Y_, Y_, Z_, Z_, Z_, Z_, Z_, Z_, Z_, Z_, Z_, Z_, Z_, Z_, Z_, Z_, Z_, Z_, Z_, Z_, Z_, Z_, Z_, Z_] rfl rfl (any_of HT_.out (by kernel_rfl)) (fun _ _ _ h => h) (Or.inr ⟨by rfl, rfl⟩) ?_ ?_
        rotate_left
        · simp only [Act.put, nS, i64_w, i32_w]; rfl
        refine pure_ (i := 13) (N := some 17) (v := undef) (a' := ?_) #[Y_, Y_, Y_, Y_, Y_, Y_, Y_, Y_, Y_, Y_, Y_, Y_, Y_, Y_, Z_, Z_, Z_, Z_, Z_, Z_, Z_, Z_, Z_, Z_, Z_, Z_, Z_, Z_, Z_, Z_, Z_, Z_, Z_, Z_, Z_] rfl rfl (any_of HT_.out (by kernel_rfl)) (fun _ _ _ h => h) (Or.inr ⟨by rfl, rfl⟩) ?_ ?_
        rotate_left
        · simp only [Act.put, nS, i64_w, i32_w]; rfl
        refine pure_ (i := 14) (N := some 18) (v := ?_) (a' := ?_) #[Y_, Y_, Y_, Y_, Y_, Y_, Y_, Y_, Y_, Y_, Y_, Y_, Y_, Y_, Y_, Z_, Z_, Z_, Z_, Z_, Z_, Z_, Z_, Z_, Z_, Z_, Z_, Z_, Z_, Z_, Z_, Z_, Z_, Z_, Z_] rfl rfl (any_of HT_.out (by kernel_rfl)) (fun _ _ _ h => h) (Or.inl ⟨by rfl, ?_⟩) ?_ ?_
        rotate_left
        · intro w'; go_simp; with_reducible rfl
        rotate_left
        · simp only [Act.put, nS, i64_w, i32_w]; rfl
        refine pure_ (i := 15) (N := some 19) (v := ?_) (a' := ?_) #[Y_, Y_, Y_, Y_, Y_, Y_, Y_, Y_, Y_, Y_, Y_, Y_, Y_, Y_, Y_, Y_, Z_, Z_, Z_, Z_, Z_, Z_, Z_, Z_, Z_, Z_, Z_, Z_, Z_, Z_, Z_, Z_, Z_, Z_, Z_] rfl rfl (any_of HT_.out (by kernel_rfl)) (fun _ _ _ h => h) (Or.inl ⟨by rfl, ?_⟩) ?_ ?_
        rotate_left
        · intro w'; go_simp; with_reducible rfl
        rotate_left
        · simp only [Act.put, nS, i64_w, i32_w]; rfl
        refine pure_ (i := 16) (N := some 20) (v := undef) (a' := ?_) #[Y_, Y_, Y_, Y_, Y_, Y_, Y_, Y_, Y_, Y_, Y_, Y_, Y_, Y_, Y_, Y_, Y_, Z_, Z_, Z_, Z_, Z_, Z_, Z_, Z_, Z_, Z_, Z_, Z_, Z_, Z_, Z_, Z_, Z_, Z_] rfl rfl (any_of HT_.out (by kernel_rfl)) (fun _ _ _ h => h) (Or.inr ⟨by rfl, rfl⟩) ?_ ?_
        rotate_left
        · simp only [Act.put, nS, i64_w, i32_w]; rfl
        refine pure_ (i := 17) (N := some 21) (v := undef) (a' := ?_) #[Y_, Y_, Y_, Y_, Y_, Y_, Y_, Y_, Y_, Y_, Y_, Y_, Y_, Y_, Y_, Y_, Y_, Y_, Z_, Z_, Z_, Z_, Z_, Z_, Z_, Z_, Z_, Z_, Z_, Z_, Z_, Z_, Z_, Z_, Z_] rfl rfl (any_of HT_.out (by kernel_rfl)) (fun _ _ _ h => h) (Or.inr ⟨by rfl, rfl⟩) ?_ ?_
        rotate_left
        · simp only [Act.put, nS, i64_w, i32_w]; rfl
        refine pure_ (i := 18) (N := some 22) (v := undef) (a' := ?_) #[Y_, Y_, Y_, Y_, Y_, Y_, Y_, Y_, Y_, Y_, Y_, Y_, Y_, Y_, Y_, Y_, Y_, Y_, Y_, Z_, Z_, Z_, Z_, Z_, Z_, Z_, Z_, Z_, Z_, Z_, Z_, Z_, Z_, Z_, Z_] rfl rfl (any_of HT_.out (by kernel_rfl)) (fun _ _ _ h => h) (Or.inr ⟨by rfl, rfl⟩) ?_ ?_
        rotate_left
        · simp only [Act.put, nS, i64_w, i32_w]; rfl
        refine pure_ (i := 19) (N := some 23) (v := ?_) (a' := ?_) #[Y_, Y_, Y_, Y_, Y_, Y_, Y_, Y_, Y_, Y_, Y_, Y_, Y_, Y_, Y_, Y_, Y_, Y_, Y_, Y_, Z_, Z_, Z_, Z_, Z_, Z_, Z_, Z_, Z_, Z_, Z_, Z_, Z_, Z_, Z_] rfl rfl (any_of HT_.out (by kernel_rfl)) (fun _ _ _ h => h) (Or.inl ⟨by rfl, ?_⟩) ?_ ?_
        rotate_left
        · intro w'; go_simp; with_reducible rfl
        rotate_left
        · simp only [Act.put, nS, i64_w, i32_w]; rfl
        refine pure_ (i := 20) (N := some 24) (v := ?_) (a' := ?_) #[Y_, Y_, Y_, Y_, Y_, Y_, Y_, Y_, Y_, Y_, Y_, Y_, Y_, Y_, Y_, Y_, Y_, Y_, Y_, Y_, Y_, Z_, Z_, Z_, Z_, Z_, Z_, Z_, Z_, Z_, Z_, Z_, Z_, Z_, Z_] rfl rfl (any_of HT_.out (by kernel_rfl)) (fun _ _ _ h => h) (Or.inl ⟨by rfl, ?_⟩) ?_ ?_
        rotate_left
        · intro w'; go_simp; with_reducible rfl
        rotate_left
        · simp only [Act.put, nS, i64_w, i32_w]; rfl
        refine pure_ (i := 21) (N := some 25) (v := undef) (a' := ?_) #[Y_, Y_, Y_, Y_, Y_, Y_, Y_, Y_, Y_, Y_, Y_, Y_, Y_, Y_, Y_, Y_, Y_, Y_, Y_, Y_, Y_, Y_, Z_, Z_, Z_, Z_, Z_, Z_, Z_, Z_, Z_, Z_, Z_, Z_, Z_] rfl rfl (any_of HT_.out (by kernel_rfl)) (fun _ _ _ h => h) (Or.inr ⟨by rfl, rfl⟩) ?_ ?_
        rotate_left
        · simp only [Act.put, nS, i64_w, i32_w]; rfl
        refine pure_ (i := 22) (N := some 26) (v := undef) (a' := ?_) #[Y_, Y_, Y_, Y_, Y_, Y_, Y_, Y_, Y_, Y_, Y_, Y_, Y_, Y_, Y_, Y_, Y_, Y_, Y_, Y_, Y_, Y_, Y_, Z_, Z_, Z_, Z_, Z_, Z_, Z_, Z_, Z_, Z_, Z_, Z_] rfl rfl (any_of HT_.out (by kernel_rfl)) (fun _ _ _ h => h) (Or.inr ⟨by rfl, rfl⟩) ?_ ?_
        rotate_left
        · simp only [Act.put, nS, i64_w, i32_w]; rfl
        refine pure_ (i := 23) (N := some 27) (v := undef) (a' := ?_) #[Y_, Y_, Y_, Y_, Y_, Y_, Y_, Y_, Y_, Y_, Y_, Y_, Y_, Y_, Y_, Y_, Y_, Y_, Y_, Y_, Y_, Y_, Y_, Y_, Z_, Z_, Z_, Z_, Z_, Z_, Z_, Z_, Z_, Z_, Z_] rfl rfl (any_of HT_.out (by kernel_rfl)) (fun _ _ _ h => h) (Or.inr ⟨by rfl, rfl⟩) ?_ ?_
        rotate_left
        · simp only [Act.put, nS, i64_w, i32_w]; rfl
        refine pure_ (i := 24) (N := some 28) (v := undef) (a' := ?_) #[Y_, Y_, Y_, Y_, Y_, Y_, Y_, Y_, Y_, Y_, Y_, Y_, Y_, Y_, Y_, Y_, Y_, Y_, Y_, Y_, Y_, Y_, Y_, Y_, Y_, Z_, Z_, Z_, Z_, Z_, Z_, Z_, Z_, Z_, Z_] rfl rfl (any_of HT_.out (by kernel_rfl)) (fun _ _ _ h => h) (Or.inr ⟨by rfl, rfl⟩) ?_ ?_
        rotate_left
        · simp only [Act.put, nS, i64_w, i32_w]; rfl
        refine pure_ (i := 25) (N := some 29) (v := ?_) (a' := ?_) #[Y_, Y_, Y_, Y_, Y_, Y_, Y_, Y_, Y_, Y_, Y_, Y_, Y_, Y_, Y_, Y_, Y_, Y_, Y_, Y_, Y_, Y_, Y_, Y_, Y_, Y_, Z_, Z_, Z_, Z_, Z_, Z_, Z_, Z_, Z_] rfl rfl (any_of HT_.out (by kernel_rfl)) (fun _ _ _ h => h) (Or.inl ⟨by rfl, ?_⟩) ?_ ?_
        rotate_left
        · intro w'; go_simp; with_reducible rfl
        rotate_left
        · simp only [Act.put, nS, i64_w, i32_w]; rfl
        refine pure_ (i := 26) (N := some 30) (v := ?_) (a' := ?_) #[Y_, Y_, Y_, Y_, Y_, Y_, Y_, Y_, Y_, Y_, Y_, Y_, Y_, Y_, Y_, Y_, Y_, Y_, Y_, Y_, Y_, Y_, Y_, Y_, Y_, Y_, Y_, Z_, Z_, Z_, Z_, Z_, Z_, Z_, Z_] rfl rfl (any_of HT_.out (by kernel_rfl)) (fun _ _ _ h => h) (Or.inl ⟨by rfl, ?_⟩) ?_ ?_
        rotate_left
        · intro w'; go_simp; with_reducible rfl
        rotate_left
        · simp only [Act.put, nS, i64_w, i32_w]; rfl
        refine pure_ (i := 27) (N := some 31) (v := undef) (a' := ?_) #[Y_, Y_, Y_, Y_, Y_, Y_, Y_, Y_, Y_, Y_, Y_, Y_, Y_, Y_, Y_, Y_, Y_, Y_, Y_, Y_, Y_, Y_, Y_, Y_, Y_, Y_, Y_, Y_, Z_, Z_, Z_, Z_, Z_, Z_, Z_] rfl rfl (any_of HT_.out (by kernel_rfl)) (fun _ _ _ h => h) (Or.inr ⟨by rfl, rfl⟩) ?_ ?_
        rotate_left
        · simp only [Act.put, nS, i64_w, i32_w]; rfl
        refine pure_ (i := 28) (N := some 32) (v := undef) (a' := ?_) #[Y_, Y_, Y_, Y_, Y_, Y_, Y_, Y_, Y_, Y_, Y_, Y_, Y_, Y_, Y_, Y_, Y_, Y_, Y_, Y_, Y_, Y_, Y_, Y_, Y_, Y_, Y_, Y_, Y_, Z_, Z_, Z_, Z_, Z_, Z_] rfl rfl (any_of HT_.out (by kernel_rfl)) (fun _ _ _ h => h) (Or.inr ⟨by rfl, rfl⟩) ?_ ?_
        rotate_left
        · simp only [Act.put, nS, i64_w, i32_w]; rfl
        refine pure_ (i := 29) (N := some 33) (v := undef) (a' := ?_) #[Y_, Y_, Y_, Y_, Y_, Y_, Y_, Y_, Y_, Y_, Y_, Y_, Y_, Y_, Y_, Y_, Y_, Y_, Y_, Y_, Y_, Y_, Y_, Y_, Y_, Y_, Y_, Y_, Y_, Y_, Z_, Z_, Z_, Z_, Z_] rfl rfl (any_of HT_.out (by kernel_rfl)) (fun _ _ _ h => h) (Or.inr ⟨by rfl, rfl⟩) ?_ ?_
        rotate_left
        · simp only [Act.put, nS, i64_w, i32_w]; rfl
        refine pure_ (i := 30) (N := some 34) (v := undef) (a' := ?_) #[Y_, Y_, Y_, Y_, Y_, Y_, Y_, Y_, Y_, Y_, Y_, Y_, Y_, Y_, Y_, Y_, Y_, Y_, Y_, Y_, Y_, Y_, Y_, Y_, Y_, Y_, Y_, Y_, Y_, Y_, Y_, Z_, Z_, Z_, Z_] rfl rfl (any_of HT_.out (by kernel_rfl)) (fun _ _ _ h => h) (Or.inr ⟨by rfl, rfl⟩) ?_ ?_
        rotate_left
        · simp only [Act.put, nS, i64_w, i32_w]; rfl
        refine pure_ (i := 31) (N := some 35) (v := undef) (a' := ?_) #[Y_, Y_, Y_, Y_, Y_, Y_, Y_, Y_, Y_, Y_, Y_, Y_, Y_, Y_, Y_, Y_, Y_, Y_, Y_, Y_, Y_, Y_, Y_, Y_, Y_, Y_, Y_, Y_, Y_, Y_, Y_, Y_, Z_, Z_, Z_] rfl rfl (any_of HT_.out (by kernel_rfl)) (fun _ _ _ h => h) (Or.inr ⟨by rfl, rfl⟩) ?_ ?_
        rotate_left
        · simp only [Act.put, nS, i64_w, i32_w]; rfl
        refine pure_ (i := 32) (N := some 36) (v := undef) (a' := ?_) #[Y_, Y_, Y_, Y_, Y_, Y_, Y_, Y_, Y_, Y_, Y_, Y_, Y_, Y_, Y_, Y_, Y_, Y_, Y_, Y_, Y_, Y_, Y_, Y_, Y_, Y_, Y_, Y_, Y_, Y_, Y_, Y_, Y_, Z_, Z_] rfl rfl (any_of HT_.out (by kernel_rfl)) (fun _ _ _ h => h) (Or.inr ⟨by rfl, rfl⟩) ?_ ?_
        rotate_left
        · simp only [Act.put, nS, i64_w, i32_w]; rfl
        refine pure_ (i := 33) (N := some 37) (v := ?_) (a' := ?_) #[Y_, Y_, Y_, Y_, Y_, Y_, Y_, Y_, Y_, Y_, Y_, Y_, Y_, Y_, Y_, Y_, Y_, Y_, Y_, Y_, Y_, Y_, Y_, Y_, Y_, Y_, Y_, Y_, Y_, Y_, Y_, Y_, Y_, Y_, Z_] rfl rfl (any_of HT_.out (by kernel_rfl)) (fun _ _ _ h => h) (Or.inl ⟨by rfl, ?_⟩) ?_ ?_
        rotate_left
        · intro w'; go_simp; with_reducible rfl
        rotate_left
        · simp only [Act.put, nS, i64_w, i32_w]; rfl
        refine pure_ (i := 34) (N := some 3) (v := ?_) (a' := ?_) #[Y_, Y_, Y_, Y_, Y_, Y_, Y_, Y_, Y_, Y_, Y_, Y_, Y_, Y_, Y_, Y_, Y_, Y_, Y_, Y_, Y_, Y_, Y_, Y_, Y_, Y_, Y_, Y_, Y_, Y_, Y_, Y_, Y_, Y_, Y_] rfl rfl (any_of HT_.out (by kernel_rfl)) (fun _ _ _ h => h) (Or.inl ⟨by rfl, ?_⟩) ?_ ?_
        rotate_left
        · intro w'; go_simp; with_reducible rfl
        rotate_left
        · simp only [Act.put, nS, i64_w, i32_w]; rfl
        refine done_ (done_of HT_.out (by kernel_rfl)) ?_
        go_wp2
        go_ret
        exact ⟨rfl, HD.out.1⟩
      · have d1 : decide (a0_0 ≥ 8) = false := decide_eq_false e1
        by_cases e2 : a0_14 < 0
        · have d2 : decide (a0_14 < 0) = true := decide_eq_true e2
          rw [checkI, if_pos (by omega)]
          go_wp2
          refine start_ (n := 35) (S := fun w' => w'.cell? ⟨w.heap.size, 0, none⟩ = some (.int .i64 a0_0) ∧ w'.cell? ⟨w.heap.size, 4, none⟩ = some (.int .i64 a0_4) ∧ w'.cell? ⟨w.heap.size, 14, none⟩ = some (.int .i64 a0_14)) (ds := []) #[Z_, Z_, Z_, Z_, Z_, Z_, Z_, Z_, Z_, Z_, Z_, Z_, Z_, Z_, Z_, Z_, Z_, Z_, Z_, Z_, Z_, Z_, Z_, Z_, Z_, Z_, Z_, Z_, Z_, Z_, Z_, Z_, Z_, Z_, Z_] (by kernel_rfl) rfl rfl (chk_cells HD.out) (fun hHeld => ?_)
          refine with_tabW item_check_h.tab1 item_check_h.bits1 (fun HT_ HW_ => ?_)
          refine pure_ (i := 0) (N := some 4) (v := ?_) (a' := ?_) #[Y_, Z_, Z_, Z_, Z_, Z_, Z_, Z_, Z_, Z_, Z_, Z_, Z_, Z_, Z_, Z_, Z_, Z_, Z_, Z_, Z_, Z_, Z_, Z_, Z_, Z_, Z_, Z_, Z_, Z_, Z_, Z_, Z_, Z_, Z_] rfl rfl (any_of HT_.out (by kernel_rfl)) (fun _ _ _ h => h) (Or.inl ⟨by rfl, ?_⟩) ?_ ?_
          rotate_left
          · intro w'; go_simp; with_reducible rfl
          rotate_left
          · simp only [Act.put, nS, i64_w, i32_w]; rfl
          refine take_ (i := 1) (N := some 5) (v := ?_) (a' := ?_) #[Y_, Y_, Z_, Z_, Z_, Z_, Z_, Z_, Z_, Z_, Z_, Z_, Z_, Z_, Z_, Z_, Z_, Z_, Z_, Z_, Z_, Z_, Z_, Z_, Z_, Z_, Z_, Z_, Z_, Z_, Z_, Z_, Z_, Z_, Z_] rfl rfl (take_ofW HT_.out HW_.out (by kernel_rfl)) (fun _ _ _ h => h) (Or.inl ⟨by rfl, ?_⟩) hHeld ?_ ?_
          rotate_left
          · rintro w' ⟨hc0, hc4, hc14⟩
            go_simp
            with_reducible rfl
          rotate_left
          · simp only [Act.put, nS, i64_w, i32_w]; rfl
          refine pure_ (i := 2) (N := some 6) (v := ?_) (a' := ?_) #[Y_, Y_, Y_, Z_, Z_, Z_, Z_, Z_, Z_, Z_, Z_, Z_, Z_, Z_, Z_, Z_, Z_, Z_, Z_, Z_, Z_, Z_, Z_, Z_, Z_, Z_, Z_, Z_, Z_, Z_, Z_, Z_, Z_, Z_, Z_] rfl rfl (any_of HT_.out (by kernel_rfl)) (fun _ _ _ h => h) (Or.inl ⟨by rfl, ?_⟩) ?_ ?_
          rotate_left
          · intro w'; go_simp; with_reducible rfl
          rotate_left
          · simp only [Act.put, nS, i64_w, i32_w]; rfl
          refine pure_ (i := 3) (N := some 7) (v := ?_) (a' := ?_) #[Y_, Y_, Y_, Y_, Z_, Z_, Z_, Z_, Z_, Z_, Z_, Z_, Z_, Z_, Z_, Z_, Z_, Z_, Z_, Z_, Z_, Z_, Z_, Z_, Z_, Z_, Z_, Z_, Z_, Z_, Z_, Z_, Z_, Z_, Z_] rfl rfl (any_of HT_.out (by kernel_rfl)) (fun _ _ _ h => h) (Or.inl ⟨by rfl, ?_⟩) ?_ ?_
          rotate_left
          · intro w'; go_simp; with_reducible rfl
          rotate_left
          · simp only [Act.put, nS, i64_w, i32_w]; rfl
          refine pure_ (i := 4) (N := some 8) (v := ?_) (a' := ?_) #[Y_, Y_, Y_, Y_, Y_, Z_, Z_, Z_, Z_, Z_, Z_, Z_, Z_, Z_, Z_, Z_, Z_, Z_, Z_, Z_, Z_, Z_, Z_, Z_, Z_, Z_, Z_, Z_, Z_, Z_, Z_, Z_, Z_, Z_, Z_] rfl rfl (any_of HT_.out (by kernel_rfl)) (fun _ _ _ h => h) (Or.inl ⟨by rfl, ?_⟩) ?_ ?_
          rotate_left
          · intro w'; go_simp; with_reducible rfl
          rotate_left
          · simp only [Act.put, nS, i64_w, i32_w]; rfl
          refine take_ (i := 5) (N := some 9) (v := ?_) (a' := ?_) #[Y_, Y_, Y_, Y_, Y_, Y_, Z_, Z_, Z_, Z_, Z_, Z_, Z_, Z_, Z_, Z_, Z_, Z_, Z_, Z_, Z_, Z_, Z_, Z_, Z_, Z_, Z_, Z_, Z_, Z_, Z_, Z_, Z_, Z_, Z_] rfl rfl (take_ofW HT_.out HW_.out (by kernel_rfl)) (fun _ _ _ h => h) (Or.inl ⟨by rfl, ?_⟩) hHeld ?_ ?_
          rotate_left
          · rintro w' ⟨hc0, hc4, hc14⟩
            go_simp
            with_reducible rfl
          rotate_left
          · simp only [Act.put, nS, i64_w, i32_w]; rfl
          refine one_ (i := 6) (N := some 10) #[Y_, Y_, Y_, Y_, Y_, Y_, Y_, Z_, Z_, Z_, Z_, Z_, Z_, Z_, Z_, Z_, Z_, Z_, Z_, Z_, Z_, Z_, Z_, Z_, Z_, Z_, Z_, Z_, Z_, Z_, Z_, Z_, Z_, Z_, Z_] rfl rfl (one_of HT_.out (by kernel_rfl)) (by decide) (fun K hK => ?_)
          refine goes_ Tryd.func12 (by kernel_rfl) rfl #[] (by rfl) rfl rfl (by (try simp only [List.map_toArray, List.map_cons, List.map_nil]); first | done | rfl) ?_
          refine (kinds_call _).mono ?_
          rintro e w1 ⟨rfl, hb⟩
          refine ⟨_, rfl, ?_⟩
          have HB1 := Aside0.mk (B1.step HD.out hb)
          clear HD
          have HD := HB1
          clear HB1
          clear hb
          refine hK.out _ _ (chk_cells HD.out) (fun hHeld => ?_)
          clear hK K
          refine norm_ (a' := ?_) ?_ ?_
          rotate_left
          · show Act.put _ (some 10) _ = _
            simp only [Act.put, nS, i64_w, i32_w]
            rfl
          refine pure_ (i := 7) (N := some 11) (v := ?_) (a' := ?_) #[Y_, Y_, Y_, Y_, Y_, Y_, Y_, Y_, Z_, Z_, Z_, Z_, Z_, Z_, Z_, Z_, Z_, Z_, Z_, Z_, Z_, Z_, Z_, Z_, Z_, Z_, Z_, Z_, Z_, Z_, Z_, Z_, Z_, Z_, Z_] rfl rfl (any_of HT_.out (by kernel_rfl)) (fun _ _ _ h => h) (Or.inl ⟨by rfl, ?_⟩) ?_ ?_
          rotate_left
          · intro w'; go_simp; with_reducible rfl
          rotate_left
          · simp only [Act.put, nS, i64_w, i32_w]; rfl
          refine pure_ (i := 8) (N := some 12) (v := ?_) (a' := ?_) #[Y_, Y_, Y_, Y_, Y_, Y_, Y_, Y_, Y_, Z_, Z_, Z_, Z_, Z_, Z_, Z_, Z_, Z_, Z_, Z_, Z_, Z_, Z_, Z_, Z_, Z_, Z_, Z_, Z_, Z_, Z_, Z_, Z_, Z_, Z_] rfl rfl (any_of HT_.out (by kernel_rfl)) (fun _ _ _ h => h) (Or.inl ⟨by rfl, ?_⟩) ?_ ?_
          rotate_left
          · intro w'; go_simp; with_reducible rfl
          rotate_left
          · simp only [Act.put, nS, i64_w, i32_w]; rfl
          refine pure_ (i := 9) (N := some 13) (v := ?_) (a' := ?_) #[Y_, Y_, Y_, Y_, Y_, Y_, Y_, Y_, Y_, Y_, Z_, Z_, Z_, Z_, Z_, Z_, Z_, Z_, Z_, Z_, Z_, Z_, Z_, Z_, Z_, Z_, Z_, Z_, Z_, Z_, Z_, Z_, Z_, Z_, Z_] rfl rfl (any_of HT_.out (by kernel_rfl)) (fun _ _ _ h => h) (Or.inl ⟨by rfl, ?_⟩) ?_ ?_
          rotate_left
          · intro w'; go_simp; with_reducible rfl
          rotate_left
          · simp only [Act.put, nS, i64_w, i32_w]; rfl
          refine pure_ (i := 10) (N := some 14) (v := ?_) (a' := ?_) #[Y_, Y_, Y_, Y_, Y_, Y_, Y_, Y_, Y_, Y_, Y_, Z_, Z_, Z_, Z_, Z_, Z_, Z_, Z_, Z_, Z_, Z_, Z_, Z_, Z_, Z_, Z_, Z_, Z_, Z_, Z_, Z_, Z_, Z_, Z_] rfl rfl (any_of HT_.out (by kernel_rfl)) (fun _ _ _ h => h) (Or.inl ⟨by rfl, ?_⟩) ?_ ?_
          rotate_left
          · intro w'; go_simp; with_reducible rfl
          rotate_left
          · simp only [Act.put, nS, i64_w, i32_w]; rfl
          refine pure_ (i := 11) (N := some 15) (v := ?_) (a' := ?_) #[Y_, Y_, Y_, Y_, Y_, Y_, Y_, Y_, Y_, Y_, Y_, Y_, Z_, Z_, Z_, Z_, Z_, Z_, Z_, Z_, Z_, Z_, Z_, Z_, Z_, Z_, Z_, Z_, Z_, Z_, Z_, Z_, Z_, Z_, Z_] rfl rfl (any_of HT_.out (by kernel_rfl)) (fun _ _ _ h => h) (Or.inl ⟨by rfl, ?_⟩) ?_ ?_
          rotate_left
          · intro w'; go_simp; with_reducible rfl
          rotate_left
          · simp only [Act.put, nS, i64_w, i32_w]; rfl
          refine take_ (i := 12) (N := some 16) (v := ?_) (a' := ?_) #[Y_, Y_, Y_, Y_, Y_, Y_, Y_, Y_, Y_, Y_, Y_, Y_, Y_, Z_, Z_, Z_, Z_, Z_, Z_, Z_, Z_, Z_, Z_, Z_, Z_, Z_, Z_, Z_, Z_, Z_, Z_, Z_, Z_, Z_, Z_] rfl rfl (take_ofW HT_.out HW_.out (by kernel_rfl)) (fun _ _ _ h => h) (Or.inl ⟨by rfl, ?_⟩) hHeld ?_ ?_
          rotate_left
          · rintro w' ⟨hc0, hc4, hc14⟩
            go_simp
            with_reducible rfl
          rotate_left
          · simp only [Act.put, nS, i64_w, i32_w]; rfl
          refine pure_ (i := 13) (N := some 17) (v := ?_) (a' := ?_) #[Y_, Y_, Y_, Y_, Y_, Y_, Y_, Y_, Y_, Y_, Y_, Y_, Y_, Y_, Z_, Z_, Z_, Z_, Z_, Z_, Z_, Z_, Z_, Z_, Z_, Z_, Z_, Z_, Z_, Z_, Z_, Z_, Z_, Z_, Z_] rfl rfl (any_of HT_.out (by kernel_rfl)) (fun _ _ _ h => h) (Or.inl ⟨by rfl, ?_⟩) ?_ ?_
          rotate_left
          · intro w'; go_simp; with_reducible rfl
          rotate_left
          · simp only [Act.put, nS, i64_w, i32_w]; rfl
          refine pure_ (i := 14) (N := some 18) (v := ?_) (a' := ?_) #[Y_, Y_, Y_, Y_, Y_, Y_, Y_, Y_, Y_, Y_, Y_, Y_, Y_, Y_, Y_, Z_, Z_, Z_, Z_, Z_, Z_, Z_, Z_, Z_, Z_, Z_, Z_, Z_, Z_, Z_, Z_, Z_, Z_, Z_, Z_] rfl rfl (any_of HT_.out (by kernel_rfl)) (fun _ _ _ h => h) (Or.inl ⟨by rfl, ?_⟩) ?_ ?_
          rotate_left
          · intro w'; go_simp; with_reducible rfl
          rotate_left
          · simp only [Act.put, nS, i64_w, i32_w]; rfl
          refine pure_ (i := 15) (N := some 19) (v := ?_) (a' := ?_) #[Y_, Y_, Y_, Y_, Y_, Y_, Y_, Y_, Y_, Y_, Y_, Y_, Y_, Y_, Y_, Y_, Z_, Z_, Z_, Z_, Z_, Z_, Z_, Z_, Z_, Z_, Z_, Z_, Z_, Z_, Z_, Z_, Z_, Z_, Z_] rfl rfl (any_of HT_.out (by kernel_rfl)) (fun _ _ _ h => h) (Or.inl ⟨by rfl, ?_⟩) ?_ ?_
          rotate_left
          · intro w'; go_simp; with_reducible rfl
          rotate_left
          · simp only [Act.put, nS, i64_w, i32_w]; rfl
          refine pure_ (i := 16) (N := some 20) (v := undef) (a' := ?_) #[Y_, Y_, Y_, Y_, Y_, Y_, Y_, Y_, Y_, Y_, Y_, Y_, Y_, Y_, Y_, Y_, Y_, Z_, Z_, Z_, Z_, Z_, Z_, Z_, Z_, Z_, Z_, Z_, Z_, Z_, Z_, Z_, Z_, Z_, Z_] rfl rfl (any_of HT_.out (by kernel_rfl)) (fun _ _ _ h => h) (Or.inr ⟨by rfl, rfl⟩) ?_ ?_
          rotate_left
          · simp only [Act.put, nS, i64_w, i32_w]; rfl
          refine pure_ (i := 17) (N := some 21) (v := undef) (a' := ?_) #[Y_, Y_, Y_, Y_, Y_, Y_, Y_, Y_, Y_, Y_, Y_, Y_, Y_, Y_, Y_, Y_, Y_, Y_, Z_, Z_, Z_, Z_, Z_, Z_, Z_, Z_, Z_, Z_, Z_, Z_, Z_, Z_, Z_, Z_, Z_] rfl rfl (any_of HT_.out (by kernel_rfl)) (fun _ _ _ h => h) (Or.inr ⟨by rfl, rfl⟩) ?_ ?_
          rotate_left
          · simp only [Act.put, nS, i64_w, i32_w]; rfl
          refine pure_ (i := 18) (N := some 22) (v := undef) (a' := ?_) #[Y_, Y_, Y_, Y_, Y_, Y_, Y_, Y_, Y_, Y_, Y_, Y_, Y_, Y_, Y_, Y_, Y_, Y_, Y_, Z_, Z_, Z_, Z_, Z_, Z_, Z_, Z_, Z_, Z_, Z_, Z_, Z_, Z_, Z_, Z_] rfl rfl (any_of HT_.out (by kernel_rfl)) (fun _ _ _ h => h) (Or.inr ⟨by rfl, rfl⟩) ?_ ?_
          rotate_left
          · simp only [Act.put, nS, i64_w, i32_w]; rfl
          refine pure_ (i := 19) (N := some 23) (v := ?_) (a' := ?_) #[Y_, Y_, Y_, Y_, Y_, Y_, Y_, Y_, Y_, Y_, Y_, Y_, Y_, Y_, Y_, Y_, Y_, Y_, Y_, Y_, Z_, Z_, Z_, Z_, Z_, Z_, Z_, Z_, Z_, Z_, Z_, Z_, Z_, Z_, Z_] rfl rfl (any_of HT_.out (by kernel_rfl)) (fun _ _ _ h => h) (Or.inl ⟨by rfl, ?_⟩) ?_ ?_
          rotate_left
          · intro w'; go_simp; with_reducible rfl
          rotate_left
          · simp only [Act.put, nS, i64_w, i32_w]; rfl
          refine pure_ (i := 20) (N := some 24) (v := ?_) (a' := ?_) #[Y_, Y_, Y_, Y_, Y_, Y_, Y_, Y_, Y_, Y_, Y_, Y_, Y_, Y_, Y_, Y_, Y_, Y_, Y_, Y_, Y_, Z_, Z_, Z_, Z_, Z_, Z_, Z_, Z_, Z_, Z_, Z_, Z_, Z_, Z_] rfl rfl (any_of HT_.out (by kernel_rfl)) (fun _ _ _ h => h) (Or.inl ⟨by rfl, ?_⟩) ?_ ?_
          rotate_left
          · intro w'; go_simp; with_reducible rfl
          rotate_left
          · simp only [Act.put, nS, i64_w, i32_w]; rfl
          refine pure_ (i := 21) (N := some 25) (v := undef) (a' := ?_) #[Y_, Y_, Y_, Y_, Y_, Y_, Y_, Y_, Y_, Y_, Y_, Y_, Y_, Y_, Y_, Y_, Y_, Y_, Y_, Y_, Y_, Y_, Z_, Z_, Z_, Z_, Z_, Z_, Z_, Z_, Z_, Z_, Z_, Z_, Z_] rfl rfl (any_of HT_.out (by kernel_rfl)) (fun _ _ _ h => h) (Or.inr ⟨by rfl, rfl⟩) ?_ ?_
          rotate_left
          · simp only [Act.put, nS, i64_w, i32_w]; rfl
          refine pure_ (i := 22) (N := some 26) (v := undef) (a' := ?_) #[Y_, Y_, Y_, Y_, Y_, Y_, Y_, Y_, Y_, Y_, Y_, Y_, Y_, Y_, Y_, Y_, Y_, Y_, Y_, Y_, Y_, Y_, Y_, Z_, Z_, Z_, Z_, Z_, Z_, Z_, Z_, Z_, Z_, Z_, Z_] rfl rfl (any_of HT_.out (by kernel_rfl)) (fun _ _ _ h => h) (Or.inr ⟨by rfl, rfl⟩) ?_ ?_
          rotate_left
          · simp only [Act.put, nS, i64_w, i32_w]; rfl
          refine pure_ (i := 23) (N := some 27) (v := undef) (a' := ?_) #[Y_, Y_, Y_, Y_, Y_, Y_, Y_, Y_, Y_, Y_, Y_, Y_, Y_, Y_, Y_, Y_, Y_, Y_, Y_, Y_, Y_, Y_, Y_, Y_, Z_, Z_, Z_, Z_, Z_, Z_, Z_, Z_, Z_, Z_, Z_] rfl rfl (any_of HT_.out (by kernel_rfl)) (fun _ _ _ h => h) (Or.inr ⟨by rfl, rfl⟩) ?_ ?_
          rotate_left
          · simp only [Act.put, nS, i64_w, i32_w]; rfl
          refine pure_ (i := 24) (N := some 28) (v := undef) (a' := ?_) #[Y_, Y_, Y_, Y_, Y_, Y_, Y_, Y_, Y_, Y_, Y_, Y_, Y_, Y_, Y_, Y_, Y_, Y_, Y_, Y_, Y_, Y_, Y_, Y_, Y_, Z_, Z_, Z_, Z_, Z_, Z_, Z_, Z_, Z_, Z_] rfl rfl (any_of HT_.out (by kernel_rfl)) (fun _ _ _ h => h) (Or.inr ⟨by rfl, rfl⟩) ?_ ?_
          rotate_left
          · simp only [Act.put, nS, i64_w, i32_w]; rfl
          refine pure_ (i := 25) (N := some 29) (v := ?_) (a' := ?_) #[Y_, Y_, Y_, Y_, Y_, Y_, Y_, Y_, Y_, Y_, Y_, Y_, Y_, Y_, Y_, Y_, Y_, Y_, Y_, Y_, Y_, Y_, Y_, Y_, Y_, Y_, Z_, Z_, Z_, Z_, Z_, Z_, Z_, Z_, Z_] rfl rfl (any_of HT_.out (by kernel_rfl)) (fun _ _ _ h => h) (Or.inl ⟨by rfl, ?_⟩) ?_ ?_
          rotate_left
          · intro w'; go_simp; with_reducible rfl
          rotate_left
          · simp only [Act.put, nS, i64_w, i32_w]; rfl
          refine pure_ (i := 26) (N := some 30) (v := ?_) (a' := ?_) #[Y_, Y_, Y_, Y_, Y_, Y_, Y_, Y_, Y_, Y_, Y_, Y_, Y_, Y_, Y_, Y_, Y_, Y_, Y_, Y_, Y_, Y_, Y_, Y_, Y_, Y_, Y_, Z_, Z_, Z_, Z_, Z_, Z_, Z_, Z_] rfl rfl (any_of HT_.out (by kernel_rfl)) (fun _ _ _ h => h) (Or.inl ⟨by rfl, ?_⟩) ?_ ?_
          rotate_left
          · intro w'; go_simp; with_reducible rfl
          rotate_left
          · simp only [Act.put, nS, i64_w, i32_w]; rfl
          refine pure_ (i := 27) (N := some 31) (v := undef) (a' := ?_) #[Y_, Y_, Y_, Y_, Y_, Y_, Y_, Y_, Y_, Y_, Y_, Y_, Y_, Y_, Y_, Y_, Y_, Y_, Y_, Y_, Y_, Y_, Y_, Y_, Y_, Y_, Y_, Y_, Z_, Z_, Z_, Z_, Z_, Z_, Z_] rfl rfl (any_of HT_.out (by kernel_rfl)) (fun _ _ _ h => h) (Or.inr ⟨by rfl, rfl⟩) ?_ ?_
          rotate_left
          · simp only [Act.put, nS, i64_w, i32_w]; rfl
          refine pure_ (i := 28) (N := some 32) (v := undef) (a' := ?_) #[Y_, Y_, Y_, Y_, Y_, Y_, Y_, Y_, Y_, Y_, Y_, Y_, Y_, Y_, Y_, Y_, Y_, Y_, Y_, Y_, Y_, Y_, Y_, Y_, Y_, Y_, Y_, Y_, Y_, Z_, Z_, Z_, Z_, Z_, Z_] rfl rfl (any_of HT_.out (by kernel_rfl)) (fun _ _ _ h => h) (Or.inr ⟨by rfl, rfl⟩) ?_ ?_
          rotate_left
          · simp only [Act.put, nS, i64_w, i32_w]; rfl
          refine pure_ (i := 29) (N := some 33) (v := undef) (a' := ?_) #[Y_, Y_, Y_, Y_, Y_, Y_, Y_, Y_, Y_, Y_, Y_, Y_, Y_, Y_, Y_, Y_, Y_, Y_, Y_, Y_, Y_, Y_, Y_, Y_, Y_, Y_, Y_, Y_, Y_, Y_, Z_, Z_, Z_, Z_, Z_] rfl rfl (any_of HT_.out (by kernel_rfl)) (fun _ _ _ h => h) (Or.inr ⟨by rfl, rfl⟩) ?_ ?_
          rotate_left
          · simp only [Act.put, nS, i64_w, i32_w]; rfl
          refine pure_ (i := 30) (N := some 34) (v := undef) (a' := ?_) #[Y_, Y_, Y_, Y_, Y_, Y_, Y_, Y_, Y_, Y_, Y_, Y_, Y_, Y_, Y_, Y_, Y_, Y_, Y_, Y_, Y_, Y_, Y_, Y_, Y_, Y_, Y_, Y_, Y_, Y_, Y_, Z_, Z_, Z_, Z_] rfl rfl (any_of HT_.out (by kernel_rfl)) (fun _ _ _ h => h) (Or.inr ⟨by rfl, rfl⟩) ?_ ?_
          rotate_left
          · simp only [Act.put, nS, i64_w, i32_w]; rfl
          refine pure_ (i := 31) (N := some 35) (v := undef) (a' := ?_) #[Y_, Y_, Y_, Y_, Y_, Y_, Y_, Y_, Y_, Y_, Y_, Y_, Y_, Y_, Y_, Y_, Y_, Y_, Y_, Y_, Y_, Y_, Y_, Y_, Y_, Y_, Y_, Y_, Y_, Y_, Y_, Y_, Z_, Z_, Z_] rfl rfl (any_of HT_.out (by kernel_rfl)) (fun _ _ _ h => h) (Or.inr ⟨by rfl, rfl⟩) ?_ ?_
          rotate_left
          · simp only [Act.put, nS, i64_w, i32_w]; rfl
          refine pure_ (i := 32) (N := some 36) (v := undef) (a' := ?_) #[Y_, Y_, Y_, Y_, Y_, Y_, Y_, Y_, Y_, Y_, Y_, Y_, Y_, Y_, Y_, Y_, Y_, Y_, Y_, Y_, Y_, Y_, Y_, Y_, Y_, Y_, Y_, Y_, Y_, Y_, Y_, Y_, Y_, Z_, Z_] rfl rfl (any_of HT_.out (by kernel_rfl)) (fun _ _ _ h => h) (Or.inr ⟨by rfl, rfl⟩) ?_ ?_
          rotate_left
          · simp only [Act.put, nS, i64_w, i32_w]; rfl
          refine pure_ (i := 33) (N := some 37) (v := ?_) (a' := ?_) #[Y_, Y_, Y_, Y_, Y_, Y_, Y_, Y_, Y_, Y_, Y_, Y_, Y_, Y_, Y_, Y_, Y_, Y_, Y_, Y_, Y_, Y_, Y_, Y_, Y_, Y_, Y_, Y_, Y_, Y_, Y_, Y_, Y_, Y_, Z_] rfl rfl (any_of HT_.out (by kernel_rfl)) (fun _ _ _ h => h) (Or.inl ⟨by rfl, ?_⟩) ?_ ?_
          rotate_left
          · intro w'; go_simp; with_reducible rfl
          rotate_left
          · simp only [Act.put, nS, i64_w, i32_w]; rfl
          refine pure_ (i := 34) (N := some 3) (v := ?_) (a' := ?_) #[Y_, Y_, Y_, Y_, Y_, Y_, Y_, Y_, Y_, Y_, Y_, Y_, Y_, Y_, Y_, Y_, Y_, Y_, Y_, Y_, Y_, Y_, Y_, Y_, Y_, Y_, Y_, Y_, Y_, Y_, Y_, Y_, Y_, Y_, Y_] rfl rfl (any_of HT_.out (by kernel_rfl)) (fun _ _ _ h => h) (Or.inl ⟨by rfl, ?_⟩) ?_ ?_
          rotate_left
          · intro w'; go_simp; with_reducible rfl
          rotate_left
          · simp only [Act.put, nS, i64_w, i32_w]; rfl
          refine done_ (done_of HT_.out (by kernel_rfl)) ?_
          go_wp2
          go_ret
          exact ⟨rfl, HD.out.1⟩
        · have d2 : decide (a0_14 < 0) = false := decide_eq_false e2
          by_cases e3 : a0_14 ≥ 512
          · have d3 : decide (a0_14 ≥ 512) = true := decide_eq_true e3
            rw [checkI, if_pos (by omega)]
            go_wp2
            refine start_ (n := 35) (S := fun w' => w'.cell? ⟨w.heap.size, 0, none⟩ = some (.int .i64 a0_0) ∧ w'.cell? ⟨w.heap.size, 4, none⟩ = some (.int .i64 a0_4) ∧ w'.cell? ⟨w.heap.size, 14, none⟩ = some (.int .i64 a0_14)) (ds := []) #[Z_, Z_, Z_, Z_, Z_, Z_, Z_, Z_, Z_, Z_, Z_, Z_, Z_, Z_, Z_, Z_, Z_, Z_, Z_, Z_, Z_, Z_, Z_, Z_, Z_, Z_, Z_, Z_, Z_, Z_, Z_, Z_, Z_, Z_, Z_] (by kernel_rfl) rfl rfl (chk_cells HD.out) (fun hHeld => ?_)
            refine with_tabW item_check_h.tab1 item_check_h.bits1 (fun HT_ HW_ => ?_)
            refine pure_ (i := 0) (N := some 4) (v := ?_) (a' := ?_) #[Y_, Z_, Z_, Z_, Z_, Z_, Z_, Z_, Z_, Z_, Z_, Z_, Z_, Z_, Z_, Z_, Z_, Z_, Z_, Z_, Z_, Z_, Z_, Z_, Z_, Z_, Z_, Z_, Z_, Z_, Z_, Z_, Z_, Z_, Z_] rfl rfl (any_of HT_.out (by kernel_rfl)) (fun _ _ _ h => h) (Or.inl ⟨by rfl, ?_⟩) ?_ ?_
            rotate_left
            · intro w'; go_simp; with_reducible rfl
            rotate_left
            · simp only [Act.put, nS, i64_w, i32_w]; rfl
            refine take_ (i := 1) (N := some 5) (v := ?_) (a' := ?_) #[Y_, Y_, Z_, Z_, Z_, Z_, Z_, Z_, Z_, Z_, Z_, Z_, Z_, Z_, Z_, Z_, Z_, Z_, Z_, Z_, Z_, Z_, Z_, Z_, Z_, Z_, Z_, Z_, Z_, Z_, Z_, Z_, Z_, Z_, Z_] rfl rfl (take_ofW HT_.out HW_.out (by kernel_rfl)) (fun _ _ _ h => h) (Or.inl ⟨by rfl, ?_⟩) hHeld ?_ ?_
            rotate_left
            · rintro w' ⟨hc0, hc4, hc14⟩
              go_simp
              with_reducible rfl
            rotate_left
            · simp only [Act.put, nS, i64_w, i32_w]; rfl
            refine pure_ (i := 2) (N := some 6) (v := ?_) (a' := ?_) #[Y_, Y_, Y_, Z_, Z_, Z_, Z_, Z_, Z_, Z_, Z_, Z_, Z_, Z_, Z_, Z_, Z_, Z_, Z_, Z_, Z_, Z_, Z_, Z_, Z_, Z_, Z_, Z_, Z_, Z_, Z_, Z_, Z_, Z_, Z_] rfl rfl (any_of HT_.out (by kernel_rfl)) (fun _ _ _ h => h) (Or.inl ⟨by rfl, ?_⟩) ?_ ?_
            rotate_left
            · intro w'; go_simp; with_reducible rfl
            rotate_left
            · simp only [Act.put, nS, i64_w, i32_w]; rfl
            refine pure_ (i := 3) (N := some 7) (v := ?_) (a' := ?_) #[Y_, Y_, Y_, Y_, Z_, Z_, Z_, Z_, Z_, Z_, Z_, Z_, Z_, Z_, Z_, Z_, Z_, Z_, Z_, Z_, Z_, Z_, Z_, Z_, Z_, Z_, Z_, Z_, Z_, Z_, Z_, Z_, Z_, Z_, Z_] rfl rfl (any_of HT_.out (by kernel_rfl)) (fun _ _ _ h => h) (Or.inl ⟨by rfl, ?_⟩) ?_ ?_
            rotate_left
            · intro w'; go_simp; with_reducible rfl
            rotate_left
            · simp only [Act.put, nS, i64_w, i32_w]; rfl
            refine pure_ (i := 4) (N := some 8) (v := ?_) (a' := ?_) #[Y_, Y_, Y_, Y_, Y_, Z_, Z_, Z_, Z_, Z_, Z_, Z_, Z_, Z_, Z_, Z_, Z_, Z_, Z_, Z_, Z_, Z_, Z_, Z_, Z_, Z_, Z_, Z_, Z_, Z_, Z_, Z_, Z_, Z_, Z_] rfl rfl (any_of HT_.out (by kernel_rfl)) (fun _ _ _ h => h) (Or.inl ⟨by rfl, ?_⟩) ?_ ?_
            rotate_left
            · intro w'; go_simp; with_reducible rfl
            rotate_left
            · simp only [Act.put, nS, i64_w, i32_w]; rfl
            refine take_ (i := 5) (N := some 9) (v := ?_) (a' := ?_) #[Y_, Y_, Y_, Y_, Y_, Y_, Z_, Z_, Z_, Z_, Z_, Z_, Z_, Z_, Z_, Z_, Z_, Z_, Z_, Z_, Z_, Z_, Z_, Z_, Z_, Z_, Z_, Z_, Z_, Z_, Z_, Z_, Z_, Z_, Z_] rfl rfl (take_ofW HT_.out HW_.out (by kernel_rfl)) (fun _ _ _ h => h) (Or.inl ⟨by rfl, ?_⟩) hHeld ?_ ?_
            rotate_left
            · rintro w' ⟨hc0, hc4, hc14⟩
              go_simp
              with_reducible rfl
            rotate_left
            · simp only [Act.put, nS, i64_w, i32_w]; rfl
            refine one_ (i := 6) (N := some 10) #[Y_, Y_, Y_, Y_, Y_, Y_, Y_, Z_, Z_, Z_, Z_, Z_, Z_, Z_, Z_, Z_, Z_, Z_, Z_, Z_, Z_, Z_, Z_, Z_, Z_, Z_, Z_, Z_, Z_, Z_, Z_, Z_, Z_, Z_, Z_] rfl rfl (one_of HT_.out (by kernel_rfl)) (by decide) (fun K hK => ?_)
            refine goes_ Tryd.func12 (by kernel_rfl) rfl #[] (by rfl) rfl rfl (by (try simp only [List.map_toArray, List.map_cons, List.map_nil]); first | done | rfl) ?_
            refine (kinds_call _).mono ?_
            rintro e w1 ⟨rfl, hb⟩
            refine ⟨_, rfl, ?_⟩
            have HB1 := Aside0.mk (B1.step HD.out hb)
            clear HD
            have HD := HB1
            clear HB1
            clear hb
            refine hK.out _ _ (chk_cells HD.out) (fun hHeld => ?_)
            clear hK K
            refine norm_ (a' := ?_) ?_ ?_
            rotate_left
            · show Act.put _ (some 10) _ = _
              simp only [Act.put, nS, i64_w, i32_w]
              rfl
            refine pure_ (i := 7) (N := some 11) (v := ?_) (a' := ?_) #[Y_, Y_, Y_, Y_, Y_, Y_, Y_, Y_, Z_, Z_, Z_, Z_, Z_, Z_, Z_, Z_, Z_, Z_, Z_, Z_, Z_, Z_, Z_, Z_, Z_, Z_, Z_, Z_, Z_, Z_, Z_, Z_, Z_, Z_, Z_] rfl rfl (any_of HT_.out (by kernel_rfl)) (fun _ _ _ h => h) (Or.inl ⟨by rfl, ?_⟩) ?_ ?_
            rotate_left
            · intro w'; go_simp; with_reducible rfl
            rotate_left
            · simp only [Act.put, nS, i64_w, i32_w]; rfl
            refine pure_ (i := 8) (N := some 12) (v := ?_) (a' := ?_) #[Y_, Y_, Y_, Y_, Y_, Y_, Y_, Y_, Y_, Z_, Z_, Z_, Z_, Z_, Z_, Z_, Z_, Z_, Z_, Z_, Z_, Z_, Z_, Z_, Z_, Z_, Z_, Z_, Z_, Z_, Z_, Z_, Z_, Z_, Z_] rfl rfl (any_of HT_.out (by kernel_rfl)) (fun _ _ _ h => h) (Or.inl ⟨by rfl, ?_⟩) ?_ ?_
            rotate_left
            · intro w'; go_simp; with_reducible rfl
            rotate_left
            · simp only [Act.put, nS, i64_w, i32_w]; rfl
            refine pure_ (i := 9) (N := some 13) (v := ?_) (a' := ?_) #[Y_, Y_, Y_, Y_, Y_, Y_, Y_, Y_, Y_, Y_, Z_, Z_, Z_, Z_, Z_, Z_, Z_, Z_, Z_, Z_, Z_, Z_, Z_, Z_, Z_, Z_, Z_, Z_, Z_, Z_, Z_, Z_, Z_, Z_, Z_] rfl rfl (any_of HT_.out (by kernel_rfl)) (fun _ _ _ h => h) (Or.inl ⟨by rfl, ?_⟩) ?_ ?_
            rotate_left
            · intro w'; go_simp; with_reducible rfl
            rotate_left
            · simp only [Act.put, nS, i64_w, i32_w]; rfl
            refine pure_ (i := 10) (N := some 14) (v := ?_) (a' := ?_) #[Y_, Y_, Y_, Y_, Y_, Y_, Y_, Y_, Y_, Y_, Y_, Z_, Z_, Z_, Z_, Z_, Z_, Z_, Z_, Z_, Z_, Z_, Z_, Z_, Z_, Z_, Z_, Z_, Z_, Z_, Z_, Z_, Z_, Z_, Z_] rfl rfl (any_of HT_.out (by kernel_rfl)) (fun _ _ _ h => h) (Or.inl ⟨by rfl, ?_⟩) ?_ ?_
            rotate_left
            · intro w'; go_simp; with_reducible rfl
            rotate_left
            · simp only [Act.put, nS, i64_w, i32_w]; rfl
            refine pure_ (i := 11) (N := some 15) (v := ?_) (a' := ?_) #[Y_, Y_, Y_, Y_, Y_, Y_, Y_, Y_, Y_, Y_, Y_, Y_, Z_, Z_, Z_, Z_, Z_, Z_, Z_, Z_, Z_, Z_, Z_, Z_, Z_, Z_, Z_, Z_, Z_, Z_, Z_, Z_, Z_, Z_, Z_] rfl rfl (any_of HT_.out (by kernel_rfl)) (fun _ _ _ h => h) (Or.inl ⟨by rfl, ?_⟩) ?_ ?_
            rotate_left
            · intro w'; go_simp; with_reducible rfl
            rotate_left
            · simp only [Act.put, nS, i64_w, i32_w]; rfl
            refine take_ (i := 12) (N := some 16) (v := ?_) (a' := ?_) #[Y_, Y_, Y_, Y_, Y_, Y_, Y_, Y_, Y_, Y_, Y_, Y_, Y_, Z_, Z_, Z_, Z_, Z_, Z_, Z_, Z_, Z_, Z_, Z_, Z_, Z_, Z_, Z_, Z_, Z_, Z_, Z_, Z_, Z_, Z_] rfl rfl (take_ofW HT_.out HW_.out (by kernel_rfl)) (fun _ _ _ h => h) (Or.inl ⟨by rfl, ?_⟩) hHeld ?_ ?_
            rotate_left
            · rintro w' ⟨hc0, hc4, hc14⟩
              go_simp
              with_reducible rfl
            rotate_left
            · simp only [Act.put, nS, i64_w, i32_w]; rfl
            refine pure_ (i := 13) (N := some 17) (v := ?_) (a' := ?_) #[Y_, Y_, Y_, Y_, Y_, Y_, Y_, Y_, Y_, Y_, Y_, Y_, Y_, Y_, Z_, Z_, Z_, Z_, Z_, Z_, Z_, Z_, Z_, Z_, Z_, Z_, Z_, Z_, Z_, Z_, Z_, Z_, Z_, Z_, Z_] rfl rfl (any_of HT_.out (by kernel_rfl)) (fun _ _ _ h => h) (Or.inl ⟨by rfl, ?_⟩) ?_ ?_
            rotate_left
            · intro w'; go_simp; with_reducible rfl
            rotate_left
            · simp only [Act.put, nS, i64_w, i32_w]; rfl
            refine pure_ (i := 14) (N := some 18) (v := ?_) (a' := ?_) #[Y_, Y_, Y_, Y_, Y_, Y_, Y_, Y_, Y_, Y_, Y_, Y_, Y_, Y_, Y_, Z_, Z_, Z_, Z_, Z_, Z_, Z_, Z_, Z_, Z_, Z_, Z_, Z_, Z_, Z_, Z_, Z_, Z_, Z_, Z_] rfl rfl (any_of HT_.out (by kernel_rfl)) (fun _ _ _ h => h) (Or.inl ⟨by rfl, ?_⟩) ?_ ?_
            rotate_left
            · intro w'; go_simp; with_reducible rfl
            rotate_left
            · simp only [Act.put, nS, i64_w, i32_w]; rfl
            refine pure_ (i := 15) (N := some 19) (v := ?_) (a' := ?_) #[Y_, Y_, Y_, Y_, Y_, Y_, Y_, Y_, Y_, Y_, Y_, Y_, Y_, Y_, Y_, Y_, Z_, Z_, Z_, Z_, Z_, Z_, Z_, Z_, Z_, Z_, Z_, Z_, Z_, Z_, Z_, Z_, Z_, Z_, Z_] rfl rfl (any_of HT_.out (by kernel_rfl)) (fun _ _ _ h => h) (Or.inl ⟨by rfl, ?_⟩) ?_ ?_
            rotate_left
            · intro w'; go_simp; with_reducible rfl
            rotate_left
            · simp only [Act.put, nS, i64_w, i32_w]; rfl
            refine pure_ (i := 16) (N := some 20) (v := ?_) (a' := ?_) #[Y_, Y_, Y_, Y_, Y_, Y_, Y_, Y_, Y_, Y_, Y_, Y_, Y_, Y_, Y_, Y_, Y_, Z_, Z_, Z_, Z_, Z_, Z_, Z_, Z_, Z_, Z_, Z_, Z_, Z_, Z_, Z_, Z_, Z_, Z_] rfl rfl (any_of HT_.out (by kernel_rfl)) (fun _ _ _ h => h) (Or.inl ⟨by rfl, ?_⟩) ?_ ?_
            rotate_left
            · intro w'; go_simp; with_reducible rfl
            rotate_left
            · simp only [Act.put, nS, i64_w, i32_w]; rfl
            refine take_ (i := 17) (N := some 21) (v := ?_) (a' := ?_) #[Y_, Y_, Y_, Y_, Y_, Y_, Y_, Y_, Y_, Y_, Y_, Y_, Y_, Y_, Y_, Y_, Y_, Y_, Z_, Z_, Z_, Z_, Z_, Z_, Z_, Z_, Z_, Z_, Z_, Z_, Z_, Z_, Z_, Z_, Z_] rfl rfl (take_ofW HT_.out HW_.out (by kernel_rfl)) (fun _ _ _ h => h) (Or.inl ⟨by rfl, ?_⟩) hHeld ?_ ?_
            rotate_left
            · rintro w' ⟨hc0, hc4, hc14⟩
              go_simp
              with_reducible rfl
            rotate_left
            · simp only [Act.put, nS, i64_w, i32_w]; rfl
            refine pure_ (i := 18) (N := some 22) (v := ?_) (a' := ?_) #[Y_, Y_, Y_, Y_, Y_, Y_, Y_, Y_, Y_, Y_, Y_, Y_, Y_, Y_, Y_, Y_, Y_, Y_, Y_, Z_, Z_, Z_, Z_, Z_, Z_, Z_, Z_, Z_, Z_, Z_, Z_, Z_, Z_, Z_, Z_] rfl rfl (any_of HT_.out (by kernel_rfl)) (fun _ _ _ h => h) (Or.inl ⟨by rfl, ?_⟩) ?_ ?_
            rotate_left
            · intro w'; go_simp; with_reducible rfl
            rotate_left
            · simp only [Act.put, nS, i64_w, i32_w]; rfl
            refine pure_ (i := 19) (N := some 23) (v := ?_) (a' := ?_) #[Y_, Y_, Y_, Y_, Y_, Y_, Y_, Y_, Y_, Y_, Y_, Y_, Y_, Y_, Y_, Y_, Y_, Y_, Y_, Y_, Z_, Z_, Z_, Z_, Z_, Z_, Z_, Z_, Z_, Z_, Z_, Z_, Z_, Z_, Z_] rfl rfl (any_of HT_.out (by kernel_rfl)) (fun _ _ _ h => h) (Or.inl ⟨by rfl, ?_⟩) ?_ ?_
            rotate_left
            · intro w'; go_simp; with_reducible rfl
            rotate_left
            · simp only [Act.put, nS, i64_w, i32_w]; rfl
            refine pure_ (i := 20) (N := some 24) (v := ?_) (a' := ?_) #[Y_, Y_, Y_, Y_, Y_, Y_, Y_, Y_, Y_, Y_, Y_, Y_, Y_, Y_, Y_, Y_, Y_, Y_, Y_, Y_, Y_, Z_, Z_, Z_, Z_, Z_, Z_, Z_, Z_, Z_, Z_, Z_, Z_, Z_, Z_] rfl rfl (any_of HT_.out (by kernel_rfl)) (fun _ _ _ h => h) (Or.inl ⟨by rfl, ?_⟩) ?_ ?_
            rotate_left
            · intro w'; go_simp; with_reducible rfl
            rotate_left
            · simp only [Act.put, nS, i64_w, i32_w]; rfl
            refine pure_ (i := 21) (N := some 25) (v := undef) (a' := ?_) #[Y_, Y_, Y_, Y_, Y_, Y_, Y_, Y_, Y_, Y_, Y_, Y_, Y_, Y_, Y_, Y_, Y_, Y_, Y_, Y_, Y_, Y_, Z_, Z_, Z_, Z_, Z_, Z_, Z_, Z_, Z_, Z_, Z_, Z_, Z_] rfl rfl (any_of HT_.out (by kernel_rfl)) (fun _ _ _ h => h) (Or.inr ⟨by rfl, rfl⟩) ?_ ?_
            rotate_left
            · simp only [Act.put, nS, i64_w, i32_w]; rfl
            refine pure_ (i := 22) (N := some 26) (v := undef) (a' := ?_) #[Y_, Y_, Y_, Y_, Y_, Y_, Y_, Y_, Y_, Y_, Y_, Y_, Y_, Y_, Y_, Y_, Y_, Y_, Y_, Y_, Y_, Y_, Y_, Z_, Z_, Z_, Z_, Z_, Z_, Z_, Z_, Z_, Z_, Z_, Z_] rfl rfl (any_of HT_.out (by kernel_rfl)) (fun _ _ _ h => h) (Or.inr ⟨by rfl, rfl⟩) ?_ ?_
            rotate_left
            · simp only [Act.put, nS, i64_w, i32_w]; rfl
            refine pure_ (i := 23) (N := some 27) (v := undef) (a' := ?_) #[Y_, Y_, Y_, Y_, Y_, Y_, Y_, Y_, Y_, Y_, Y_, Y_, Y_, Y_, Y_, Y_, Y_, Y_, Y_, Y_, Y_, Y_, Y_, Y_, Z_, Z_, Z_, Z_, Z_, Z_, Z_, Z_, Z_, Z_, Z_] rfl rfl (any_of HT_.out (by kernel_rfl)) (fun _ _ _ h => h) (Or.inr ⟨by rfl, rfl⟩) ?_ ?_
            rotate_left
            · simp only [Act.put, nS, i64_w, i32_w]; rfl
            refine pure_ (i := 24) (N := some 28) (v := undef) (a' := ?_) #[Y_, Y_, Y_, Y_, Y_, Y_, Y_, Y_, Y_, Y_, Y_, Y_, Y_, Y_, Y_, Y_, Y_, Y_, Y_, Y_, Y_, Y_, Y_, Y_, Y_, Z_, Z_, Z_, Z_, Z_, Z_, Z_, Z_, Z_, Z_] rfl rfl (any_of HT_.out (by kernel_rfl)) (fun _ _ _ h => h) (Or.inr ⟨by rfl, rfl⟩) ?_ ?_
            rotate_left
            · simp only [Act.put, nS, i64_w, i32_w]; rfl
            refine pure_ (i := 25) (N := some 29) (v := ?_) (a' := ?_) #[Y_, Y_, Y_, Y_, Y_, Y_, Y_, Y_, Y_, Y_, Y_, Y_, Y_, Y_, Y_, Y_, Y_, Y_, Y_, Y_, Y_, Y_, Y_, Y_, Y_, Y_, Z_, Z_, Z_, Z_, Z_, Z_, Z_, Z_, Z_] rfl rfl (any_of HT_.out (by kernel_rfl)) (fun _ _ _ h => h) (Or.inl ⟨by rfl, ?_⟩) ?_ ?_
            rotate_left
            · intro w'; go_simp; with_reducible rfl
            rotate_left
            · simp only [Act.put, nS, i64_w, i32_w]; rfl
            refine pure_ (i := 26) (N := some 30) (v := ?_) (a' := ?_) #[Y_, Y_, Y_, Y_, Y_, Y_, Y_, Y_, Y_, Y_, Y_, Y_, Y_, Y_, Y_, Y_, Y_, Y_, Y_, Y_, Y_, Y_, Y_, Y_, Y_, Y_, Y_, Z_, Z_, Z_, Z_, Z_, Z_, Z_, Z_] rfl rfl (any_of HT_.out (by kernel_rfl)) (fun _ _ _ h => h) (Or.inl ⟨by rfl, ?_⟩) ?_ ?_
            rotate_left
            · intro w'; go_simp; with_reducible rfl
            rotate_left
            · simp only [Act.put, nS, i64_w, i32_w]; rfl
            refine pure_ (i := 27) (N := some 31) (v := undef) (a' := ?_) #[Y_, Y_, Y_, Y_, Y_, Y_, Y_, Y_, Y_, Y_, Y_, Y_, Y_, Y_, Y_, Y_, Y_, Y_, Y_, Y_, Y_, Y_, Y_, Y_, Y_, Y_, Y_, Y_, Z_, Z_, Z_, Z_, Z_, Z_, Z_] rfl rfl (any_of HT_.out (by kernel_rfl)) (fun _ _ _ h => h) (Or.inr ⟨by rfl, rfl⟩) ?_ ?_
            rotate_left
            · simp only [Act.put, nS, i64_w, i32_w]; rfl
            refine pure_ (i := 28) (N := some 32) (v := undef) (a' := ?_) #[Y_, Y_, Y_, Y_, Y_, Y_, Y_, Y_, Y_, Y_, Y_, Y_, Y_, Y_, Y_, Y_, Y_, Y_, Y_, Y_, Y_, Y_, Y_, Y_, Y_, Y_, Y_, Y_, Y_, Z_, Z_, Z_, Z_, Z_, Z_] rfl rfl (any_of HT_.out (by kernel_rfl)) (fun _ _ _ h => h) (Or.inr ⟨by rfl, rfl⟩) ?_ ?_
            rotate_left
            · simp only [Act.put, nS, i64_w, i32_w]; rfl
            refine pure_ (i := 29) (N := some 33) (v := undef) (a' := ?_) #[Y_, Y_, Y_, Y_, Y_, Y_, Y_, Y_, Y_, Y_, Y_, Y_, Y_, Y_, Y_, Y_, Y_, Y_, Y_, Y_, Y_, Y_, Y_, Y_, Y_, Y_, Y_, Y_, Y_, Y_, Z_, Z_, Z_, Z_, Z_] rfl rfl (any_of HT_.out (by kernel_rfl)) (fun _ _ _ h => h) (Or.inr ⟨by rfl, rfl⟩) ?_ ?_
            rotate_left
            · simp only [Act.put, nS, i64_w, i32_w]; rfl
            refine pure_ (i := 30) (N := some 34) (v := undef) (a' := ?_) #[Y_, Y_, Y_, Y_, Y_, Y_, Y_, Y_, Y_, Y_, Y_, Y_, Y_, Y_, Y_, Y_, Y_, Y_, Y_, Y_, Y_, Y_, Y_, Y_, Y_, Y_, Y_, Y_, Y_, Y_, Y_, Z_, Z_, Z_, Z_] rfl rfl (any_of HT_.out (by kernel_rfl)) (fun _ _ _ h => h) (Or.inr ⟨by rfl, rfl⟩) ?_ ?_
            rotate_left
            · simp only [Act.put, nS, i64_w, i32_w]; rfl
            refine pure_ (i := 31) (N := some 35) (v := undef) (a' := ?_) #[Y_, Y_, Y_, Y_, Y_, Y_, Y_, Y_, Y_, Y_, Y_, Y_, Y_, Y_, Y_, Y_, Y_, Y_, Y_, Y_, Y_, Y_, Y_, Y_, Y_, Y_, Y_, Y_, Y_, Y_, Y_, Y_, Z_, Z_, Z_] rfl rfl (any_of HT_.out (by kernel_rfl)) (fun _ _ _ h => h) (Or.inr ⟨by rfl, rfl⟩) ?_ ?_
            rotate_left
            · simp only [Act.put, nS, i64_w, i32_w]; rfl
            refine pure_ (i := 32) (N := some 36) (v := undef) (a' := ?_) #[Y_, Y_, Y_, Y_, Y_, Y_, Y_, Y_, Y_, Y_, Y_, Y_, Y_, Y_, Y_, Y_, Y_, Y_, Y_, Y_, Y_, Y_, Y_, Y_, Y_, Y_, Y_, Y_, Y_, Y_, Y_, Y_, Y_, Z_, Z_] rfl rfl (any_of HT_.out (by kernel_rfl)) (fun _ _ _ h => h) (Or.inr ⟨by rfl, rfl⟩) ?_ ?_
            rotate_left
            · simp only [Act.put, nS, i64_w, i32_w]; rfl
            refine pure_ (i := 33) (N := some 37) (v := ?_) (a' := ?_) #[Y_, Y_, Y_, Y_, Y_, Y_, Y_, Y_, Y_, Y_, Y_, Y_, Y_, Y_, Y_, Y_, Y_, Y_, Y_, Y_, Y_, Y_, Y_, Y_, Y_, Y_, Y_, Y_, Y_, Y_, Y_, Y_, Y_, Y_, Z_] rfl rfl (any_of HT_.out (by kernel_rfl)) (fun _ _ _ h => h) (Or.inl ⟨by rfl, ?_⟩) ?_ ?_
            rotate_left
            · intro w'; go_simp; with_reducible rfl
            rotate_left
            · simp only [Act.put, nS, i64_w, i32_w]; rfl
            refine pure_ (i := 34) (N := some 3) (v := ?_) (a' := ?_) #[Y_, Y_, Y_, Y_, Y_, Y_, Y_, Y_, Y_, Y_, Y_, Y_, Y_, Y_, Y_, Y_, Y_, Y_, Y_, Y_, Y_, Y_, Y_, Y_, Y_, Y_, Y_, Y_, Y_, Y_, Y_, Y_, Y_, Y_, Y_] rfl rfl (any_of HT_.out (by kernel_rfl)) (fun _ _ _ h => h) (Or.inl ⟨by rfl, ?_⟩) ?_ ?_
            rotate_left
            · intro w'; go_simp; with_reducible rfl
            rotate_left
            · simp only [Act.put, nS, i64_w, i32_w]; rfl
            refine done_ (done_of HT_.out (by kernel_rfl)) ?_
            go_wp2
            go_ret
            exact ⟨rfl, HD.out.1⟩
          · have d3 : decide (a0_14 ≥ 512) = false := decide_eq_false e3
            by_cases e4 : a0_4 < 0
            · have d4 : decide (a0_4 < 0) = true := decide_eq_true e4
              rw [checkI, if_pos (by omega)]
              go_wp2
              refine start_ (n := 35) (S := fun w' => w'.cell? ⟨w.heap.size, 0, none⟩ = some (.int .i64 a0_0) ∧ w'.cell? ⟨w.heap.size, 4, none⟩ = some (.int .i64 a0_4) ∧ w'.cell? ⟨w.heap.size, 14, none⟩ = some (.int .i64 a0_14)) (ds := []) #[Z_, Z_, Z_, Z_, Z_, Z_, Z_, Z_, Z_, Z_, Z_, Z_, Z_, Z_, Z_, Z_, Z_, Z_, Z_, Z_, Z_, Z_, Z_, Z_, Z_, Z_, Z_, Z_, Z_, Z_, Z_, Z_, Z_, Z_, Z_] (by kernel_rfl) rfl rfl (chk_cells HD.out) (fun hHeld => ?_)
              refine with_tabW item_check_h.tab1 item_check_h.bits1 (fun HT_ HW_ => ?_)
              refine pure_ (i := 0) (N := some 4) (v := ?_) (a' := ?_) #[Y_, Z_, Z_, Z_, Z_, Z_, Z_, Z_, Z_, Z_, Z_, Z_, Z_, Z_, Z_, Z_, Z_, Z_, Z_, Z_, Z_, Z_, Z_, Z_, Z_, Z_, Z_, Z_, Z_, Z_, Z_, Z_, Z_, Z_, Z_] rfl rfl (any_of HT_.out (by kernel_rfl)) (fun _ _ _ h => h) (Or.inl ⟨by rfl, ?_⟩) ?_ ?_
              rotate_left
              · intro w'; go_simp; with_reducible rfl
              rotate_left
              · simp only [Act.put, nS, i64_w, i32_w]; rfl
              refine take_ (i := 1) (N := some 5) (v := ?_) (a' := ?_) #[Y_, Y_, Z_, Z_, Z_, Z_, Z_, Z_, Z_, Z_, Z_, Z_, Z_, Z_, Z_, Z_, Z_, Z_, Z_, Z_, Z_, Z_, Z_, Z_, Z_, Z_, Z_, Z_, Z_, Z_, Z_, Z_, Z_, Z_, Z_] rfl rfl (take_ofW HT_.out HW_.out (by kernel_rfl)) (fun _ _ _ h => h) (Or.inl ⟨by rfl, ?_⟩) hHeld ?_ ?_
              rotate_left
              · rintro w' ⟨hc0, hc4, hc14⟩
                go_simp
                with_reducible rfl
              rotate_left
              · simp only [Act.put, nS, i64_w, i32_w]; rfl
              refine pure_ (i := 2) (N := some 6) (v := ?_) (a' := ?_) #[Y_, Y_, Y_, Z_, Z_, Z_, Z_, Z_, Z_, Z_, Z_, Z_, Z_, Z_, Z_, Z_, Z_, Z_, Z_, Z_, Z_, Z_, Z_, Z_, Z_, Z_, Z_, Z_, Z_, Z_, Z_, Z_, Z_, Z_, Z_] rfl rfl (any_of HT_.out (by kernel_rfl)) (fun _ _ _ h => h) (Or.inl ⟨by rfl, ?_⟩) ?_ ?_
              rotate_left
              · intro w'; go_simp; with_reducible rfl
              rotate_left
              · simp only [Act.put, nS, i64_w, i32_w]; rfl
              refine pure_ (i := 3) (N := some 7) (v := ?_) (a' := ?_) #[Y_, Y_, Y_, Y_, Z_, Z_, Z_, Z_, Z_, Z_, Z_, Z_, Z_, Z_, Z_, Z_, Z_, Z_, Z_, Z_, Z_, Z_, Z_, Z_, Z_, Z_, Z_, Z_, Z_, Z_, Z_, Z_, Z_, Z_, Z_] rfl rfl (any_of HT_.out (by kernel_rfl)) (fun _ _ _ h => h) (Or.inl ⟨by rfl, ?_⟩) ?_ ?_
              rotate_left
              · intro w'; go_simp; with_reducible rfl
              rotate_left
              · simp only [Act.put, nS, i64_w, i32_w]; rfl
              refine pure_ (i := 4) (N := some 8) (v := ?_) (a' := ?_) #[Y_, Y_, Y_, Y_, Y_, Z_, Z_, Z_, Z_, Z_, Z_, Z_, Z_, Z_, Z_, Z_, Z_, Z_, Z_, Z_, Z_, Z_, Z_, Z_, Z_, Z_, Z_, Z_, Z_, Z_, Z_, Z_, Z_, Z_, Z_] rfl rfl (any_of HT_.out (by kernel_rfl)) (fun _ _ _ h => h) (Or.inl ⟨by rfl, ?_⟩) ?_ ?_
              rotate_left
              · intro w'; go_simp; with_reducible rfl
              rotate_left
              · simp only [Act.put, nS, i64_w, i32_w]; rfl
              refine take_ (i := 5) (N := some 9) (v := ?_) (a' := ?_) #[Y_, Y_, Y_, Y_, Y_, Y_, Z_, Z_, Z_, Z_, Z_, Z_, Z_, Z_, Z_, Z_, Z_, Z_, Z_, Z_, Z_, Z_, Z_, Z_, Z_, Z_, Z_, Z_, Z_, Z_, Z_, Z_, Z_, Z_, Z_] rfl rfl (take_ofW HT_.out HW_.out (by kernel_rfl)) (fun _ _ _ h => h) (Or.inl ⟨by rfl, ?_⟩) hHeld ?_ ?_
              rotate_left
              · rintro w' ⟨hc0, hc4, hc14⟩
                go_simp
                with_reducible rfl
              rotate_left
              · simp only [Act.put, nS, i64_w, i32_w]; rfl
              refine one_ (i := 6) (N := some 10) #[Y_, Y_, Y_, Y_, Y_, Y_, Y_, Z_, Z_, Z_, Z_, Z_, Z_, Z_, Z_, Z_, Z_, Z_, Z_, Z_, Z_, Z_, Z_, Z_, Z_, Z_, Z_, Z_, Z_, Z_, Z_, Z_, Z_, Z_, Z_] rfl rfl (one_of HT_.out (by kernel_rfl)) (by decide) (fun K hK => ?_)
              refine goes_ Tryd.func12 (by kernel_rfl) rfl #[] (by rfl) rfl rfl (by (try simp only [List.map_toArray, List.map_cons, List.map_nil]); first | done | rfl) ?_
              refine (kinds_call _).mono ?_
              rintro e w1 ⟨rfl, hb⟩
              refine ⟨_, rfl, ?_⟩
              have HB1 := Aside0.mk (B1.step HD.out hb)
              clear HD
              have HD := HB1
              clear HB1
              clear hb
              refine hK.out _ _ (chk_cells HD.out) (fun hHeld => ?_)
              clear hK K
              refine norm_ (a' := ?_) ?_ ?_
              rotate_left
              · show Act.put _ (some 10) _ = _
                simp only [Act.put, nS, i64_w, i32_w]
                rfl
              refine pure_ (i := 7) (N := some 11) (v := ?_) (a' := ?_) #[Y_, Y_, Y_, Y_, Y_, Y_, Y_, Y_, Z_, Z_, Z_, Z_, Z_, Z_, Z_, Z_, Z_, Z_, Z_, Z_, Z_, Z_, Z_, Z_, Z_, Z_, Z_, Z_, Z_, Z_, Z_, Z_, Z_, Z_, Z_] rfl rfl (any_of HT_.out (by kernel_rfl)) (fun _ _ _ h => h) (Or.inl ⟨by rfl, ?_⟩) ?_ ?_
              rotate_left
              · intro w'; go_simp; with_reducible rfl
              rotate_left
              · simp only [Act.put, nS, i64_w, i32_w]; rfl
              refine pure_ (i := 8) (N := some 12) (v := ?_) (a' := ?_) #[Y_, Y_, Y_, Y_, Y_, Y_, Y_, Y_, Y_, Z_, Z_, Z_, Z_, Z_, Z_, Z_, Z_, Z_, Z_, Z_, Z_, Z_, Z_, Z_, Z_, Z_, Z_, Z_, Z_, Z_, Z_, Z_, Z_, Z_, Z_] rfl rfl (any_of HT_.out (by kernel_rfl)) (fun _ _ _ h => h) (Or.inl ⟨by rfl, ?_⟩) ?_ ?_
              rotate_left
              · intro w'; go_simp; with_reducible rfl
              rotate_left
              · simp only [Act.put, nS, i64_w, i32_w]; rfl
              refine pure_ (i := 9) (N := some 13) (v := ?_) (a' := ?_) #[Y_, Y_, Y_, Y_, Y_, Y_, Y_, Y_, Y_, Y_, Z_, Z_, Z_, Z_, Z_, Z_, Z_, Z_, Z_, Z_, Z_, Z_, Z_, Z_, Z_, Z_, Z_, Z_, Z_, Z_, Z_, Z_, Z_, Z_, Z_] rfl rfl (any_of HT_.out (by kernel_rfl)) (fun _ _ _ h => h) (Or.inl ⟨by rfl, ?_⟩) ?_ ?_
              rotate_left
              · intro w'; go_simp; with_reducible rfl
              rotate_left
              · simp only [Act.put, nS, i64_w, i32_w]; rfl
              refine pure_ (i := 10) (N := some 14) (v := ?_) (a' := ?_) #[Y_, Y_, Y_, Y_, Y_, Y_, Y_, Y_, Y_, Y_, Y_, Z_, Z_, Z_, Z_, Z_, Z_, Z_, Z_, Z_, Z_, Z_, Z_, Z_, Z_, Z_, Z_, Z_, Z_, Z_, Z_, Z_, Z_, Z_, Z_] rfl rfl (any_of HT_.out (by kernel_rfl)) (fun _ _ _ h => h) (Or.inl ⟨by rfl, ?_⟩) ?_ ?_
              rotate_left
              · intro w'; go_simp; with_reducible rfl
              rotate_left
              · simp only [Act.put, nS, i64_w, i32_w]; rfl
              refine pure_ (i := 11) (N := some 15) (v := ?_) (a' := ?_) #[Y_, Y_, Y_, Y_, Y_, Y_, Y_, Y_, Y_, Y_, Y_, Y_, Z_, Z_, Z_, Z_, Z_, Z_, Z_, Z_, Z_, Z_, Z_, Z_, Z_, Z_, Z_, Z_, Z_, Z_, Z_, Z_, Z_, Z_, Z_] rfl rfl (any_of HT_.out (by kernel_rfl)) (fun _ _ _ h => h) (Or.inl ⟨by rfl, ?_⟩) ?_ ?_
              rotate_left
              · intro w'; go_simp; with_reducible rfl
              rotate_left
              · simp only [Act.put, nS, i64_w, i32_w]; rfl
              refine take_ (i := 12) (N := some 16) (v := ?_) (a' := ?_) #[Y_, Y_, Y_, Y_, Y_, Y_, Y_, Y_, Y_, Y_, Y_, Y_, Y_, Z_, Z_, Z_, Z_, Z_, Z_, Z_, Z_, Z_, Z_, Z_, Z_, Z_, Z_, Z_, Z_, Z_, Z_, Z_, Z_, Z_, Z_] rfl rfl (take_ofW HT_.out HW_.out (by kernel_rfl)) (fun _ _ _ h => h) (Or.inl ⟨by rfl, ?_⟩) hHeld ?_ ?_
              rotate_left
              · rintro w' ⟨hc0, hc4, hc14⟩
                go_simp
                with_reducible rfl
              rotate_left
              · simp only [Act.put, nS, i64_w, i32_w]; rfl
              refine pure_ (i := 13) (N := some 17) (v := ?_) (a' := ?_) #[Y_, Y_, Y_, Y_, Y_, Y_, Y_, Y_, Y_, Y_, Y_, Y_, Y_, Y_, Z_, Z_, Z_, Z_, Z_, Z_, Z_, Z_, Z_, Z_, Z_, Z_, Z_, Z_, Z_, Z_, Z_, Z_, Z_, Z_, Z_] rfl rfl (any_of HT_.out (by kernel_rfl)) (fun _ _ _ h => h) (Or.inl ⟨by rfl, ?_⟩) ?_ ?_
              rotate_left
              · intro w'; go_simp; with_reducible rfl
              rotate_left
              · simp only [Act.put, nS, i64_w, i32_w]; rfl
              refine pure_ (i := 14) (N := some 18) (v := ?_) (a' := ?_) #[Y_, Y_, Y_, Y_, Y_, Y_, Y_, Y_, Y_, Y_, Y_, Y_, Y_, Y_, Y_, Z_, Z_, Z_, Z_, Z_, Z_, Z_, Z_, Z_, Z_, Z_, Z_, Z_, Z_, Z_, Z_, Z_, Z_, Z_, Z_] rfl rfl (any_of HT_.out (by kernel_rfl)) (fun _ _ _ h => h) (Or.inl ⟨by rfl, ?_⟩) ?_ ?_
              rotate_left
              · intro w'; go_simp; with_reducible rfl
              rotate_left
              · simp only [Act.put, nS, i64_w, i32_w]; rfl
              refine pure_ (i := 15) (N := some 19) (v := ?_) (a' := ?_) #[Y_, Y_, Y_, Y_, Y_, Y_, Y_, Y_, Y_, Y_, Y_, Y_, Y_, Y_, Y_, Y_, Z_, Z_, Z_, Z_, Z_, Z_, Z_, Z_, Z_, Z_, Z_, Z_, Z_, Z_, Z_, Z_, Z_, Z_, Z_] rfl rfl (any_of HT_.out (by kernel_rfl)) (fun _ _ _ h => h) (Or.inl ⟨by rfl, ?_⟩) ?_ ?_
              rotate_left
              · intro w'; go_simp; with_reducible rfl
              rotate_left
              · simp only [Act.put, nS, i64_w, i32_w]; rfl
              refine pure_ (i := 16) (N := some 20) (v := ?_) (a' := ?_) #[Y_, Y_, Y_, Y_, Y_, Y_, Y_, Y_, Y_, Y_, Y_, Y_, Y_, Y_, Y_, Y_, Y_, Z_, Z_, Z_, Z_, Z_, Z_, Z_, Z_, Z_, Z_, Z_, Z_, Z_, Z_, Z_, Z_, Z_, Z_] rfl rfl (any_of HT_.out (by kernel_rfl)) (fun _ _ _ h => h) (Or.inl ⟨by rfl, ?_⟩) ?_ ?_
              rotate_left
              · intro w'; go_simp; with_reducible rfl
              rotate_left
              · simp only [Act.put, nS, i64_w, i32_w]; rfl
              refine take_ (i := 17) (N := some 21) (v := ?_) (a' := ?_) #[Y_, Y_, Y_, Y_, Y_, Y_, Y_, Y_, Y_, Y_, Y_, Y_, Y_, Y_, Y_, Y_, Y_, Y_, Z_, Z_, Z_, Z_, Z_, Z_, Z_, Z_, Z_, Z_, Z_, Z_, Z_, Z_, Z_, Z_, Z_] rfl rfl (take_ofW HT_.out HW_.out (by kernel_rfl)) (fun _ _ _ h => h) (Or.inl ⟨by rfl, ?_⟩) hHeld ?_ ?_
              rotate_left
              · rintro w' ⟨hc0, hc4, hc14⟩
                go_simp
                with_reducible rfl
              rotate_left
              · simp only [Act.put, nS, i64_w, i32_w]; rfl
              refine pure_ (i := 18) (N := some 22) (v := ?_) (a' := ?_) #[Y_, Y_, Y_, Y_, Y_, Y_, Y_, Y_, Y_, Y_, Y_, Y_, Y_, Y_, Y_, Y_, Y_, Y_, Y_, Z_, Z_, Z_, Z_, Z_, Z_, Z_, Z_, Z_, Z_, Z_, Z_, Z_, Z_, Z_, Z_] rfl rfl (any_of HT_.out (by kernel_rfl)) (fun _ _ _ h => h) (Or.inl ⟨by rfl, ?_⟩) ?_ ?_
              rotate_left
              · intro w'; go_simp; with_reducible rfl
              rotate_left
              · simp only [Act.put, nS, i64_w, i32_w]; rfl
              refine pure_ (i := 19) (N := some 23) (v := ?_) (a' := ?_) #[Y_, Y_, Y_, Y_, Y_, Y_, Y_, Y_, Y_, Y_, Y_, Y_, Y_, Y_, Y_, Y_, Y_, Y_, Y_, Y_, Z_, Z_, Z_, Z_, Z_, Z_, Z_, Z_, Z_, Z_, Z_, Z_, Z_, Z_, Z_] rfl rfl (any_of HT_.out (by kernel_rfl)) (fun _ _ _ h => h) (Or.inl ⟨by rfl, ?_⟩) ?_ ?_
              rotate_left
              · intro w'; go_simp; with_reducible rfl
              rotate_left
              · simp only [Act.put, nS, i64_w, i32_w]; rfl
              refine pure_ (i := 20) (N := some 24) (v := ?_) (a' := ?_) #[Y_, Y_, Y_, Y_, Y_, Y_, Y_, Y_, Y_, Y_, Y_, Y_, Y_, Y_, Y_, Y_, Y_, Y_, Y_, Y_, Y_, Z_, Z_, Z_, Z_, Z_, Z_, Z_, Z_, Z_, Z_, Z_, Z_, Z_, Z_] rfl rfl (any_of HT_.out (by kernel_rfl)) (fun _ _ _ h => h) (Or.inl ⟨by rfl, ?_⟩) ?_ ?_
              rotate_left
              · intro w'; go_simp; with_reducible rfl
              rotate_left
              · simp only [Act.put, nS, i64_w, i32_w]; rfl
              refine pure_ (i := 21) (N := some 25) (v := ?_) (a' := ?_) #[Y_, Y_, Y_, Y_, Y_, Y_, Y_, Y_, Y_, Y_, Y_, Y_, Y_, Y_, Y_, Y_, Y_, Y_, Y_, Y_, Y_, Y_, Z_, Z_, Z_, Z_, Z_, Z_, Z_, Z_, Z_, Z_, Z_, Z_, Z_] rfl rfl (any_of HT_.out (by kernel_rfl)) (fun _ _ _ h => h) (Or.inl ⟨by rfl, ?_⟩) ?_ ?_
              rotate_left
              · intro w'; go_simp; with_reducible rfl
              rotate_left
              · simp only [Act.put, nS, i64_w, i32_w]; rfl
              refine pure_ (i := 22) (N := some 26) (v := ?_) (a' := ?_) #[Y_, Y_, Y_, Y_, Y_, Y_, Y_, Y_, Y_, Y_, Y_, Y_, Y_, Y_, Y_, Y_, Y_, Y_, Y_, Y_, Y_, Y_, Y_, Z_, Z_, Z_, Z_, Z_, Z_, Z_, Z_, Z_, Z_, Z_, Z_] rfl rfl (any_of HT_.out (by kernel_rfl)) (fun _ _ _ h => h) (Or.inl ⟨by rfl, ?_⟩) ?_ ?_
              rotate_left
              · intro w'; go_simp; with_reducible rfl
              rotate_left
              · simp only [Act.put, nS, i64_w, i32_w]; rfl
              refine take_ (i := 23) (N := some 27) (v := ?_) (a' := ?_) #[Y_, Y_, Y_, Y_, Y_, Y_, Y_, Y_, Y_, Y_, Y_, Y_, Y_, Y_, Y_, Y_, Y_, Y_, Y_, Y_, Y_, Y_, Y_, Y_, Z_, Z_, Z_, Z_, Z_, Z_, Z_, Z_, Z_, Z_, Z_] rfl rfl (take_ofW HT_.out HW_.out (by kernel_rfl)) (fun _ _ _ h => h) (Or.inl ⟨by rfl, ?_⟩) hHeld ?_ ?_
              rotate_left
              · rintro w' ⟨hc0, hc4, hc14⟩
                go_simp
                with_reducible rfl
              rotate_left
              · simp only [Act.put, nS, i64_w, i32_w]; rfl
              refine pure_ (i := 24) (N := some 28) (v := ?_) (a' := ?_) #[Y_, Y_, Y_, Y_, Y_, Y_, Y_, Y_, Y_, Y_, Y_, Y_, Y_, Y_, Y_, Y_, Y_, Y_, Y_, Y_, Y_, Y_, Y_, Y_, Y_, Z_, Z_, Z_, Z_, Z_, Z_, Z_, Z_, Z_, Z_] rfl rfl (any_of HT_.out (by kernel_rfl)) (fun _ _ _ h => h) (Or.inl ⟨by rfl, ?_⟩) ?_ ?_
              rotate_left
              · intro w'; go_simp; with_reducible rfl
              rotate_left
              · simp only [Act.put, nS, i64_w, i32_w]; rfl
              refine pure_ (i := 25) (N := some 29) (v := ?_) (a' := ?_) #[Y_, Y_, Y_, Y_, Y_, Y_, Y_, Y_, Y_, Y_, Y_, Y_, Y_, Y_, Y_, Y_, Y_, Y_, Y_, Y_, Y_, Y_, Y_, Y_, Y_, Y_, Z_, Z_, Z_, Z_, Z_, Z_, Z_, Z_, Z_] rfl rfl (any_of HT_.out (by kernel_rfl)) (fun _ _ _ h => h) (Or.inl ⟨by rfl, ?_⟩) ?_ ?_
              rotate_left
              · intro w'; go_simp; with_reducible rfl
              rotate_left
              · simp only [Act.put, nS, i64_w, i32_w]; rfl
              refine pure_ (i := 26) (N := some 30) (v := ?_) (a' := ?_) #[Y_, Y_, Y_, Y_, Y_, Y_, Y_, Y_, Y_, Y_, Y_, Y_, Y_, Y_, Y_, Y_, Y_, Y_, Y_, Y_, Y_, Y_, Y_, Y_, Y_, Y_, Y_, Z_, Z_, Z_, Z_, Z_, Z_, Z_, Z_] rfl rfl (any_of HT_.out (by kernel_rfl)) (fun _ _ _ h => h) (Or.inl ⟨by rfl, ?_⟩) ?_ ?_
              rotate_left
              · intro w'; go_simp; with_reducible rfl
              rotate_left
              · simp only [Act.put, nS, i64_w, i32_w]; rfl
              refine pure_ (i := 27) (N := some 31) (v := undef) (a' := ?_) #[Y_, Y_, Y_, Y_, Y_, Y_, Y_, Y_, Y_, Y_, Y_, Y_, Y_, Y_, Y_, Y_, Y_, Y_, Y_, Y_, Y_, Y_, Y_, Y_, Y_, Y_, Y_, Y_, Z_, Z_, Z_, Z_, Z_, Z_, Z_] rfl rfl (any_of HT_.out (by kernel_rfl)) (fun _ _ _ h => h) (Or.inr ⟨by rfl, rfl⟩) ?_ ?_
              rotate_left
              · simp only [Act.put, nS, i64_w, i32_w]; rfl
              refine pure_ (i := 28) (N := some 32) (v := undef) (a' := ?_) #[Y_, Y_, Y_, Y_, Y_, Y_, Y_, Y_, Y_, Y_, Y_, Y_, Y_, Y_, Y_, Y_, Y_, Y_, Y_, Y_, Y_, Y_, Y_, Y_, Y_, Y_, Y_, Y_, Y_, Z_, Z_, Z_, Z_, Z_, Z_] rfl rfl (any_of HT_.out (by kernel_rfl)) (fun _ _ _ h => h) (Or.inr ⟨by rfl, rfl⟩) ?_ ?_
              rotate_left
              · simp only [Act.put, nS, i64_w, i32_w]; rfl
              refine pure_ (i := 29) (N := some 33) (v := undef) (a' := ?_) #[Y_, Y_, Y_, Y_, Y_, Y_, Y_, Y_, Y_, Y_, Y_, Y_, Y_, Y_, Y_, Y_, Y_, Y_, Y_, Y_, Y_, Y_, Y_, Y_, Y_, Y_, Y_, Y_, Y_, Y_, Z_, Z_, Z_, Z_, Z_] rfl rfl (any_of HT_.out (by kernel_rfl)) (fun _ _ _ h => h) (Or.inr ⟨by rfl, rfl⟩) ?_ ?_
              rotate_left
              · simp only [Act.put, nS, i64_w, i32_w]; rfl
              refine pure_ (i := 30) (N := some 34) (v := undef) (a' := ?_) #[Y_, Y_, Y_, Y_, Y_, Y_, Y_, Y_, Y_, Y_, Y_, Y_, Y_, Y_, Y_, Y_, Y_, Y_, Y_, Y_, Y_, Y_, Y_, Y_, Y_, Y_, Y_, Y_, Y_, Y_, Y_, Z_, Z_, Z_, Z_] rfl rfl (any_of HT_.out (by kernel_rfl)) (fun _ _ _ h => h) (Or.inr ⟨by rfl, rfl⟩) ?_ ?_
              rotate_left
              · simp only [Act.put, nS, i64_w, i32_w]; rfl
              refine pure_ (i := 31) (N := some 35) (v := undef) (a' := ?_) #[Y_, Y_, Y_, Y_, Y_, Y_, Y_, Y_, Y_, Y_, Y_, Y_, Y_, Y_, Y_, Y_, Y_, Y_, Y_, Y_, Y_, Y_, Y_, Y_, Y_, Y_, Y_, Y_, Y_, Y_, Y_, Y_, Z_, Z_, Z_] rfl rfl (any_of HT_.out (by kernel_rfl)) (fun _ _ _ h => h) (Or.inr ⟨by rfl, rfl⟩) ?_ ?_
              rotate_left
              · simp only [Act.put, nS, i64_w, i32_w]; rfl
              refine pure_ (i := 32) (N := some 36) (v := undef) (a' := ?_) #[Y_, Y_, Y_, Y_, Y_, Y_, Y_, Y_, Y_, Y_, Y_, Y_, Y_, Y_, Y_, Y_, Y_, Y_, Y_, Y_, Y_, Y_, Y_, Y_, Y_, Y_, Y_, Y_, Y_, Y_, Y_, Y_, Y_, Z_, Z_] rfl rfl (any_of HT_.out (by kernel_rfl)) (fun _ _ _ h => h) (Or.inr ⟨by rfl, rfl⟩) ?_ ?_
              rotate_left
              · simp only [Act.put, nS, i64_w, i32_w]; rfl
              refine pure_ (i := 33) (N := some 37) (v := ?_) (a' := ?_) #[Y_, Y_, Y_, Y_, Y_, Y_, Y_, Y_, Y_, Y_, Y_, Y_, Y_, Y_, Y_, Y_, Y_, Y_, Y_, Y_, Y_, Y_, Y_, Y_, Y_, Y_, Y_, Y_, Y_, Y_, Y_, Y_, Y_, Y_, Z_] rfl rfl (any_of HT_.out (by kernel_rfl)) (fun _ _ _ h => h) (Or.inl ⟨by rfl, ?_⟩) ?_ ?_
              rotate_left
              · intro w'; go_simp; with_reducible rfl
              rotate_left
              · simp only [Act.put, nS, i64_w, i32_w]; rfl
              refine pure_ (i := 34) (N := some 3) (v := ?_) (a' := ?_) #[Y_, Y_, Y_, Y_, Y_, Y_, Y_, Y_, Y_, Y_, Y_, Y_, Y_, Y_, Y_, Y_, Y_, Y_, Y_, Y_, Y_, Y_, Y_, Y_, Y_, Y_, Y_, Y_, Y_, Y_, Y_, Y_, Y_, Y_, Y_] rfl rfl (any_of HT_.out (by kernel_rfl)) (fun _ _ _ h => h) (Or.inl ⟨by rfl, ?_⟩) ?_ ?_
              rotate_left
              · intro w'; go_simp; with_reducible rfl
              rotate_left
              · simp only [Act.put, nS, i64_w, i32_w]; rfl
              refine done_ (done_of HT_.out (by kernel_rfl)) ?_
              go_wp2
              go_ret
              exact ⟨rfl, HD.out.1⟩
            · have d4 : decide (a0_4 < 0) = false := decide_eq_false e4
              by_cases e5 : a0_4 ≥ 4
              · have d5 : decide (a0_4 ≥ 4) = true := decide_eq_true e5
                rw [checkI, if_pos (by omega)]
                go_wp2
                refine start_ (n := 35) (S := fun w' => w'.cell? ⟨w.heap.size, 0, none⟩ = some (.int .i64 a0_0) ∧ w'.cell? ⟨w.heap.size, 4, none⟩ = some (.int .i64 a0_4) ∧ w'.cell? ⟨w.heap.size, 14, none⟩ = some (.int .i64 a0_14)) (ds := []) #[Z_, Z_, Z_, Z_, Z_, Z_, Z_, Z_, Z_, Z_, Z_, Z_, Z_, Z_, Z_, Z_, Z_, Z_, Z_, Z_, Z_, Z_, Z_, Z_, Z_, Z_, Z_, Z_, Z_, Z_, Z_, Z_, Z_, Z_, Z_] (by kernel_rfl) rfl rfl (chk_cells HD.out) (fun hHeld => ?_)
                refine with_tabW item_check_h.tab1 item_check_h.bits1 (fun HT_ HW_ => ?_)
                refine pure_ (i := 0) (N := some 4) (v := ?_) (a' := ?_) #[Y_, Z_, Z_, Z_, Z_, Z_, Z_, Z_, Z_, Z_, Z_, Z_, Z_, Z_, Z_, Z_, Z_, Z_, Z_, Z_, Z_, Z_, Z_, Z_, Z_, Z_, Z_, Z_, Z_, Z_, Z_, Z_, Z_, Z_, Z_] rfl rfl (any_of HT_.out (by kernel_rfl)) (fun _ _ _ h => h) (Or.inl ⟨by rfl, ?_⟩) ?_ ?_
                rotate_left
                · intro w'; go_simp; with_reducible rfl
                rotate_left
                · simp only [Act.put, nS, i64_w, i32_w]; rfl
                refine take_ (i := 1) (N := some 5) (v := ?_) (a' := ?_) #[Y_, Y_, Z_, Z_, Z_, Z_, Z_, Z_, Z_, Z_, Z_, Z_, Z_, Z_, Z_, Z_, Z_, Z_, Z_, Z_, Z_, Z_, Z_, Z_, Z_, Z_, Z_, Z_, Z_, Z_, Z_, Z_, Z_, Z_, Z_] rfl rfl (take_ofW HT_.out HW_.out (by kernel_rfl)) (fun _ _ _ h => h) (Or.inl ⟨by rfl, ?_⟩) hHeld ?_ ?_
                rotate_left
                · rintro w' ⟨hc0, hc4, hc14⟩
                  go_simp
                  with_reducible rfl
                rotate_left
                · simp only [Act.put, nS, i64_w, i32_w]; rfl
                refine pure_ (i := 2) (N := some 6) (v := ?_) (a' := ?_) #[Y_, Y_, Y_, Z_, Z_, Z_, Z_, Z_, Z_, Z_, Z_, Z_, Z_, Z_, Z_, Z_, Z_, Z_, Z_, Z_, Z_, Z_, Z_, Z_, Z_, Z_, Z_, Z_, Z_, Z_, Z_, Z_, Z_, Z_, Z_] rfl rfl (any_of HT_.out (by kernel_rfl)) (fun _ _ _ h => h) (Or.inl ⟨by rfl, ?_⟩) ?_ ?_
                rotate_left
                · intro w'; go_simp; with_reducible rfl
                rotate_left
                · simp only [Act.put, nS, i64_w, i32_w]; rfl
                refine pure_ (i := 3) (N := some 7) (v := ?_) (a' := ?_) #[Y_, Y_, Y_, Y_, Z_, Z_, Z_, Z_, Z_, Z_, Z_, Z_, Z_, Z_, Z_, Z_, Z_, Z_, Z_, Z_, Z_, Z_, Z_, Z_, Z_, Z_, Z_, Z_, Z_, Z_, Z_, Z_, Z_, Z_, Z_] rfl rfl (any_of HT_.out (by kernel_rfl)) (fun _ _ _ h => h) (Or.inl ⟨by rfl, ?_⟩) ?_ ?_
                rotate_left
                · intro w'; go_simp; with_reducible rfl
                rotate_left
                · simp only [Act.put, nS, i64_w, i32_w]; rfl
                refine pure_ (i := 4) (N := some 8) (v := ?_) (a' := ?_) #[Y_, Y_, Y_, Y_, Y_, Z_, Z_, Z_, Z_, Z_, Z_, Z_, Z_, Z_, Z_, Z_, Z_, Z_, Z_, Z_, Z_, Z_, Z_, Z_, Z_, Z_, Z_, Z_, Z_, Z_, Z_, Z_, Z_, Z_, Z_] rfl rfl (any_of HT_.out (by kernel_rfl)) (fun _ _ _ h => h) (Or.inl ⟨by rfl, ?_⟩) ?_ ?_
                rotate_left
                · intro w'; go_simp; with_reducible rfl
                rotate_left
                · simp only [Act.put, nS, i64_w, i32_w]; rfl
                refine take_ (i := 5) (N := some 9) (v := ?_) (a' := ?_) #[Y_, Y_, Y_, Y_, Y_, Y_, Z_, Z_, Z_, Z_, Z_, Z_, Z_, Z_, Z_, Z_, Z_, Z_, Z_, Z_, Z_, Z_, Z_, Z_, Z_, Z_, Z_, Z_, Z_, Z_, Z_, Z_, Z_, Z_, Z_] rfl rfl (take_ofW HT_.out HW_.out (by kernel_rfl)) (fun _ _ _ h => h) (Or.inl ⟨by rfl, ?_⟩) hHeld ?_ ?_
                rotate_left
                · rintro w' ⟨hc0, hc4, hc14⟩
                  go_simp
                  with_reducible rfl
                rotate_left
                · simp only [Act.put, nS, i64_w, i32_w]; rfl
                refine one_ (i := 6) (N := some 10) #[Y_, Y_, Y_, Y_, Y_, Y_, Y_, Z_, Z_, Z_, Z_, Z_, Z_, Z_, Z_, Z_, Z_, Z_, Z_, Z_, Z_, Z_, Z_, Z_, Z_, Z_, Z_, Z_, Z_, Z_, Z_, Z_, Z_, Z_, Z_] rfl rfl (one_of HT_.out (by kernel_rfl)) (by decide) (fun K hK => ?_)
                refine goes_ Tryd.func12 (by kernel_rfl) rfl #[] (by rfl) rfl rfl (by (try simp only [List.map_toArray, List.map_cons, List.map_nil]); first | done | rfl) ?_
                refine (kinds_call _).mono ?_
                rintro e w1 ⟨rfl, hb⟩
                refine ⟨_, rfl, ?_⟩
                have HB1 := Aside0.mk (B1.step HD.out hb)
                clear HD
                have HD := HB1
                clear HB1
                clear hb
                refine hK.out _ _ (chk_cells HD.out) (fun hHeld => ?_)
                clear hK K
                refine norm_ (a' := ?_) ?_ ?_
                rotate_left
                · show Act.put _ (some 10) _ = _
                  simp only [Act.put, nS, i64_w, i32_w]
                  rfl
                refine pure_ (i := 7) (N := some 11) (v := ?_) (a' := ?_) #[Y_, Y_, Y_, Y_, Y_, Y_, Y_, Y_, Z_, Z_, Z_, Z_, Z_, Z_, Z_, Z_, Z_, Z_, Z_, Z_, Z_, Z_, Z_, Z_, Z_, Z_, Z_, Z_, Z_, Z_, Z_, Z_, Z_, Z_, Z_] rfl rfl (any_of HT_.out (by kernel_rfl)) (fun _ _ _ h => h) (Or.inl ⟨by rfl, ?_⟩) ?_ ?_
                rotate_left
                · intro w'; go_simp; with_reducible rfl
                rotate_left
                · simp only [Act.put, nS, i64_w, i32_w]; rfl
                refine pure_ (i := 8) (N := some 12) (v := ?_) (a' := ?_) #[Y_, Y_, Y_, Y_, Y_, Y_, Y_, Y_, Y_, Z_, Z_, Z_, Z_, Z_, Z_, Z_, Z_, Z_, Z_, Z_, Z_, Z_, Z_, Z_, Z_, Z_, Z_, Z_, Z_, Z_, Z_, Z_, Z_, Z_, Z_] rfl rfl (any_of HT_.out (by kernel_rfl)) (fun _ _ _ h => h) (Or.inl ⟨by rfl, ?_⟩) ?_ ?_
                rotate_left
                · intro w'; go_simp; with_reducible rfl
                rotate_left
                · simp only [Act.put, nS, i64_w, i32_w]; rfl
                refine pure_ (i := 9) (N := some 13) (v := ?_) (a' := ?_) #[Y_, Y_, Y_, Y_, Y_, Y_, Y_, Y_, Y_, Y_, Z_, Z_, Z_, Z_, Z_, Z_, Z_, Z_, Z_, Z_, Z_, Z_, Z_, Z_, Z_, Z_, Z_, Z_, Z_, Z_, Z_, Z_, Z_, Z_, Z_] rfl rfl (any_of HT_.out (by kernel_rfl)) (fun _ _ _ h => h) (Or.inl ⟨by rfl, ?_⟩) ?_ ?_
                rotate_left
                · intro w'; go_simp; with_reducible rfl
                rotate_left
                · simp only [Act.put, nS, i64_w, i32_w]; rfl
                refine pure_ (i := 10) (N := some 14) (v := ?_) (a' := ?_) #[Y_, Y_, Y_, Y_, Y_, Y_, Y_, Y_, Y_, Y_, Y_, Z_, Z_, Z_, Z_, Z_, Z_, Z_, Z_, Z_, Z_, Z_, Z_, Z_, Z_, Z_, Z_, Z_, Z_, Z_, Z_, Z_, Z_, Z_, Z_] rfl rfl (any_of HT_.out (by kernel_rfl)) (fun _ _ _ h => h) (Or.inl ⟨by rfl, ?_⟩) ?_ ?_
                rotate_left
                · intro w'; go_simp; with_reducible rfl
                rotate_left
                · simp only [Act.put, nS, i64_w, i32_w]; rfl
                refine pure_ (i := 11) (N := some 15) (v := ?_) (a' := ?_) #[Y_, Y_, Y_, Y_, Y_, Y_, Y_, Y_, Y_, Y_, Y_, Y_, Z_, Z_, Z_, Z_, Z_, Z_, Z_, Z_, Z_, Z_, Z_, Z_, Z_, Z_, Z_, Z_, Z_, Z_, Z_, Z_, Z_, Z_, Z_] rfl rfl (any_of HT_.out (by kernel_rfl)) (fun _ _ _ h => h) (Or.inl ⟨by rfl, ?_⟩) ?_ ?_
                rotate_left
                · intro w'; go_simp; with_reducible rfl
                rotate_left
                · simp only [Act.put, nS, i64_w, i32_w]; rfl
                refine take_ (i := 12) (N := some 16) (v := ?_) (a' := ?_) #[Y_, Y_, Y_, Y_, Y_, Y_, Y_, Y_, Y_, Y_, Y_, Y_, Y_, Z_, Z_, Z_, Z_, Z_, Z_, Z_, Z_, Z_, Z_, Z_, Z_, Z_, Z_, Z_, Z_, Z_, Z_, Z_, Z_, Z_, Z_] rfl rfl (take_ofW HT_.out HW_.out (by kernel_rfl)) (fun _ _ _ h => h) (Or.inl ⟨by rfl, ?_⟩) hHeld ?_ ?_
                rotate_left
                · rintro w' ⟨hc0, hc4, hc14⟩
                  go_simp
                  with_reducible rfl
                rotate_left
                · simp only [Act.put, nS, i64_w, i32_w]; rfl
                refine pure_ (i := 13) (N := some 17) (v := ?_) (a' := ?_) #[Y_, Y_, Y_, Y_, Y_, Y_, Y_, Y_, Y_, Y_, Y_, Y_, Y_, Y_, Z_, Z_, Z_, Z_, Z_, Z_, Z_, Z_, Z_, Z_, Z_, Z_, Z_, Z_, Z_, Z_, Z_, Z_, Z_, Z_, Z_] rfl rfl (any_of HT_.out (by kernel_rfl)) (fun _ _ _ h => h) (Or.inl ⟨by rfl, ?_⟩) ?_ ?_
                rotate_left
                · intro w'; go_simp; with_reducible rfl
                rotate_left
                · simp only [Act.put, nS, i64_w, i32_w]; rfl
                refine pure_ (i := 14) (N := some 18) (v := ?_) (a' := ?_) #[Y_, Y_, Y_, Y_, Y_, Y_, Y_, Y_, Y_, Y_, Y_, Y_, Y_, Y_, Y_, Z_, Z_, Z_, Z_, Z_, Z_, Z_, Z_, Z_, Z_, Z_, Z_, Z_, Z_, Z_, Z_, Z_, Z_, Z_, Z_] rfl rfl (any_of HT_.out (by kernel_rfl)) (fun _ _ _ h => h) (Or.inl ⟨by rfl, ?_⟩) ?_ ?_
                rotate_left
                · intro w'; go_simp; with_reducible rfl
                rotate_left
                · simp only [Act.put, nS, i64_w, i32_w]; rfl
                refine pure_ (i := 15) (N := some 19) (v := ?_) (a' := ?_) #[Y_, Y_, Y_, Y_, Y_, Y_, Y_, Y_, Y_, Y_, Y_, Y_, Y_, Y_, Y_, Y_, Z_, Z_, Z_, Z_, Z_, Z_, Z_, Z_, Z_, Z_, Z_, Z_, Z_, Z_, Z_, Z_, Z_, Z_, Z_] rfl rfl (any_of HT_.out (by kernel_rfl)) (fun _ _ _ h => h) (Or.inl ⟨by rfl, ?_⟩) ?_ ?_
                rotate_left
                · intro w'; go_simp; with_reducible rfl
                rotate_left
                · simp only [Act.put, nS, i64_w, i32_w]; rfl
                refine pure_ (i := 16) (N := some 20) (v := ?_) (a' := ?_) #[Y_, Y_, Y_, Y_, Y_, Y_, Y_, Y_, Y_, Y_, Y_, Y_, Y_, Y_, Y_, Y_, Y_, Z_, Z_, Z_, Z_, Z_, Z_, Z_, Z_, Z_, Z_, Z_, Z_, Z_, Z_, Z_, Z_, Z_, Z_] rfl rfl (any_of HT_.out (by kernel_rfl)) (fun _ _ _ h => h) (Or.inl ⟨by rfl, ?_⟩) ?_ ?_
                rotate_left
                · intro w'; go_simp; with_reducible rfl
                rotate_left
                · simp only [Act.put, nS, i64_w, i32_w]; rfl
                refine take_ (i := 17) (N := some 21) (v := ?_) (a' := ?_) #[Y_, Y_, Y_, Y_, Y_, Y_, Y_, Y_, Y_, Y_, Y_, Y_, Y_, Y_, Y_, Y_, Y_, Y_, Z_, Z_, Z_, Z_, Z_, Z_, Z_, Z_, Z_, Z_, Z_, Z_, Z_, Z_, Z_, Z_, Z_] rfl rfl (take_ofW HT_.out HW_.out (by kernel_rfl)) (fun _ _ _ h => h) (Or.inl ⟨by rfl, ?_⟩) hHeld ?_ ?_
                rotate_left
                · rintro w' ⟨hc0, hc4, hc14⟩
                  go_simp
                  with_reducible rfl
                rotate_left
                · simp only [Act.put, nS, i64_w, i32_w]; rfl
                refine pure_ (i := 18) (N := some 22) (v := ?_) (a' := ?_) #[Y_, Y_, Y_, Y_, Y_, Y_, Y_, Y_, Y_, Y_, Y_, Y_, Y_, Y_, Y_, Y_, Y_, Y_, Y_, Z_, Z_, Z_, Z_, Z_, Z_, Z_, Z_, Z_, Z_, Z_, Z_, Z_, Z_, Z_, Z_] rfl rfl (any_of HT_.out (by kernel_rfl)) (fun _ _ _ h => h) (Or.inl ⟨by rfl, ?_⟩) ?_ ?_
                rotate_left
                · intro w'; go_simp; with_reducible rfl
                rotate_left
                · simp only [Act.put, nS, i64_w, i32_w]; rfl
                refine pure_ (i := 19) (N := some 23) (v := ?_) (a' := ?_) #[Y_, Y_, Y_, Y_, Y_, Y_, Y_, Y_, Y_, Y_, Y_, Y_, Y_, Y_, Y_, Y_, Y_, Y_, Y_, Y_, Z_, Z_, Z_, Z_, Z_, Z_, Z_, Z_, Z_, Z_, Z_, Z_, Z_, Z_, Z_] rfl rfl (any_of HT_.out (by kernel_rfl)) (fun _ _ _ h => h) (Or.inl ⟨by rfl, ?_⟩) ?_ ?_
                rotate_left
                · intro w'; go_simp; with_reducible rfl
                rotate_left
                · simp only [Act.put, nS, i64_w, i32_w]; rfl
                refine pure_ (i := 20) (N := some 24) (v := ?_) (a' := ?_) #[Y_, Y_, Y_, Y_, Y_, Y_, Y_, Y_, Y_, Y_, Y_, Y_, Y_, Y_, Y_, Y_, Y_, Y_, Y_, Y_, Y_, Z_, Z_, Z_, Z_, Z_, Z_, Z_, Z_, Z_, Z_, Z_, Z_, Z_, Z_] rfl rfl (any_of HT_.out (by kernel_rfl)) (fun _ _ _ h => h) (Or.inl ⟨by rfl, ?_⟩) ?_ ?_
                rotate_left
                · intro w'; go_simp; with_reducible rfl
                rotate_left
                · simp only [Act.put, nS, i64_w, i32_w]; rfl
                refine pure_ (i := 21) (N := some 25) (v := ?_) (a' := ?_) #[Y_, Y_, Y_, Y_, Y_, Y_, Y_, Y_, Y_, Y_, Y_, Y_, Y_, Y_, Y_, Y_, Y_, Y_, Y_, Y_, Y_, Y_, Z_, Z_, Z_, Z_, Z_, Z_, Z_, Z_, Z_, Z_, Z_, Z_, Z_] rfl rfl (any_of HT_.out (by kernel_rfl)) (fun _ _ _ h => h) (Or.inl ⟨by rfl, ?_⟩) ?_ ?_
                rotate_left
                · intro w'; go_simp; with_reducible rfl
                rotate_left
                · simp only [Act.put, nS, i64_w, i32_w]; rfl
                refine pure_ (i := 22) (N := some 26) (v := ?_) (a' := ?_) #[Y_, Y_, Y_, Y_, Y_, Y_, Y_, Y_, Y_, Y_, Y_, Y_, Y_, Y_, Y_, Y_, Y_, Y_, Y_, Y_, Y_, Y_, Y_, Z_, Z_, Z_, Z_, Z_, Z_, Z_, Z_, Z_, Z_, Z_, Z_] rfl rfl (any_of HT_.out (by kernel_rfl)) (fun _ _ _ h => h) (Or.inl ⟨by rfl, ?_⟩) ?_ ?_
                rotate_left
                · intro w'; go_simp; with_reducible rfl
                rotate_left
                · simp only [Act.put, nS, i64_w, i32_w]; rfl
                refine take_ (i := 23) (N := some 27) (v := ?_) (a' := ?_) #[Y_, Y_, Y_, Y_, Y_, Y_, Y_, Y_, Y_, Y_, Y_, Y_, Y_, Y_, Y_, Y_, Y_, Y_, Y_, Y_, Y_, Y_, Y_, Y_, Z_, Z_, Z_, Z_, Z_, Z_, Z_, Z_, Z_, Z_, Z_] rfl rfl (take_ofW HT_.out HW_.out (by kernel_rfl)) (fun _ _ _ h => h) (Or.inl ⟨by rfl, ?_⟩) hHeld ?_ ?_
                rotate_left
                · rintro w' ⟨hc0, hc4, hc14⟩
                  go_simp
                  with_reducible rfl
                rotate_left
                · simp only [Act.put, nS, i64_w, i32_w]; rfl
                refine pure_ (i := 24) (N := some 28) (v := ?_) (a' := ?_) #[Y_, Y_, Y_, Y_, Y_, Y_, Y_, Y_, Y_, Y_, Y_, Y_, Y_, Y_, Y_, Y_, Y_, Y_, Y_, Y_, Y_, Y_, Y_, Y_, Y_, Z_, Z_, Z_, Z_, Z_, Z_, Z_, Z_, Z_, Z_] rfl rfl (any_of HT_.out (by kernel_rfl)) (fun _ _ _ h => h) (Or.inl ⟨by rfl, ?_⟩) ?_ ?_
                rotate_left
                · intro w'; go_simp; with_reducible rfl
                rotate_left
                · simp only [Act.put, nS, i64_w, i32_w]; rfl
                refine pure_ (i := 25) (N := some 29) (v := ?_) (a' := ?_) #[Y_, Y_, Y_, Y_, Y_, Y_, Y_, Y_, Y_, Y_, Y_, Y_, Y_, Y_, Y_, Y_, Y_, Y_, Y_, Y_, Y_, Y_, Y_, Y_, Y_, Y_, Z_, Z_, Z_, Z_, Z_, Z_, Z_, Z_, Z_] rfl rfl (any_of HT_.out (by kernel_rfl)) (fun _ _ _ h => h) (Or.inl ⟨by rfl, ?_⟩) ?_ ?_
                rotate_left
                · intro w'; go_simp; with_reducible rfl
                rotate_left
                · simp only [Act.put, nS, i64_w, i32_w]; rfl
                refine pure_ (i := 26) (N := some 30) (v := ?_) (a' := ?_) #[Y_, Y_, Y_, Y_, Y_, Y_, Y_, Y_, Y_, Y_, Y_, Y_, Y_, Y_, Y_, Y_, Y_, Y_, Y_, Y_, Y_, Y_, Y_, Y_, Y_, Y_, Y_, Z_, Z_, Z_, Z_, Z_, Z_, Z_, Z_] rfl rfl (any_of HT_.out (by kernel_rfl)) (fun _ _ _ h => h) (Or.inl ⟨by rfl, ?_⟩) ?_ ?_
                rotate_left
                · intro w'; go_simp; with_reducible rfl
                rotate_left
                · simp only [Act.put, nS, i64_w, i32_w]; rfl
                refine pure_ (i := 27) (N := some 31) (v := ?_) (a' := ?_) #[Y_, Y_, Y_, Y_, Y_, Y_, Y_, Y_, Y_, Y_, Y_, Y_, Y_, Y_, Y_, Y_, Y_, Y_, Y_, Y_, Y_, Y_, Y_, Y_, Y_, Y_, Y_, Y_, Z_, Z_, Z_, Z_, Z_, Z_, Z_] rfl rfl (any_of HT_.out (by kernel_rfl)) (fun _ _ _ h => h) (Or.inl ⟨by rfl, ?_⟩) ?_ ?_
                rotate_left
                · intro w'; go_simp; with_reducible rfl
                rotate_left
                · simp only [Act.put, nS, i64_w, i32_w]; rfl
                refine pure_ (i := 28) (N := some 32) (v := ?_) (a' := ?_) #[Y_, Y_, Y_, Y_, Y_, Y_, Y_, Y_, Y_, Y_, Y_, Y_, Y_, Y_, Y_, Y_, Y_, Y_, Y_, Y_, Y_, Y_, Y_, Y_, Y_, Y_, Y_, Y_, Y_, Z_, Z_, Z_, Z_, Z_, Z_] rfl rfl (any_of HT_.out (by kernel_rfl)) (fun _ _ _ h => h) (Or.inl ⟨by rfl, ?_⟩) ?_ ?_
                rotate_left
                · intro w'; go_simp; with_reducible rfl
                rotate_left
                · simp only [Act.put, nS, i64_w, i32_w]; rfl
                refine take_ (i := 29) (N := some 33) (v := ?_) (a' := ?_) #[Y_, Y_, Y_, Y_, Y_, Y_, Y_, Y_, Y_, Y_, Y_, Y_, Y_, Y_, Y_, Y_, Y_, Y_, Y_, Y_, Y_, Y_, Y_, Y_, Y_, Y_, Y_, Y_, Y_, Y_, Z_, Z_, Z_, Z_, Z_] rfl rfl (take_ofW HT_.out HW_.out (by kernel_rfl)) (fun _ _ _ h => h) (Or.inl ⟨by rfl, ?_⟩) hHeld ?_ ?_
                rotate_left
                · rintro w' ⟨hc0, hc4, hc14⟩
                  go_simp
                  with_reducible rfl
                rotate_left
                · simp only [Act.put, nS, i64_w, i32_w]; rfl
                refine one_ (i := 30) (N := some 34) #[Y_, Y_, Y_, Y_, Y_, Y_, Y_, Y_, Y_, Y_, Y_, Y_, Y_, Y_, Y_, Y_, Y_, Y_, Y_, Y_, Y_, Y_, Y_, Y_, Y_, Y_, Y_, Y_, Y_, Y_, Y_, Z_, Z_, Z_, Z_] rfl rfl (one_of HT_.out (by kernel_rfl)) (by decide) (fun K hK => ?_)
                refine goes_ Tryd.func13 (by kernel_rfl) rfl #[] (by rfl) rfl rfl (by (try simp only [List.map_toArray, List.map_cons, List.map_nil]); first | done | rfl) ?_
                refine (things_call _).mono ?_
                rintro e w1 ⟨rfl, hb⟩
                refine ⟨_, rfl, ?_⟩
                have HB1 := Aside0.mk (B1.step HD.out hb)
                clear HD
                have HD := HB1
                clear HB1
                clear hb
                refine hK.out _ _ (chk_cells HD.out) (fun hHeld => ?_)
                clear hK K
                refine norm_ (a' := ?_) ?_ ?_
                rotate_left
                · show Act.put _ (some 34) _ = _
                  simp only [Act.put, nS, i64_w, i32_w]
                  rfl
                refine pure_ (i := 31) (N := some 35) (v := ?_) (a' := ?_) #[Y_, Y_, Y_, Y_, Y_, Y_, Y_, Y_, Y_, Y_, Y_, Y_, Y_, Y_, Y_, Y_, Y_, Y_, Y_, Y_, Y_, Y_, Y_, Y_, Y_, Y_, Y_, Y_, Y_, Y_, Y_, Y_, Z_, Z_, Z_] rfl rfl (any_of HT_.out (by kernel_rfl)) (fun _ _ _ h => h) (Or.inl ⟨by rfl, ?_⟩) ?_ ?_
                rotate_left
                · intro w'; go_simp; with_reducible rfl
                rotate_left
                · simp only [Act.put, nS, i64_w, i32_w]; rfl
                refine pure_ (i := 32) (N := some 36) (v := ?_) (a' := ?_) #[Y_, Y_, Y_, Y_, Y_, Y_, Y_, Y_, Y_, Y_, Y_, Y_, Y_, Y_, Y_, Y_, Y_, Y_, Y_, Y_, Y_, Y_, Y_, Y_, Y_, Y_, Y_, Y_, Y_, Y_, Y_, Y_, Y_, Z_, Z_] rfl rfl (any_of HT_.out (by kernel_rfl)) (fun _ _ _ h => h) (Or.inl ⟨by rfl, ?_⟩) ?_ ?_
                rotate_left
                · intro w'; go_simp; with_reducible rfl
                rotate_left
                · simp only [Act.put, nS, i64_w, i32_w]; rfl
                refine pure_ (i := 33) (N := some 37) (v := ?_) (a' := ?_) #[Y_, Y_, Y_, Y_, Y_, Y_, Y_, Y_, Y_, Y_, Y_, Y_, Y_, Y_, Y_, Y_, Y_, Y_, Y_, Y_, Y_, Y_, Y_, Y_, Y_, Y_, Y_, Y_, Y_, Y_, Y_, Y_, Y_, Y_, Z_] rfl rfl (any_of HT_.out (by kernel_rfl)) (fun _ _ _ h => h) (Or.inl ⟨by rfl, ?_⟩) ?_ ?_
                rotate_left
                · intro w'; go_simp; with_reducible rfl
                rotate_left
                · simp only [Act.put, nS, i64_w, i32_w]; rfl
                refine pure_ (i := 34) (N := some 3) (v := ?_) (a' := ?_) #[Y_, Y_, Y_, Y_, Y_, Y_, Y_, Y_, Y_, Y_, Y_, Y_, Y_, Y_, Y_, Y_, Y_, Y_, Y_, Y_, Y_, Y_, Y_, Y_, Y_, Y_, Y_, Y_, Y_, Y_, Y_, Y_, Y_, Y_, Y_] rfl rfl (any_of HT_.out (by kernel_rfl)) (fun _ _ _ h => h) (Or.inl ⟨by rfl, ?_⟩) ?_ ?_
                rotate_left
                · intro w'; go_simp; with_reducible rfl
                rotate_left
                · simp only [Act.put, nS, i64_w, i32_w]; rfl
                refine done_ (done_of HT_.out (by kernel_rfl)) ?_
                go_wp2
                go_ret
                exact ⟨rfl, HD.out.1⟩
              · have d5 : decide (a0_4 ≥ 4) = false := decide_eq_false e5
                obtain ⟨r, hr⟩ : ∃ r, r = checkI a0_0 a0_1 a0_2 a0_4 a0_14 := ⟨_, rfl⟩
                rw [← hr]
                rw [checkI, if_neg (by omega)] at hr
                go_wp2
                refine start_ (n := 35) (S := fun w' => w'.cell? ⟨w.heap.size, 0, none⟩ = some (.int .i64 a0_0) ∧ w'.cell? ⟨w.heap.size, 4, none⟩ = some (.int .i64 a0_4) ∧ w'.cell? ⟨w.heap.size, 14, none⟩ = some (.int .i64 a0_14)) (ds := []) #[Z_, Z_, Z_, Z_, Z_, Z_, Z_, Z_, Z_, Z_, Z_, Z_, Z_, Z_, Z_, Z_, Z_, Z_, Z_, Z_, Z_, Z_, Z_, Z_, Z_, Z_, Z_, Z_, Z_, Z_, Z_, Z_, Z_, Z_, Z_] (by kernel_rfl) rfl rfl (chk_cells HD.out) (fun hHeld => ?_)
                refine with_tabW item_check_h.tab1 item_check_h.bits1 (fun HT_ HW_ => ?_)
                refine pure_ (i := 0) (N := some 4) (v := ?_) (a' := ?_) #[Y_, Z_, Z_, Z_, Z_, Z_, Z_, Z_, Z_, Z_, Z_, Z_, Z_, Z_, Z_, Z_, Z_, Z_, Z_, Z_, Z_, Z_, Z_, Z_, Z_, Z_, Z_, Z_, Z_, Z_, Z_, Z_, Z_, Z_, Z_] rfl rfl (any_of HT_.out (by kernel_rfl)) (fun _ _ _ h => h) (Or.inl ⟨by rfl, ?_⟩) ?_ ?_
                rotate_left
                · intro w'; go_simp; with_reducible rfl
                rotate_left
                · simp only [Act.put, nS, i64_w, i32_w]; rfl
                refine take_ (i := 1) (N := some 5) (v := ?_) (a' := ?_) #[Y_, Y_, Z_, Z_, Z_, Z_, Z_, Z_, Z_, Z_, Z_, Z_, Z_, Z_, Z_, Z_, Z_, Z_, Z_, Z_, Z_, Z_, Z_, Z_, Z_, Z_, Z_, Z_, Z_, Z_, Z_, Z_, Z_, Z_, Z_] rfl rfl (take_ofW HT_.out HW_.out (by kernel_rfl)) (fun _ _ _ h => h) (Or.inl ⟨by rfl, ?_⟩) hHeld ?_ ?_
                rotate_left
                · rintro w' ⟨hc0, hc4, hc14⟩
                  go_simp
                  with_reducible rfl
                rotate_left
                · simp only [Act.put, nS, i64_w, i32_w]; rfl
                refine pure_ (i := 2) (N := some 6) (v := ?_) (a' := ?_) #[Y_, Y_, Y_, Z_, Z_, Z_, Z_, Z_, Z_, Z_, Z_, Z_, Z_, Z_, Z_, Z_, Z_, Z_, Z_, Z_, Z_, Z_, Z_, Z_, Z_, Z_, Z_, Z_, Z_, Z_, Z_, Z_, Z_, Z_, Z_] rfl rfl (any_of HT_.out (by kernel_rfl)) (fun _ _ _ h => h) (Or.inl ⟨by rfl, ?_⟩) ?_ ?_
                rotate_left
                · intro w'; go_simp; with_reducible rfl
                rotate_left
                · simp only [Act.put, nS, i64_w, i32_w]; rfl
                refine pure_ (i := 3) (N := some 7) (v := ?_) (a' := ?_) #[Y_, Y_, Y_, Y_, Z_, Z_, Z_, Z_, Z_, Z_, Z_, Z_, Z_, Z_, Z_, Z_, Z_, Z_, Z_, Z_, Z_, Z_, Z_, Z_, Z_, Z_, Z_, Z_, Z_, Z_, Z_, Z_, Z_, Z_, Z_] rfl rfl (any_of HT_.out (by kernel_rfl)) (fun _ _ _ h => h) (Or.inl ⟨by rfl, ?_⟩) ?_ ?_
                rotate_left
                · intro w'; go_simp; with_reducible rfl
                rotate_left
                · simp only [Act.put, nS, i64_w, i32_w]; rfl
                refine pure_ (i := 4) (N := some 8) (v := ?_) (a' := ?_) #[Y_, Y_, Y_, Y_, Y_, Z_, Z_, Z_, Z_, Z_, Z_, Z_, Z_, Z_, Z_, Z_, Z_, Z_, Z_, Z_, Z_, Z_, Z_, Z_, Z_, Z_, Z_, Z_, Z_, Z_, Z_, Z_, Z_, Z_, Z_] rfl rfl (any_of HT_.out (by kernel_rfl)) (fun _ _ _ h => h) (Or.inl ⟨by rfl, ?_⟩) ?_ ?_
                rotate_left
                · intro w'; go_simp; with_reducible rfl
                rotate_left
                · simp only [Act.put, nS, i64_w, i32_w]; rfl
                refine take_ (i := 5) (N := some 9) (v := ?_) (a' := ?_) #[Y_, Y_, Y_, Y_, Y_, Y_, Z_, Z_, Z_, Z_, Z_, Z_, Z_, Z_, Z_, Z_, Z_, Z_, Z_, Z_, Z_, Z_, Z_, Z_, Z_, Z_, Z_, Z_, Z_, Z_, Z_, Z_, Z_, Z_, Z_] rfl rfl (take_ofW HT_.out HW_.out (by kernel_rfl)) (fun _ _ _ h => h) (Or.inl ⟨by rfl, ?_⟩) hHeld ?_ ?_
                rotate_left
                · rintro w' ⟨hc0, hc4, hc14⟩
                  go_simp
                  with_reducible rfl
                rotate_left
                · simp only [Act.put, nS, i64_w, i32_w]; rfl
                refine one_ (i := 6) (N := some 10) #[Y_, Y_, Y_, Y_, Y_, Y_, Y_, Z_, Z_, Z_, Z_, Z_, Z_, Z_, Z_, Z_, Z_, Z_, Z_, Z_, Z_, Z_, Z_, Z_, Z_, Z_, Z_, Z_, Z_, Z_, Z_, Z_, Z_, Z_, Z_] rfl rfl (one_of HT_.out (by kernel_rfl)) (by decide) (fun K hK => ?_)
                refine goes_ Tryd.func12 (by kernel_rfl) rfl #[] (by rfl) rfl rfl (by (try simp only [List.map_toArray, List.map_cons, List.map_nil]); first | done | rfl) ?_
                refine (kinds_call _).mono ?_
                rintro e w1 ⟨rfl, hb⟩
                refine ⟨_, rfl, ?_⟩
                have HB1 := Aside0.mk (B1.step HD.out hb)
                clear HD
                have HD := HB1
                clear HB1
                clear hb
                refine hK.out _ _ (chk_cells HD.out) (fun hHeld => ?_)
                clear hK K
                refine norm_ (a' := ?_) ?_ ?_
                rotate_left
                · show Act.put _ (some 10) _ = _
                  simp only [Act.put, nS, i64_w, i32_w]
                  rfl
                refine pure_ (i := 7) (N := some 11) (v := ?_) (a' := ?_) #[Y_, Y_, Y_, Y_, Y_, Y_, Y_, Y_, Z_, Z_, Z_, Z_, Z_, Z_, Z_, Z_, Z_, Z_, Z_, Z_, Z_, Z_, Z_, Z_, Z_, Z_, Z_, Z_, Z_, Z_, Z_, Z_, Z_, Z_, Z_] rfl rfl (any_of HT_.out (by kernel_rfl)) (fun _ _ _ h => h) (Or.inl ⟨by rfl, ?_⟩) ?_ ?_
                rotate_left
                · intro w'; go_simp; with_reducible rfl
                rotate_left
                · simp only [Act.put, nS, i64_w, i32_w]; rfl
                refine pure_ (i := 8) (N := some 12) (v := ?_) (a' := ?_) #[Y_, Y_, Y_, Y_, Y_, Y_, Y_, Y_, Y_, Z_, Z_, Z_, Z_, Z_, Z_, Z_, Z_, Z_, Z_, Z_, Z_, Z_, Z_, Z_, Z_, Z_, Z_, Z_, Z_, Z_, Z_, Z_, Z_, Z_, Z_] rfl rfl (any_of HT_.out (by kernel_rfl)) (fun _ _ _ h => h) (Or.inl ⟨by rfl, ?_⟩) ?_ ?_
                rotate_left
                · intro w'; go_simp; with_reducible rfl
                rotate_left
                · simp only [Act.put, nS, i64_w, i32_w]; rfl
                refine pure_ (i := 9) (N := some 13) (v := ?_) (a' := ?_) #[Y_, Y_, Y_, Y_, Y_, Y_, Y_, Y_, Y_, Y_, Z_, Z_, Z_, Z_, Z_, Z_, Z_, Z_, Z_, Z_, Z_, Z_, Z_, Z_, Z_, Z_, Z_, Z_, Z_, Z_, Z_, Z_, Z_, Z_, Z_] rfl rfl (any_of HT_.out (by kernel_rfl)) (fun _ _ _ h => h) (Or.inl ⟨by rfl, ?_⟩) ?_ ?_
                rotate_left
                · intro w'; go_simp; with_reducible rfl
                rotate_left
                · simp only [Act.put, nS, i64_w, i32_w]; rfl
                refine pure_ (i := 10) (N := some 14) (v := ?_) (a' := ?_) #[Y_, Y_, Y_, Y_, Y_, Y_, Y_, Y_, Y_, Y_, Y_, Z_, Z_, Z_, Z_, Z_, Z_, Z_, Z_, Z_, Z_, Z_, Z_, Z_, Z_, Z_, Z_, Z_, Z_, Z_, Z_, Z_, Z_, Z_, Z_] rfl rfl (any_of HT_.out (by kernel_rfl)) (fun _ _ _ h => h) (Or.inl ⟨by rfl, ?_⟩) ?_ ?_
                rotate_left
                · intro w'; go_simp; with_reducible rfl
                rotate_left
                · simp only [Act.put, nS, i64_w, i32_w]; rfl
                refine pure_ (i := 11) (N := some 15) (v := ?_) (a' := ?_) #[Y_, Y_, Y_, Y_, Y_, Y_, Y_, Y_, Y_, Y_, Y_, Y_, Z_, Z_, Z_, Z_, Z_, Z_, Z_, Z_, Z_, Z_, Z_, Z_, Z_, Z_, Z_, Z_, Z_, Z_, Z_, Z_, Z_, Z_, Z_] rfl rfl (any_of HT_.out (by kernel_rfl)) (fun _ _ _ h => h) (Or.inl ⟨by rfl, ?_⟩) ?_ ?_
                rotate_left
                · intro w'; go_simp; with_reducible rfl
                rotate_left
                · simp only [Act.put, nS, i64_w, i32_w]; rfl
                refine take_ (i := 12) (N := some 16) (v := ?_) (a' := ?_) #[Y_, Y_, Y_, Y_, Y_, Y_, Y_, Y_, Y_, Y_, Y_, Y_, Y_, Z_, Z_, Z_, Z_, Z_, Z_, Z_, Z_, Z_, Z_, Z_, Z_, Z_, Z_, Z_, Z_, Z_, Z_, Z_, Z_, Z_, Z_] rfl rfl (take_ofW HT_.out HW_.out (by kernel_rfl)) (fun _ _ _ h => h) (Or.inl ⟨by rfl, ?_⟩) hHeld ?_ ?_
                rotate_left
                · rintro w' ⟨hc0, hc4, hc14⟩
                  go_simp
                  with_reducible rfl
                rotate_left
                · simp only [Act.put, nS, i64_w, i32_w]; rfl
                refine pure_ (i := 13) (N := some 17) (v := ?_) (a' := ?_) #[Y_, Y_, Y_, Y_, Y_, Y_, Y_, Y_, Y_, Y_, Y_, Y_, Y_, Y_, Z_, Z_, Z_, Z_, Z_, Z_, Z_, Z_, Z_, Z_, Z_, Z_, Z_, Z_, Z_, Z_, Z_, Z_, Z_, Z_, Z_] rfl rfl (any_of HT_.out (by kernel_rfl)) (fun _ _ _ h => h) (Or.inl ⟨by rfl, ?_⟩) ?_ ?_
                rotate_left
                · intro w'; go_simp; with_reducible rfl
                rotate_left
                · simp only [Act.put, nS, i64_w, i32_w]; rfl
                refine pure_ (i := 14) (N := some 18) (v := ?_) (a' := ?_) #[Y_, Y_, Y_, Y_, Y_, Y_, Y_, Y_, Y_, Y_, Y_, Y_, Y_, Y_, Y_, Z_, Z_, Z_, Z_, Z_, Z_, Z_, Z_, Z_, Z_, Z_, Z_, Z_, Z_, Z_, Z_, Z_, Z_, Z_, Z_] rfl rfl (any_of HT_.out (by kernel_rfl)) (fun _ _ _ h => h) (Or.inl ⟨by rfl, ?_⟩) ?_ ?_
                rotate_left
                · intro w'; go_simp; with_reducible rfl
                rotate_left
                · simp only [Act.put, nS, i64_w, i32_w]; rfl
                refine pure_ (i := 15) (N := some 19) (v := ?_) (a' := ?_) #[Y_, Y_, Y_, Y_, Y_, Y_, Y_, Y_, Y_, Y_, Y_, Y_, Y_, Y_, Y_, Y_, Z_, Z_, Z_, Z_, Z_, Z_, Z_, Z_, Z_, Z_, Z_, Z_, Z_, Z_, Z_, Z_, Z_, Z_, Z_] rfl rfl (any_of HT_.out (by kernel_rfl)) (fun _ _ _ h => h) (Or.inl ⟨by rfl, ?_⟩) ?_ ?_
                rotate_left
                · intro w'; go_simp; with_reducible rfl
                rotate_left
                · simp only [Act.put, nS, i64_w, i32_w]; rfl
                refine pure_ (i := 16) (N := some 20) (v := ?_) (a' := ?_) #[Y_, Y_, Y_, Y_, Y_, Y_, Y_, Y_, Y_, Y_, Y_, Y_, Y_, Y_, Y_, Y_, Y_, Z_, Z_, Z_, Z_, Z_, Z_, Z_, Z_, Z_, Z_, Z_, Z_, Z_, Z_, Z_, Z_, Z_, Z_] rfl rfl (any_of HT_.out (by kernel_rfl)) (fun _ _ _ h => h) (Or.inl ⟨by rfl, ?_⟩) ?_ ?_
                rotate_left
                · intro w'; go_simp; with_reducible rfl
                rotate_left
                · simp only [Act.put, nS, i64_w, i32_w]; rfl
                refine take_ (i := 17) (N := some 21) (v := ?_) (a' := ?_) #[Y_, Y_, Y_, Y_, Y_, Y_, Y_, Y_, Y_, Y_, Y_, Y_, Y_, Y_, Y_, Y_, Y_, Y_, Z_, Z_, Z_, Z_, Z_, Z_, Z_, Z_, Z_, Z_, Z_, Z_, Z_, Z_, Z_, Z_, Z_] rfl rfl (take_ofW HT_.out HW_.out (by kernel_rfl)) (fun _ _ _ h => h) (Or.inl ⟨by rfl, ?_⟩) hHeld ?_ ?_
                rotate_left
                · rintro w' ⟨hc0, hc4, hc14⟩
                  go_simp
                  with_reducible rfl
                rotate_left
                · simp only [Act.put, nS, i64_w, i32_w]; rfl
                refine pure_ (i := 18) (N := some 22) (v := ?_) (a' := ?_) #[Y_, Y_, Y_, Y_, Y_, Y_, Y_, Y_, Y_, Y_, Y_, Y_, Y_, Y_, Y_, Y_, Y_, Y_, Y_, Z_, Z_, Z_, Z_, Z_, Z_, Z_, Z_, Z_, Z_, Z_, Z_, Z_, Z_, Z_, Z_] rfl rfl (any_of HT_.out (by kernel_rfl)) (fun _ _ _ h => h) (Or.inl ⟨by rfl, ?_⟩) ?_ ?_
                rotate_left
                · intro w'; go_simp; with_reducible rfl
                rotate_left
                · simp only [Act.put, nS, i64_w, i32_w]; rfl
                refine pure_ (i := 19) (N := some 23) (v := ?_) (a' := ?_) #[Y_, Y_, Y_, Y_, Y_, Y_, Y_, Y_, Y_, Y_, Y_, Y_, Y_, Y_, Y_, Y_, Y_, Y_, Y_, Y_, Z_, Z_, Z_, Z_, Z_, Z_, Z_, Z_, Z_, Z_, Z_, Z_, Z_, Z_, Z_] rfl rfl (any_of HT_.out (by kernel_rfl)) (fun _ _ _ h => h) (Or.inl ⟨by rfl, ?_⟩) ?_ ?_
                rotate_left
                · intro w'; go_simp; with_reducible rfl
                rotate_left
                · simp only [Act.put, nS, i64_w, i32_w]; rfl
                refine pure_ (i := 20) (N := some 24) (v := ?_) (a' := ?_) #[Y_, Y_, Y_, Y_, Y_, Y_, Y_, Y_, Y_, Y_, Y_, Y_, Y_, Y_, Y_, Y_, Y_, Y_, Y_, Y_, Y_, Z_, Z_, Z_, Z_, Z_, Z_, Z_, Z_, Z_, Z_, Z_, Z_, Z_, Z_] rfl rfl (any_of HT_.out (by kernel_rfl)) (fun _ _ _ h => h) (Or.inl ⟨by rfl, ?_⟩) ?_ ?_
                rotate_left
                · intro w'; go_simp; with_reducible rfl
                rotate_left
                · simp only [Act.put, nS, i64_w, i32_w]; rfl
                refine pure_ (i := 21) (N := some 25) (v := ?_) (a' := ?_) #[Y_, Y_, Y_, Y_, Y_, Y_, Y_, Y_, Y_, Y_, Y_, Y_, Y_, Y_, Y_, Y_, Y_, Y_, Y_, Y_, Y_, Y_, Z_, Z_, Z_, Z_, Z_, Z_, Z_, Z_, Z_, Z_, Z_, Z_, Z_] rfl rfl (any_of HT_.out (by kernel_rfl)) (fun _ _ _ h => h) (Or.inl ⟨by rfl, ?_⟩) ?_ ?_
                rotate_left
                · intro w'; go_simp; with_reducible rfl
                rotate_left
                · simp only [Act.put, nS, i64_w, i32_w]; rfl
                refine pure_ (i := 22) (N := some 26) (v := ?_) (a' := ?_) #[Y_, Y_, Y_, Y_, Y_, Y_, Y_, Y_, Y_, Y_, Y_, Y_, Y_, Y_, Y_, Y_, Y_, Y_, Y_, Y_, Y_, Y_, Y_, Z_, Z_, Z_, Z_, Z_, Z_, Z_, Z_, Z_, Z_, Z_, Z_] rfl rfl (any_of HT_.out (by kernel_rfl)) (fun _ _ _ h => h) (Or.inl ⟨by rfl, ?_⟩) ?_ ?_
                rotate_left
                · intro w'; go_simp; with_reducible rfl
                rotate_left
                · simp only [Act.put, nS, i64_w, i32_w]; rfl
                refine take_ (i := 23) (N := some 27) (v := ?_) (a' := ?_) #[Y_, Y_, Y_, Y_, Y_, Y_, Y_, Y_, Y_, Y_, Y_, Y_, Y_, Y_, Y_, Y_, Y_, Y_, Y_, Y_, Y_, Y_, Y_, Y_, Z_, Z_, Z_, Z_, Z_, Z_, Z_, Z_, Z_, Z_, Z_] rfl rfl (take_ofW HT_.out HW_.out (by kernel_rfl)) (fun _ _ _ h => h) (Or.inl ⟨by rfl, ?_⟩) hHeld ?_ ?_
                rotate_left
                · rintro w' ⟨hc0, hc4, hc14⟩
                  go_simp
                  with_reducible rfl
                rotate_left
                · simp only [Act.put, nS, i64_w, i32_w]; rfl
                refine pure_ (i := 24) (N := some 28) (v := ?_) (a' := ?_) #[Y_, Y_, Y_, Y_, Y_, Y_, Y_, Y_, Y_, Y_, Y_, Y_, Y_, Y_, Y_, Y_, Y_, Y_, Y_, Y_, Y_, Y_, Y_, Y_, Y_, Z_, Z_, Z_, Z_, Z_, Z_, Z_, Z_, Z_, Z_] rfl rfl (any_of HT_.out (by kernel_rfl)) (fun _ _ _ h => h) (Or.inl ⟨by rfl, ?_⟩) ?_ ?_
                rotate_left
                · intro w'; go_simp; with_reducible rfl
                rotate_left
                · simp only [Act.put, nS, i64_w, i32_w]; rfl
                refine pure_ (i := 25) (N := some 29) (v := ?_) (a' := ?_) #[Y_, Y_, Y_, Y_, Y_, Y_, Y_, Y_, Y_, Y_, Y_, Y_, Y_, Y_, Y_, Y_, Y_, Y_, Y_, Y_, Y_, Y_, Y_, Y_, Y_, Y_, Z_, Z_, Z_, Z_, Z_, Z_, Z_, Z_, Z_] rfl rfl (any_of HT_.out (by kernel_rfl)) (fun _ _ _ h => h) (Or.inl ⟨by rfl, ?_⟩) ?_ ?_
                rotate_left
                · intro w'; go_simp; with_reducible rfl
                rotate_left
                · simp only [Act.put, nS, i64_w, i32_w]; rfl
                refine pure_ (i := 26) (N := some 30) (v := ?_) (a' := ?_) #[Y_, Y_, Y_, Y_, Y_, Y_, Y_, Y_, Y_, Y_, Y_, Y_, Y_, Y_, Y_, Y_, Y_, Y_, Y_, Y_, Y_, Y_, Y_, Y_, Y_, Y_, Y_, Z_, Z_, Z_, Z_, Z_, Z_, Z_, Z_] rfl rfl (any_of HT_.out (by kernel_rfl)) (fun _ _ _ h => h) (Or.inl ⟨by rfl, ?_⟩) ?_ ?_
                rotate_left
                · intro w'; go_simp; with_reducible rfl
                rotate_left
                · simp only [Act.put, nS, i64_w, i32_w]; rfl
                refine pure_ (i := 27) (N := some 31) (v := ?_) (a' := ?_) #[Y_, Y_, Y_, Y_, Y_, Y_, Y_, Y_, Y_, Y_, Y_, Y_, Y_, Y_, Y_, Y_, Y_, Y_, Y_, Y_, Y_, Y_, Y_, Y_, Y_, Y_, Y_, Y_, Z_, Z_, Z_, Z_, Z_, Z_, Z_] rfl rfl (any_of HT_.out (by kernel_rfl)) (fun _ _ _ h => h) (Or.inl ⟨by rfl, ?_⟩) ?_ ?_
                rotate_left
                · intro w'; go_simp; with_reducible rfl
                rotate_left
                · simp only [Act.put, nS, i64_w, i32_w]; rfl
                refine pure_ (i := 28) (N := some 32) (v := ?_) (a' := ?_) #[Y_, Y_, Y_, Y_, Y_, Y_, Y_, Y_, Y_, Y_, Y_, Y_, Y_, Y_, Y_, Y_, Y_, Y_, Y_, Y_, Y_, Y_, Y_, Y_, Y_, Y_, Y_, Y_, Y_, Z_, Z_, Z_, Z_, Z_, Z_] rfl rfl (any_of HT_.out (by kernel_rfl)) (fun _ _ _ h => h) (Or.inl ⟨by rfl, ?_⟩) ?_ ?_
                rotate_left
                · intro w'; go_simp; with_reducible rfl
                rotate_left
                · simp only [Act.put, nS, i64_w, i32_w]; rfl
                refine take_ (i := 29) (N := some 33) (v := ?_) (a' := ?_) #[Y_, Y_, Y_, Y_, Y_, Y_, Y_, Y_, Y_, Y_, Y_, Y_, Y_, Y_, Y_, Y_, Y_, Y_, Y_, Y_, Y_, Y_, Y_, Y_, Y_, Y_, Y_, Y_, Y_, Y_, Z_, Z_, Z_, Z_, Z_] rfl rfl (take_ofW HT_.out HW_.out (by kernel_rfl)) (fun _ _ _ h => h) (Or.inl ⟨by rfl, ?_⟩) hHeld ?_ ?_
                rotate_left
                · rintro w' ⟨hc0, hc4, hc14⟩
                  go_simp
                  with_reducible rfl
                rotate_left
                · simp only [Act.put, nS, i64_w, i32_w]; rfl
                refine one_ (i := 30) (N := some 34) #[Y_, Y_, Y_, Y_, Y_, Y_, Y_, Y_, Y_, Y_, Y_, Y_, Y_, Y_, Y_, Y_, Y_, Y_, Y_, Y_, Y_, Y_, Y_, Y_, Y_, Y_, Y_, Y_, Y_, Y_, Y_, Z_, Z_, Z_, Z_] rfl rfl (one_of HT_.out (by kernel_rfl)) (by decide) (fun K hK => ?_)
                refine goes_ Tryd.func13 (by kernel_rfl) rfl #[] (by rfl) rfl rfl (by (try simp only [List.map_toArray, List.map_cons, List.map_nil]); first | done | rfl) ?_
                refine (things_call _).mono ?_
                rintro e w1 ⟨rfl, hb⟩
                refine ⟨_, rfl, ?_⟩
                have HB1 := Aside0.mk (B1.step HD.out hb)
                clear HD
                have HD := HB1
                clear HB1
                clear hb
                refine hK.out _ _ (chk_cells HD.out) (fun hHeld => ?_)
                clear hK K
                refine norm_ (a' := ?_) ?_ ?_
                rotate_left
                · show Act.put _ (some 34) _ = _
                  simp only [Act.put, nS, i64_w, i32_w]
                  rfl
                refine pure_ (i := 31) (N := some 35) (v := ?_) (a' := ?_) #[Y_, Y_, Y_, Y_, Y_, Y_, Y_, Y_, Y_, Y_, Y_, Y_, Y_, Y_, Y_, Y_, Y_, Y_, Y_, Y_, Y_, Y_, Y_, Y_, Y_, Y_, Y_, Y_, Y_, Y_, Y_, Y_, Z_, Z_, Z_] rfl rfl (any_of HT_.out (by kernel_rfl)) (fun _ _ _ h => h) (Or.inl ⟨by rfl, ?_⟩) ?_ ?_
                rotate_left
                · intro w'; go_simp; with_reducible rfl
                rotate_left
                · simp only [Act.put, nS, i64_w, i32_w]; rfl
                refine pure_ (i := 32) (N := some 36) (v := ?_) (a' := ?_) #[Y_, Y_, Y_, Y_, Y_, Y_, Y_, Y_, Y_, Y_, Y_, Y_, Y_, Y_, Y_, Y_, Y_, Y_, Y_, Y_, Y_, Y_, Y_, Y_, Y_, Y_, Y_, Y_, Y_, Y_, Y_, Y_, Y_, Z_, Z_] rfl rfl (any_of HT_.out (by kernel_rfl)) (fun _ _ _ h => h) (Or.inl ⟨by rfl, ?_⟩) ?_ ?_
                rotate_left
                · intro w'; go_simp; with_reducible rfl
                rotate_left
                · simp only [Act.put, nS, i64_w, i32_w]; rfl
                refine pure_ (i := 33) (N := some 37) (v := ?_) (a' := ?_) #[Y_, Y_, Y_, Y_, Y_, Y_, Y_, Y_, Y_, Y_, Y_, Y_, Y_, Y_, Y_, Y_, Y_, Y_, Y_, Y_, Y_, Y_, Y_, Y_, Y_, Y_, Y_, Y_, Y_, Y_, Y_, Y_, Y_, Y_, Z_] rfl rfl (any_of HT_.out (by kernel_rfl)) (fun _ _ _ h => h) (Or.inl ⟨by rfl, ?_⟩) ?_ ?_
                rotate_left
                · intro w'; go_simp; with_reducible rfl
                rotate_left
                · simp only [Act.put, nS, i64_w, i32_w]; rfl
                refine pure_ (i := 34) (N := some 3) (v := ?_) (a' := ?_) #[Y_, Y_, Y_, Y_, Y_, Y_, Y_, Y_, Y_, Y_, Y_, Y_, Y_, Y_, Y_, Y_, Y_, Y_, Y_, Y_, Y_, Y_, Y_, Y_, Y_, Y_, Y_, Y_, Y_, Y_, Y_, Y_, Y_, Y_, Y_] rfl rfl (any_of HT_.out (by kernel_rfl)) (fun _ _ _ h => h) (Or.inl ⟨by rfl, ?_⟩) ?_ ?_
                rotate_left
                · intro w'; go_simp; with_reducible rfl
                rotate_left
                · simp only [Act.put, nS, i64_w, i32_w]; rfl
                refine done_ (done_of HT_.out (by kernel_rfl)) ?_
                have hc1 := blk_cell HD.out.2 1
                have hm1 := fun w => (item_may.calls (a0_1.size + 2) a0_1 (mayB a0_1) w (may_f a0_1 hs.1 _ (by omega)))
                have hm2 := fun w => (item_may.calls (a0_2.size + 2) a0_2 (mayB a0_2) w (may_f a0_2 hs.2 _ (by omega)))
                have ht := fun w => (item_two.calls a0_0 (twoB a0_0) w (two_f a0_0))
                clear e0 e1 e2 e3 e4 e5
                generalize mayB a0_1 = b1 at *
                generalize mayB a0_2 = b2 at *
                generalize twoB a0_0 = tb at *
                cases b1 with
                | false =>
                  rw [if_pos (Or.inl rfl)] at hr
                  subst hr
                  go_wp2_with (first | (go_at_call 31; (with_reducible refine (hm1 _).mono ?_); rintro e w2 ⟨rfl, hb⟩; have HB1 := Aside0.mk (B1.step HD.out hb); clear HD hb; have HD := HB1; clear HB1; have hk0 := blk_cell HD.out.2 0; have hk2 := blk_cell HD.out.2 2))
                  go_ret
                  exact ⟨rfl, by first | exact HD.out.1 | (have hx := HD.out.1; simp at hx; exact hx) | (have hx := HD.out.1; go_simp; exact hx)⟩
                | true =>
                  cases tb with
                  | true =>
                    cases b2 with
                    | false =>
                      rw [if_pos (Or.inr ⟨rfl, rfl⟩)] at hr
                      subst hr
                      go_wp2_with (first | (go_at_call 31; (with_reducible refine (hm1 _).mono ?_); rintro e w2 ⟨rfl, hb⟩; have HB1 := Aside0.mk (B1.step HD.out hb); clear HD hb; have HD := HB1; clear HB1; have hk0 := blk_cell HD.out.2 0; have hk2 := blk_cell HD.out.2 2) | (go_at_call 25; (with_reducible refine (ht _).mono ?_); rintro e w3 ⟨rfl, ⟨nd, rfl⟩⟩; have HB1 := Aside0.mk (B1.step HD.out (pw_below_drewN (Below.refl _ _) nd)); clear HD; have HD := HB1; clear HB1; have hk0 := blk_cell HD.out.2 0; have hk2 := blk_cell HD.out.2 2) | (go_at_call 31; (with_reducible refine (hm2 _).mono ?_); rintro e w2 ⟨rfl, hb⟩; have HB1 := Aside0.mk (B1.step HD.out hb); clear HD hb; have HD := HB1; clear HB1; have hk0 := blk_cell HD.out.2 0; have hk2 := blk_cell HD.out.2 2))
                      go_ret
                      exact ⟨rfl, by first | exact HD.out.1 | (have hx := HD.out.1; simp at hx; exact hx) | (have hx := HD.out.1; go_simp; exact hx)⟩
                    | true =>
                      rw [if_neg (by simp), if_neg (by simp)] at hr
                      subst hr
                      go_wp2_with (first | (go_at_call 31; (with_reducible refine (hm1 _).mono ?_); rintro e w2 ⟨rfl, hb⟩; have HB1 := Aside0.mk (B1.step HD.out hb); clear HD hb; have HD := HB1; clear HB1; have hk0 := blk_cell HD.out.2 0; have hk2 := blk_cell HD.out.2 2) | (go_at_call 25; (with_reducible refine (ht _).mono ?_); rintro e w3 ⟨rfl, ⟨nd, rfl⟩⟩; have HB1 := Aside0.mk (B1.step HD.out (pw_below_drewN (Below.refl _ _) nd)); clear HD; have HD := HB1; clear HB1; have hk0 := blk_cell HD.out.2 0; have hk2 := blk_cell HD.out.2 2) | (go_at_call 31; (with_reducible refine (hm2 _).mono ?_); rintro e w2 ⟨rfl, hb⟩; have HB1 := Aside0.mk (B1.step HD.out hb); clear HD hb; have HD := HB1; clear HB1; have hk0 := blk_cell HD.out.2 0; have hk2 := blk_cell HD.out.2 2))
                      go_ret
                      exact ⟨rfl, by first | exact HD.out.1 | (have hx := HD.out.1; simp at hx; exact hx) | (have hx := HD.out.1; go_simp; exact hx)⟩
                  | false =>
                    rw [if_neg (by simp)] at hr
                    by_cases hf : a0_2.toList = []
                    · have hfb : (a0_2.toList == ([] : List UInt8)) = true := beq_iff_eq.mpr hf
                      rw [if_neg (by simp [hf])] at hr
                      subst hr
                      go_wp2_with (first | (go_at_call 31; (with_reducible refine (hm1 _).mono ?_); rintro e w2 ⟨rfl, hb⟩; have HB1 := Aside0.mk (B1.step HD.out hb); clear HD hb; have HD := HB1; clear HB1; have hk0 := blk_cell HD.out.2 0; have hk2 := blk_cell HD.out.2 2) | (go_at_call 25; (with_reducible refine (ht _).mono ?_); rintro e w3 ⟨rfl, ⟨nd, rfl⟩⟩; have HB1 := Aside0.mk (B1.step HD.out (pw_below_drewN (Below.refl _ _) nd)); clear HD; have HD := HB1; clear HB1; have hk0 := blk_cell HD.out.2 0; have hk2 := blk_cell HD.out.2 2))
                      go_ret
                      exact ⟨rfl, by first | exact HD.out.1 | (have hx := HD.out.1; simp at hx; exact hx) | (have hx := HD.out.1; go_simp; exact hx)⟩
                    · have hfb : (a0_2.toList == ([] : List UInt8)) = false := beq_eq_false_iff_ne.mpr hf
                      rw [if_pos ⟨rfl, hf⟩] at hr
                      subst hr
                      go_wp2_with (first | (go_at_call 31; (with_reducible refine (hm1 _).mono ?_); rintro e w2 ⟨rfl, hb⟩; have HB1 := Aside0.mk (B1.step HD.out hb); clear HD hb; have HD := HB1; clear HB1; have hk0 := blk_cell HD.out.2 0; have hk2 := blk_cell HD.out.2 2) | (go_at_call 25; (with_reducible refine (ht _).mono ?_); rintro e w3 ⟨rfl, ⟨nd, rfl⟩⟩; have HB1 := Aside0.mk (B1.step HD.out (pw_below_drewN (Below.refl _ _) nd)); clear HD; have HD := HB1; clear HB1; have hk0 := blk_cell HD.out.2 0; have hk2 := blk_cell HD.out.2 2))
                      go_ret
                      exact ⟨rfl, by first | exact HD.out.1 | (have hx := HD.out.1; simp at hx; exact hx) | (have hx := HD.out.1; go_simp; exact hx)⟩
  · rw [if_neg hs] at h
    exact absurd h (by simp)
end Go.Proofs.YtljpcmpjfklloaaDoor.PA
