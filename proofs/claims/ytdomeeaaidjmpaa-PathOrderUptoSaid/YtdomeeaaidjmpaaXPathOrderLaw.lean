/- PathOrder: for any three texts of bulk at most 1048576 the law returns true and leaves its arguments as they were. -/
import Derived.Below
import Derived.ChangeOld
import Derived.JoinedCond
import Derived.OpenShut
import Derived.ProofKit
import Derived.ShutString
import Derived.Test.YtdomeeaaidjmpaaPAfremoralaw13PathOrder
import Derived.Test.YtdomeeaaidjmpaaPAfremoralaw13awake
import Derived.Test.YtdomeeaaidjmpaaPAx0
import Derived.Test.YtdomeeaaidjmpaaRows
import Derived.Test.YtdomeeaaidjmpaaXPathSpec
import Derived.Test.YtdomeeaaidjmpaaXSplitSpec
import Derived.WalkKit
namespace Go.Proofs.Ytdomeeaaidjmpaa.PA
open Go.RowKit Go.Proofs.YtdomeeaaidjmpaaW.PrintWords Go.Proofs.YtdomeeaaidjmpaaW.PrintLast Go.Proofs.YtdomeeaaidjmpaaW.PrintMore
attribute [local go_sem] max2_int min2_int max_two min_two max_three min_three max_four min_four
set_option linter.unusedVariables false
set_option linter.unusedSimpArgs false
theorem u8_lt (a b : UInt8) : a < b ↔ a.toNat < b.toNat := UInt8.lt_iff_toNat_lt
theorem u8_eq (a b : UInt8) : a = b ↔ a.toNat = b.toNat := UInt8.toNat_inj.symm
theorem bl_cons (a b : UInt8) (x y : List UInt8) : Op.bytesLess (a :: x) (b :: y) = true ↔ a.toNat < b.toNat ∨ (a = b ∧ Op.bytesLess x y = true) := by
  rw [Op.bytesLess, Bool.or_eq_true, Bool.and_eq_true, decide_eq_true_iff, u8_lt, beq_iff_eq]
theorem bl_trans : ∀ x y z : List UInt8, Op.bytesLess x y = true → Op.bytesLess y z = true → Op.bytesLess x z = true
  | _, [], _, h, _ => by simp [Op.bytesLess] at h
  | _, _ :: _, [], _, h => by simp [Op.bytesLess] at h
  | [], _ :: _, _ :: _, _, _ => rfl
  | a :: x, b :: y, d :: z, h1, h2 => by
    rw [bl_cons] at h1 h2 ⊢
    rcases h1 with h1 | ⟨rfl, h1⟩
    · rcases h2 with h2 | ⟨rfl, h2⟩
      · exact Or.inl (by omega)
      · exact Or.inl h1
    · rcases h2 with h2 | ⟨rfl, h2⟩
      · exact Or.inl h2
      · exact Or.inr ⟨rfl, bl_trans x y z h1 h2⟩
theorem bl_tri : ∀ x y : List UInt8, ¬ Op.bytesLess x y = true → ¬ Op.bytesLess y x = true → x = y
  | [], [], _, _ => rfl
  | [], _ :: _, h, _ => absurd rfl h
  | _ :: _, [], _, h => absurd rfl h
  | a :: x, b :: y, h1, h2 => by
    rw [bl_cons] at h1 h2
    have hab : a = b := by
      rw [u8_eq]
      have := fun h => h1 (Or.inl h)
      have := fun h => h2 (Or.inl h)
      omega
    subst hab
    rw [bl_tri x y (fun h => h1 (Or.inr ⟨rfl, h⟩)) (fun h => h2 (Or.inr ⟨rfl, h⟩))]
theorem cmp_cons (a b : ByteArray) (s t : List ByteArray) : cmpL (a :: s) (b :: t) < 0 ↔ Op.bytesLess a.toList b.toList = true ∨ (a = b ∧ cmpL s t < 0) := by
  rw [cmpL]
  by_cases h1 : Op.bytesLess a.toList b.toList = true
  · rw [if_pos h1]
    exact ⟨fun _ => Or.inl h1, fun _ => by decide⟩
  · rw [if_neg h1]
    by_cases h2 : a = b
    · rw [if_pos h2]
      exact ⟨fun h => Or.inr ⟨h2, h⟩, fun h => h.elim (fun h => absurd h h1) (fun h => h.2)⟩
    · rw [if_neg h2]
      exact ⟨fun h => absurd h (by decide), fun h => h.elim (fun h => absurd h h1) (fun h => absurd h.1 h2)⟩
theorem cmp_trans : ∀ x y z, cmpL x y < 0 → cmpL y z < 0 → cmpL x z < 0
  | [], [], _, h, _ => absurd h (by decide)
  | _ :: _, [], _, h, _ => absurd h (by simp [cmpL])
  | _, _ :: _, [], _, h => absurd h (by simp [cmpL])
  | [], _ :: _, _ :: _, _, _ => by simp [cmpL]
  | a :: s, b :: t, d :: u, h1, h2 => by
    rw [cmp_cons] at h1 h2 ⊢
    rcases h1 with h1 | ⟨rfl, h1⟩
    · rcases h2 with h2 | ⟨rfl, h2⟩
      · exact Or.inl (bl_trans _ _ _ h1 h2)
      · exact Or.inl h1
    · rcases h2 with h2 | ⟨rfl, h2⟩
      · exact Or.inl h2
      · exact Or.inr ⟨rfl, cmp_trans s t u h1 h2⟩
theorem cmp_irr : ∀ x, ¬ cmpL x x < 0
  | [] => by decide
  | a :: s => by
    rw [cmp_cons, bl_irr]
    intro h
    rcases h with h | ⟨_, h⟩
    · exact absurd h (by decide)
    · exact cmp_irr s h
theorem cmp_anti (x y) (h : cmpL x y < 0) : ¬ cmpL y x < 0 := fun h2 => cmp_irr x (cmp_trans x y x h h2)
theorem cmp_tri : ∀ x y, ¬ cmpL x y < 0 → ¬ cmpL y x < 0 → x = y
  | [], [], _, _ => rfl
  | [], _ :: _, h, _ => absurd (by simp [cmpL]) h
  | _ :: _, [], _, h => absurd (by simp [cmpL]) h
  | a :: s, b :: t, h1, h2 => by
    rw [cmp_cons] at h1 h2
    have hab : a = b := (tl_eq a b).1 (bl_tri _ _ (fun h => h1 (Or.inl h)) (fun h => h2 (Or.inl h)))
    subst hab
    rw [cmp_tri s t (fun h => h1 (Or.inr ⟨rfl, h⟩)) (fun h => h2 (Or.inr ⟨rfl, h⟩))]
theorem pre_cons (a b : ByteArray) (s t : List ByteArray) : preB (a :: s) (b :: t) = true ↔ a = b ∧ preB s t = true := by
  unfold preB
  rw [decide_eq_true_iff, decide_eq_true_iff, List.length_cons, List.take_succ_cons, List.cons.injEq]
  exact ⟨fun h => ⟨h.1.symm, h.2⟩, fun h => ⟨h.1.symm, h.2⟩⟩
theorem cmp_pre : ∀ x y, preB x y = true → x.length < y.length → cmpL x y < 0
  | [], [], _, h => absurd h (by decide)
  | [], _ :: _, _, _ => by simp [cmpL]
  | _ :: _, [], h, _ => by simp [preB] at h
  | a :: s, b :: t, h, hl => by
    rw [pre_cons] at h
    rw [cmp_cons]
    exact Or.inr ⟨h.1, cmp_pre s t h.2 (by simpa using hl)⟩
theorem cmp_mid : ∀ x y z, preB x z = true → cmpL x y < 0 → cmpL y z < 0 → preB x y = true
  | [], _, _, _, _, _ => by simp [preB]
  | _ :: _, [], _, _, h, _ => absurd h (by simp [cmpL])
  | _ :: _, _ :: _, [], h, _, _ => by simp [preB] at h
  | a :: s, b :: t, d :: u, h, h1, h2 => by
    rw [pre_cons] at h
    obtain ⟨rfl, h⟩ := h
    rw [cmp_cons] at h1 h2
    rw [pre_cons]
    rcases h1 with h1 | ⟨rfl, h1⟩
    · exfalso
      rcases h2 with h2 | ⟨h2, _⟩
      · have := bl_trans _ _ _ h1 h2
        rw [bl_irr] at this
        exact absurd this (by decide)
      · rw [h2, bl_irr] at h1
        exact absurd h1 (by decide)
    · refine ⟨rfl, ?_⟩
      rcases h2 with h2 | ⟨_, h2⟩
      · rw [bl_irr] at h2
        exact absurd h2 (by decide)
      · exact cmp_mid s t u h h1 h2
theorem order_j2 (a b d : ByteArray) (ha : sml a) (hb : sml b) (hd : sml d) (k : Nat) (hk : 1048590 ≤ k) : remoralaw13_PathOrder.j2 k a b d (decide (cmpL (splitL a) (splitL b) < 0)) (decide (cmpL (splitL b) (splitL d) < 0)) false = some true := by
  obtain ⟨k, rfl⟩ : ∃ j, k = j + 1 := ⟨k - 1, by omega⟩
  have haw : ((remoralaw13_awake.f k).bind fun t : Bool => some t) = some true := by rw [awake13 k (by omega)]; rfl
  rw [remoralaw13_PathOrder.j2, if_neg (by decide), under_f d a hd ha k (by omega), Option.bind_some]
  by_cases hu : preB (splitL a) (splitL d) = true
  · rw [if_pos hu]
    by_cases h1 : cmpL (splitL a) (splitL b) < 0
    · rw [decide_eq_true h1, if_pos rfl]
      by_cases h2 : cmpL (splitL b) (splitL d) < 0
      · rw [decide_eq_true h2, if_pos rfl, under_f b a hb ha k (by omega), Option.bind_some, if_pos (cmp_mid _ _ _ hu h1 h2)]
        exact haw
      · rw [decide_eq_false h2, if_neg (by decide)]
        exact haw
    · rw [decide_eq_false h1, if_neg (by decide)]
      exact haw
  · rw [if_neg hu]
    exact haw
theorem order_j1 (a b d : ByteArray) (ha : sml a) (hb : sml b) (hd : sml d) (k : Nat) (hk : 1048600 ≤ k) : remoralaw13_PathOrder.j1 k a b d (decide (cmpL (splitL a) (splitL b) < 0)) (decide (cmpL (splitL b) (splitL d) < 0)) false = some true := by
  obtain ⟨k, rfl⟩ : ∃ j, k = j + 1 := ⟨k - 1, by omega⟩
  have h2 := order_j2 a b d ha hb hd k (by omega)
  rw [remoralaw13_PathOrder.j1, if_neg (by decide), under_f b a hb ha k (by omega), Option.bind_some]
  by_cases hu : preB (splitL a) (splitL b) = true
  · rw [if_pos hu, depth_f b hb, Option.bind_some, depth_f a ha, Option.bind_some]
    by_cases hl : ((splitL b).length : Int) > ((splitL a).length : Int)
    · have h1 := cmp_pre _ _ hu (by omega)
      rw [if_pos hl]
      rw [decide_eq_true h1] at h2 ⊢
      exact h2
    · rw [if_neg hl]
      exact h2
  · rw [if_neg hu]
    exact h2
theorem order_j0 (a b d : ByteArray) (ha : sml a) (hb : sml b) (hd : sml d) (k : Nat) (hk : 1048610 ≤ k) : remoralaw13_PathOrder.j0 k a b d (decide (cmpL (splitL a) (splitL b) < 0)) (decide (cmpL (splitL b) (splitL d) < 0)) false = some true := by
  obtain ⟨k, rfl⟩ : ∃ j, k = j + 1 := ⟨k - 1, by omega⟩
  have h2 := order_j1 a b d ha hb hd k (by omega)
  have hl := spl_len a ha
  rw [remoralaw13_PathOrder.j0, if_neg (by decide)]
  by_cases h1 : cmpL (splitL a) (splitL b) < 0
  · rw [decide_eq_true h1] at h2 ⊢
    rw [if_pos rfl]
    exact h2
  · rw [decide_eq_false h1] at h2 ⊢
    rw [if_neg (by decide), less_f b a hb ha k (by omega), Option.bind_some]
    by_cases h3 : cmpL (splitL b) (splitL a) < 0
    · rw [if_pos (decide_eq_true h3)]
      exact h2
    · rw [if_neg (by rw [decide_eq_false h3]; decide), psplit_f a ha, Option.bind_some, psplit_f b hb, Option.bind_some, texts_f _ _ k (by omega) (by omega), Option.bind_some, decide_eq_true (cmp_tri _ _ h1 h3)]
      exact h2
theorem pathOrder_f (a b d : ByteArray) (ha : sml a) (hb : sml b) (hd : sml d) : remoralaw13_PathOrder.f 3000000 a b d = some true := by
  generalize hk : 3000000 = k
  have hk2 : 1048610 ≤ k := by omega
  clear hk
  have hj := order_j0 a b d ha hb hd k hk2
  rw [remoralaw13_PathOrder.f, less_f a b ha hb k (by omega), Option.bind_some, less_f b d hb hd k (by omega), Option.bind_some, less_f a d ha hd k (by omega), Option.bind_some, less_f b a hb ha k (by omega), less_f a a ha ha k (by omega)]
  simp only [Option.bind_some]
  have haa : decide (cmpL (splitL a) (splitL a) < 0) = false := decide_eq_false (cmp_irr _)
  rw [haa]
  by_cases h1 : cmpL (splitL a) (splitL b) < 0
  · have hba : decide (cmpL (splitL b) (splitL a) < 0) = false := decide_eq_false (cmp_anti _ _ h1)
    rw [hba]
    rw [decide_eq_true h1] at hj ⊢
    rw [if_pos rfl]
    by_cases h2 : cmpL (splitL b) (splitL d) < 0
    · rw [decide_eq_true h2] at hj ⊢
      rw [if_pos rfl, decide_eq_true (cmp_trans _ _ _ h1 h2), if_pos rfl, if_neg (by decide)]
      exact hj
    · rw [decide_eq_false h2] at hj ⊢
      rw [if_neg (by decide), if_neg (by decide)]
      exact hj
  · rw [decide_eq_false h1] at hj ⊢
    rw [if_neg (by decide)]
    exact hj
theorem pathOrder_law (a0 a1 a2 : ByteArray) (h0 : a0.size ≤ 1048576) (h1 : a1.size ≤ 1048576) (h2 : a2.size ≤ 1048576) (w : World) :
    Calls Try.prog 5 #[.string a0, .string a1, .string a2] w fun e w' => e = .returned (.bool true) ∧ Below w.heap.size w w' :=
  remoralaw13_PathOrder.calls 3000000 a0 a1 a2 true w (pathOrder_f a0 a1 a2 h0 h1 h2)
end Go.Proofs.Ytdomeeaaidjmpaa.PA
namespace Go.Proofs.Ytdomeeaaidjmpaa.pathOrderUptoRow
open Go.ChangeShapes Go.WideShapes Go.ChangeAt Go.RowKit Go.Proofs.Ytdomeeaaidjmpaa.PA
open Go.ChangeMaps (open_string shut_string)
theorem own : ownKnob Try.prog.godebug = none := by kernel_rfl
set_option maxHeartbeats 1000000 in
set_option maxRecDepth 100000 in
theorem lifted (os : Os) (started : os.Started) (H : Type) (enc : TypeId × Value → H) (F : Stop.Interp) :
    ReturnsInHanded {} Try.checked os 5 .any ((Rows.OpenSpec.upto Rows.pathOrderSpec).pre6 enc Try.prog Try.f5 Rows.pathOrderUptoRow.domain false) (((Rows.OpenSpec.upto Rows.pathOrderSpec).at F).post enc Try.prog Try.f5 false true false false) := by
  refine returnsInHanded_of_cond (C := Try.checked) (s := (Rows.OpenSpec.upto Rows.pathOrderSpec)) (k := Rows.uptoSmall) rfl own started (by kernel_rfl) Try.func5
    (OpenSpec.witness (enc := enc) (C := Try.checked) (s := (Rows.OpenSpec.upto Rows.pathOrderSpec)) (k := Rows.uptoSmall) rfl false ⟨#[], #[.string .empty, .string .empty, .string .empty], []⟩ 8 (by kernel_rfl) (by kernel_rfl) (by kernel_rfl)
      (x := ([.lit (.string []), .lit (.string []), .lit (.string [])], [], [])) (by kernel_rfl) rfl (by kernel_rfl)) ?_
  intro W base args ds gs before hval0 hW _ hk _
  have hval : ∀ (j : Nat) t v, Try.f5.params[j]? = some t → args[j]? = some v → Value.okWide Try.prog W .any base t v := hval0
  have hW' := hW
  obtain ⟨p, q, hA0, hV, rfl, hfz, hnd⟩ := hW
  have hA : DataW.TrodAll enc Try.prog W 0 (fun _ => true) true Try.f5.params.toList args.toList ds p := hA0
  rw [Try.params5] at hA hval
  obtain ⟨v0, vs0, d0, ds0, p0, q0, hargs, rfl, rfl, h0, r0⟩ := trodAll_cons hA
  obtain ⟨v1, vs1, d1, ds1, p1, q1, rfl, rfl, rfl, h1, r1⟩ := trodAll_cons r0
  obtain ⟨v2, vs2, d2, ds2, p2, q2, rfl, rfl, rfl, h2, r2⟩ := trodAll_cons r1
  obtain ⟨rfl, rfl, rfl⟩ := trodAll_nil r2
  obtain rfl : args = #[v0, v1, v2] := by cases args; simp_all
  obtain ⟨rfl, rfl⟩ := trodVars_none hV
  obtain ⟨a0, rfl, rfl, rfl, y0⟩ := open_string Try.underlying9 (hval 0 9 v0 rfl rfl) h0
  obtain ⟨a1, rfl, rfl, rfl, y1⟩ := open_string Try.underlying9 (hval 1 9 v1 rfl rfl) h1
  obtain ⟨a2, rfl, rfl, rfl, y2⟩ := open_string Try.underlying9 (hval 2 9 v2 rfl rfl) h2
  clear hA0 hval0
  simp only [List.append_nil] at hW' hk
  have hb : Rows.uptoBulkAll [DataW.lit (H := H) (.string a0.data.toList), DataW.lit (H := H) (.string a1.data.toList), DataW.lit (H := H) (.string a2.data.toList)] ≤ 1048576 := of_decide_eq_true hk
  simp only [Rows.uptoBulkAll, Rows.uptoBulk] at hb
  have e0 : a0.data.toList.length = a0.size := by rw [Array.length_toList]; rfl
  have e1 : a1.data.toList.length = a1.size := by rw [Array.length_toList]; rfl
  have e2 : a2.data.toList.length = a2.size := by rw [Array.length_toList]; rfl
  refine (pathOrder_law a0 a1 a2 (by omega) (by omega) (by omega) W).mono fun e W' ⟨he, bel⟩ => ?_
  subst he
  exact ⟨_, rfl, _, _, _, [], _, [], hW', trodAll_mk1 (shut_bool Try.underlying4 _), (trodAll_cons_mk (shut_string Try.underlying9 y0) (trodAll_cons_mk (shut_string Try.underlying9 y1) (trodAll_cons_mk (shut_string Try.underlying9 y2) trodAll_mk0))), rfl, bel.frame _, fun h => by cases h⟩
theorem proved : Rows.PathOrderUptoSaid :=
  OpenClaim.holds_of_cond 5 Try.f5 rfl rfl rfl rfl rfl rfl rfl ⟨rfl, rfl, rfl, rfl, rfl⟩ rfl rfl rfl rfl rfl (by kernel_rfl) Try.func5 (by kernel_rfl)
    (of_decide_eq_true (by kernel_rfl)) (by unfold Func.isWrapper; first | (rw [if_pos (by decide +kernel)]; kernel_rfl) | (rw [if_neg (by decide +kernel)]; exact ⟨rfl, rfl⟩))
    (fun os started H enc _ F => lifted os started H enc F)
#print axioms proved
end Go.Proofs.Ytdomeeaaidjmpaa.pathOrderUptoRow
namespace Go.Proofs.Ytdomeeaaidjmpaa
/-- The row, under a short name, for the claim. -/
theorem pathOrder_holds : Rows.PathOrderUptoSaid := pathOrderUptoRow.proved
end Go.Proofs.Ytdomeeaaidjmpaa
namespace Go.Proofs.Ytdomeeaaidjmpaa.PA
end Go.Proofs.Ytdomeeaaidjmpaa.PA
