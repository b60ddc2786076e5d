/- glob.Escape by its contract; the builder's WriteByte at this program. -/
import Derived.Outline
import Derived.Shelf.Strings.Builder1
import Derived.Test.YtiigjnccoeadlaaPAx0
import Derived.Test.YtiigjnccoeadlaaXGlobSpec
namespace Go.Proofs.Ytiigjnccoeadlaa.PA
open Go.RowKit Go.Proofs.YtiigjnccoeadlaaW.PrintWords Go.Proofs.YtiigjnccoeadlaaW.PrintLast Go.Proofs.YtiigjnccoeadlaaW.PrintMore
attribute [local go_sem] max2_int min2_int max_two min_two max_three min_three max_four min_four
set_option linter.unusedVariables false
set_option linter.unusedSimpArgs false
open Go.Shelf
def Try.lays169_ren : Go.Shelf.Ren := ⟨fun | 169 => 28 | n => n, fun | 70 => 50 | 9 => 9 | 0 => 0 | 72 => 52 | 37 => 36 | 127 => 62 | 3 => 3 | 5 => 5 | n => n, fun | n => n⟩
theorem Try.lays169 : Go.Proofs.Lays.n169 Try.prog Try.lays169_ren := {
  mixed := by kernel_rfl
  f169 := Try.func28.trans (congrArg some (by kernel_rfl))
  t0 := Try.underlying0
  a0 := Try.isAgg0
  z0 := Try.sizeOf0
  v0 := Try.zeroValue0
  t3 := Try.underlying3
  a3 := Try.isAgg3
  z3 := Try.sizeOf3
  v3 := Try.zeroValue3
  t9 := Try.underlying9
  a9 := Try.isAgg9
  z9 := Try.sizeOf9
  v9 := Try.zeroValue9
  t37 := Try.underlying36
  a37 := Try.isAgg36
  z37 := Try.sizeOf36
  v37 := Try.zeroValue36
  t70 := Try.underlying50
  a70 := Try.isAgg50
  z70 := Try.sizeOf50
  v70 := Try.zeroValue50
  t72 := Try.underlying52
  a72 := Try.isAgg52
  z72 := Try.sizeOf52
  v72 := Try.zeroValue52
  t127 := Try.underlying62
  a127 := Try.isAgg62
  z127 := Try.sizeOf62
  v127 := Try.zeroValue62 }
theorem Try.Builder_Extra_169 : Builder.Extra Try.prog Try.lays169_ren := {
  sizeBuilder := by kernel_rfl
  liesBuilder := by kernel_rfl
  t5 := Try.underlying5
  a5 := Try.isAgg5
  z5 := Try.sizeOf5
  v5 := Try.zeroValue5
  infoByte := by kernel_rfl
  cellsByte := by kernel_rfl
  sizeByte := by kernel_rfl
  neB5 := by decide }
open Go.RowKit in
theorem Try.Builder_String_any (B b : Nat) (l : List UInt8) (w : World) (h : Lib.IsBuilder 52 5 B b (Lib.byteCells l) w) (hBw : B ≤ w.heap.size) :
    Calls Try.prog 28 #[.pointer (some ⟨b, 0, none⟩)] w fun e w' => e = .returned (.string ⟨l.toArray⟩) ∧ Below B w w' := Any.Builder_String_any Try.lays169 Try.Builder_Extra_169 B b l w h hBw

theorem bUsed (b : Nat) (w : World) (h0 : w.cell? ⟨b, 0, none⟩ = some (.pointer (some ⟨b, 0, none⟩))) :
    Calls Try.prog 32 #[.pointer (some ⟨b, 0, none⟩)] w fun e w' => e = .returned (.tuple #[]) ∧ w' = w := by
  have hsz : (Try.prog.info? 52).map (·.size) = some 2 := by kernel_rfl
  obtain ⟨j, hj, _⟩ := Option.map_eq_some_iff.1 hsz
  go_enter Try.func32, Try.ntmps32
  go_wp2
  rw [Lib.run_neq_ptr_same w _ Try.underlying50 hj]
  go_wp2
  go_end0
  exact ⟨rfl, rfl⟩
theorem bFresh (b : Nat) (w : World) (h0 : w.cell? ⟨b, 0, none⟩ = some (.pointer none)) (hsh : w.shape? b = some (52, 2)) (hfz : w.frozen? ⟨b, 0, none⟩ = false) :
    Calls Try.prog 32 #[.pointer (some ⟨b, 0, none⟩)] w fun e w' => e = .returned (.tuple #[]) ∧ w' = w.setCell ⟨b, 0, none⟩ (.pointer (some ⟨b, 0, none⟩)) := by
  have hsz : (Try.prog.info? 52).map (·.size) = some 2 := by kernel_rfl
  obtain ⟨j, hj, hjs⟩ := Option.map_eq_some_iff.1 hsz
  go_enter Try.func32, Try.ntmps32
  go_wp2
  rw [Lib.run_to_unsafe w ⟨b, 0, none⟩ Try.underlying50 Try.underlying63 hj (by rw [hjs]; decide) hsh (Nat.zero_lt_succ 1)]
  simp only [Result.andThen]
  rw [Oper.upon_value]
  go_wp2
  rw [run_callFunc_extern Try.func34 (by kernel_rfl) (by kernel_rfl) (by kernel_rfl) (e := Extern.AbiNoEscape.same) (by kernel_rfl)]
  rw [Lib.run_noEscape]
  simp only [Result.andThen]
  rw [Oper.upon_value]
  go_wp2
  rw [Lib.run_from_unsafe w ⟨b, 0, none⟩ Try.underlying63 Try.underlying50 hj hsh (by kernel_rfl)]
  simp only [Result.andThen]
  rw [Oper.upon_value]
  go_wp2
  go_end0
  exact ⟨rfl, rfl⟩
theorem bCheck (B b : Nat) (bs : List Value) (w : World) (h : Lib.IsBuilder 52 5 B b bs w) :
    Calls Try.prog 32 #[.pointer (some ⟨b, 0, none⟩)] w fun e w' => e = .returned (.tuple #[]) ∧ (Lib.BuilderAt 52 5 B b (.pointer (some ⟨b, 0, none⟩)) bs w' ∧ Below B w w') := by
  rcases h with h | h
  · refine (bFresh b w h.cell0 h.shape h.frozen0).mono ?_
    rintro e w' ⟨rfl, rfl⟩
    exact ⟨rfl, h.used _, (Below.refl B w).setCell (p := ⟨b, 0, none⟩) h.1 _⟩
  · refine (bUsed b w h.cell0).mono ?_
    rintro e w' ⟨rfl, rfl⟩
    exact ⟨rfl, h, Below.refl B _⟩
set_option maxHeartbeats 2000000 in
set_option maxRecDepth 100000 in
theorem bWrite (B b : Nat) (bs : List Value) (c : Int) (w : World) (h : Lib.IsBuilder 52 5 B b bs w) (hlen : bs.length + 1 ≤ 140737488355328) (hBw : B ≤ w.heap.size) :
    Calls Try.prog 27 #[.pointer (some ⟨b, 0, none⟩), .int .u8 c] w fun e w' => e = .returned .nilIface ∧ (Lib.BuilderAt 52 5 B b (.pointer (some ⟨b, 0, none⟩)) (bs ++ [.int .u8 c]) w' ∧ Below B w w') := by
  have hin : (Try.prog.info? 5).map (fun i => (i.zero, i.size, i.bytes)) = some (some (.int .u8 0), 1, 1) := by kernel_rfl
  obtain ⟨i0, hi, hz0, hz1, hz2⟩ := info_parts hin
  go_enter Try.func27, Try.ntmps27
  go_wp2_with (go_at_call 32; refine (bCheck B b bs _ h).mono ?_)
  rintro e w1 ⟨rfl, h1, hb1⟩
  obtain ⟨hB, v, hbk, hown, hne⟩ := h1
  have c0 : w1.cell? ⟨b, 0, none⟩ = some (.pointer (some ⟨b, 0, none⟩)) := by rw [Lib.cell_of_heap hbk]; rfl
  have c1 : w1.cell? ⟨b, 1, none⟩ = some v := by rw [Lib.cell_of_heap hbk]; rfl
  go_wp2_with (at_builtin; refine wpList_append_own _ rfl _ _ 36 rfl B 5 i0 (.int .u8 0) 1 1 Try.underlying36 hi hz0 hz1 hz2 rfl (by decide) _ _ _ rfl (hown.alloc _) ⟨w1.heap.size, 0, none⟩ 1 1 [.int .u8 c] rfl rfl ?c1 ?c2 ?c3 ?c4 ?c5 ?_)
  case c1 =>
    intro j u hj
    match j, hj with
    | 0, hj => simp at hj; subst hj; simp [Addr.add]
  case c2 => intro u hu; simp at hu; subst hu; rfl
  case c3 => unfold maxLen; omega
  case c4 => omega
  case c5 => have := hb1.size; simp; omega
  intro v' w2 hown' hgrow _
  have hlt : b < w1.heap.size := by
    rcases Nat.lt_or_ge b w1.heap.size with h' | h'
    · exact h'
    · simp [Array.getElem?_eq_none h'] at hbk
  have hb2 : w2.heap[b]? = some (.cells #[.pointer (some ⟨b, 0, none⟩), v] 52 (0, 0)) := by
    rw [hgrow.block b (by simp; omega) (fun e => hne e.symm), Lib.alloc_old w1 _ b hlt]
    exact hbk
  have d0 : w2.cell? ⟨b, 0, none⟩ = some (.pointer (some ⟨b, 0, none⟩)) := by rw [Lib.cell_of_heap hb2]; rfl
  have d1 : w2.cell? ⟨b, 1, none⟩ = some v := by rw [Lib.cell_of_heap hb2]; rfl
  have f1 : w2.frozen? ⟨b, 1, none⟩ = false := Lib.frozen_of_heap hb2 1
  obtain ⟨g, cap, rfl⟩ : ∃ g cap, v' = .slice (some ⟨g, 0, none⟩) (bs.length + 1) cap := by
    rcases hown'.2 with ⟨_, h0⟩ | ⟨g, cap, cur, hv, _⟩
    · omega
    · exact ⟨g, cap, hv⟩
  go_wp2
  go_ret
  refine ⟨rfl, ?_, ?_⟩
  · exact Lib.BuilderAt.put (T := 52) (e := 5) hB hb2 (bs' := bs ++ [.int .u8 c]) (by simpa using hown') (by decide)
  · exact ((hb1.alloc (by have := hb1.size; omega) _).grown hgrow (by have := hb1.size; simp; omega) (fun k hk => (hown.lt k hk).1)).setCell (p := ⟨b, 1, none⟩) hB _
def escB (c : Int) : Bool := c == 63 || c == 42 || c == 91 || c == 92
def escL : List Int → List Int
  | [] => []
  | c :: r => if escB c = true then 92 :: c :: escL r else c :: escL r
def escS (s : ByteArray) : ByteArray := strOfNums (escL (gL s))
theorem escL_snoc (l : List Int) (c : Int) : escL (l ++ [c]) = escL l ++ (if escB c = true then [92, c] else [c]) := by
  induction l with
  | nil =>
    show (if escB c = true then 92 :: c :: escL [] else c :: escL []) = _
    split <;> rfl
  | cons a r ih =>
    show (if escB a = true then 92 :: a :: escL (r ++ [c]) else a :: escL (r ++ [c])) = (if escB a = true then 92 :: a :: escL r else a :: escL r) ++ _
    rw [ih]
    split <;> rfl
theorem escL_len : ∀ l : List Int, (escL l).length ≤ 2 * l.length
  | [] => by simp [escL]
  | c :: r => by
    have := escL_len r
    unfold escL
    split <;> (simp; omega)
theorem escL_mem : ∀ (l : List Int), (∀ c ∈ l, 0 ≤ c ∧ c < 256) → ∀ c ∈ escL l, 0 ≤ c ∧ c < 256
  | [], _, c, h => by simp [escL] at h
  | a :: r, hl, c, h => by
    have ih := escL_mem r (fun x hx => hl x (List.mem_cons_of_mem _ hx)) c
    have ha := hl a (List.mem_cons_self)
    unfold escL at h
    split at h
    · rcases List.mem_cons.1 h with rfl | h
      · omega
      · rcases List.mem_cons.1 h with rfl | h
        · exact ha
        · exact ih h
    · rcases List.mem_cons.1 h with rfl | h
      · exact ha
      · exact ih h
theorem gL_mem (s : ByteArray) : ∀ c ∈ gL s, 0 ≤ c ∧ c < 256 := by
  intro c hc
  obtain ⟨i, hi⟩ := List.getElem?_of_mem hc
  have hlt : i < s.size := by
    have := (List.getElem?_eq_some_iff.1 hi).1
    rwa [gl_len] at this
  rw [gl_get s i hlt] at hi
  rw [← Option.some.inj hi]
  exact bt_range s _
/-- The cells of numbers. -/
def numC (l : List Int) : List Value := l.map (Value.int .u8)
theorem numC_snoc (l : List Int) (c : Int) : numC (l ++ [c]) = numC l ++ [.int .u8 c] := by simp [numC]
theorem numC_bytes (l : List Int) (h : ∀ c ∈ l, 0 ≤ c ∧ c < 256) : numC l = Lib.byteCells (l.map fun n => UInt8.ofNat n.toNat) := by
  induction l with
  | nil => rfl
  | cons a r ih =>
    have ha := h a (List.mem_cons_self)
    have ih2 := ih (fun x hx => h x (List.mem_cons_of_mem _ hx))
    simp only [numC, Lib.byteCells, List.map_cons] at ih2 ⊢
    rw [ih2]
    congr 2
    have : (UInt8.ofNat a.toNat).toNat = a.toNat := by
      rw [UInt8.toNat_ofNat']
      omega
    rw [this]
    omega
theorem take_next (s : ByteArray) (i : Nat) (h : i < s.size) : (gL s).take (i + 1) = (gL s).take i ++ [bt s (i : Int)] := by
  have h1 := gl_get s i h
  obtain ⟨hl, hg⟩ := List.getElem?_eq_some_iff.1 h1
  rw [List.take_succ_eq_append_getElem hl, hg]
theorem isB_ {B b : Nat} {bs : List Value} {w : World} (h : Lib.BuilderAt 52 5 B b (.pointer (some ⟨b, 0, none⟩)) bs w) : Lib.IsBuilder 52 5 B b bs w := .inr h
theorem below_trans_ {B : Nat} {w0 w1 w2 : World} (h : Below B w1 w2) (h0 : Below B w0 w1) : Below B w0 w2 := h0.trans h
def glob_Escape.f (a0 : ByteArray) : Option ByteArray := if a0.size < 1000000 then some (escS a0) else none
set_option maxHeartbeats 4000000 in
set_option maxRecDepth 100000 in
theorem glob_Escape.calls (a0 : ByteArray) (r : ByteArray) (w : World) (h : glob_Escape.f a0 = some r) : Calls Try.prog 16 #[.string a0] w fun e w' => e = .returned (.string r) ∧ Below w.heap.size w w' := by
  unfold glob_Escape.f at h
  split at h
  · rename_i hs
    obtain rfl := Option.some.inj h
    clear h
    have HI := Aside0.mk (show Lib.IsBuilder 52 5 w.heap.size w.heap.size (numC (escL ((gL a0).take 0))) (w.alloc (.cells #[.pointer none, .slice none 0 0] 52)) from .inl ⟨Nat.le_refl _, _, blk_new _ _, ⟨by simp [numC, escL], .inl ⟨rfl, by simp [numC, escL]⟩⟩, by simp [Value.ownBlock]⟩)
    have HB := Aside0.mk (below_alloc (Below.refl w.heap.size w) (.cells #[.pointer none, .slice none 0 0] 52))
    go_enter Try.func16, Try.ntmps16
    go_wp2
    go_loopw [8] (fun v8 wr => ∃ i : Nat, v8 = .int .i64 i ∧ i ≤ a0.size ∧ Aside0 (Lib.IsBuilder 52 5 w.heap.size w.heap.size (numC (escL ((gL a0).take i))) wr) ∧ Aside0 (Below w.heap.size w wr)) (fun v8 _ => a0.size - (intOf v8).toNat)
    case atStart => exact ⟨0, rfl, Nat.zero_le _, HI, HB⟩
    case round =>
      clear HI HB
      obtain ⟨i, rfl, hi, HI, HB⟩ := hrel
      by_cases hlt : i < a0.size
      · have e0 : ((i : Int) < (a0.size : Int)) = True := eq_true (by omega)
        have d1 : ∀ h : i < a0.size, ((a0[i]'h).toNat : Int) = bt a0 (i : Int) := fun h => bt_at a0 i h
        have hn := Aside0.mk (escL_len ((gL a0).take i))
        have hl1 : (numC (escL ((gL a0).take i))).length < 4000000 := by
          have := hn.out
          rw [List.length_take, gl_len] at this
          rw [numC, List.length_map]
          omega
        have HE := Aside0.mk (show escL ((gL a0).take (i + 1)) = escL ((gL a0).take i) ++ (if escB (bt a0 (i : Int)) = true then [92, bt a0 (i : Int)] else [bt a0 (i : Int)]) by rw [take_next a0 i hlt, escL_snoc])
        cases hb : escB (bt a0 (i : Int)) with
        | true =>
          have HE2 := HE.out
          rw [if_pos hb] at HE2
          have HE3 := Aside0.mk HE2
          clear HE HE2 hn
          have h4 : bt a0 (i : Int) = 63 ∨ bt a0 (i : Int) = 42 ∨ bt a0 (i : Int) = 91 ∨ bt a0 (i : Int) = 92 := by
            simp only [escB, Bool.or_eq_true, beq_iff_eq] at hb
            omega
          clear hb
          rcases h4 with h4 | h4 | h4 | h4
          all_goals
            rw [h4] at d1 HE3
            go_wp2_with (go_at_call 27; (with_reducible refine (bWrite w.heap.size w.heap.size _ _ _ HI.out (by first | omega | (simp only [List.length_append, List.length_singleton]; omega)) (below_size HB.out)).mono ?_); rintro e w2 ⟨rfl, h1, hb⟩; have n0_ := Aside0.mk (below_trans_ hb HB.out); clear HB hb HI; have HB := n0_; clear n0_; have HI := Aside0.mk (isB_ h1); clear h1)
            go_roundw
            case rel => exact ⟨i + 1, by go_num, by omega, ⟨by rw [HE3.out]; simpa [numC] using HI.out⟩, HB⟩
            case measure => simp [intOf]; omega
        | false =>
          have HE2 := HE.out
          rw [if_neg (by rw [hb]; decide)] at HE2
          have HE3 := Aside0.mk HE2
          clear HE HE2 hn
          have h4 : (bt a0 (i : Int) == 63) = false ∧ (bt a0 (i : Int) == 42) = false ∧ (bt a0 (i : Int) == 91) = false ∧ (bt a0 (i : Int) == 92) = false := by
            simp only [escB, Bool.or_eq_false_iff] at hb
            exact ⟨hb.1.1.1, hb.1.1.2, hb.1.2, hb.2⟩
          clear hb
          obtain ⟨q1, q2, q3, q4⟩ := h4
          go_wp2_with (go_at_call 27; (with_reducible refine (bWrite w.heap.size w.heap.size _ _ _ HI.out (by omega) (below_size HB.out)).mono ?_); rintro e w2 ⟨rfl, h1, hb⟩; have n0_ := Aside0.mk (below_trans_ hb HB.out); clear HB hb HI; have HB := n0_; clear n0_; have HI := Aside0.mk (isB_ h1); clear h1)
          go_roundw
          case rel => exact ⟨i + 1, by go_num, by omega, ⟨by rw [HE3.out, numC_snoc]; exact HI.out⟩, HB⟩
          case measure => simp [intOf]; omega
      · obtain rfl : i = a0.size := by omega
        have e0 : ((a0.size : Int) < (a0.size : Int)) = False := eq_false (by omega)
        have HI2 := HI.out
        rw [show (gL a0).take a0.size = gL a0 from List.take_of_length_le (by rw [gl_len]; exact Nat.le_refl _), numC_bytes _ (escL_mem _ (gL_mem a0))] at HI2
        go_wp2_with (go_at_call 28; (with_reducible refine (Try.Builder_String_any w.heap.size w.heap.size _ _ HI2 (below_size HB.out)).mono ?_); rintro e w2 ⟨rfl, hb⟩; have n0_ := Aside0.mk (below_trans_ hb HB.out); clear HB hb; have HB := n0_; clear n0_)
        go_ret
        exact ⟨rfl, HB.out⟩
  · cases h
end Go.Proofs.Ytiigjnccoeadlaa.PA
