/- quick.Text by its contract: nine signs, each the letter of its bit where the bit is set, else a dot. -/
import Derived.Lib.SlBytesConst
import Derived.Test.YtljpcmpjfklloaaDoorPAx0
namespace Go.Proofs.YtljpcmpjfklloaaDoor.PA
open Go.RowKit Go.Proofs.YtljpcmpjfklloaaDoorW.PrintWords Go.Proofs.YtljpcmpjfklloaaDoorW.PrintLast Go.Proofs.YtljpcmpjfklloaaDoorW.PrintMore
attribute [local go_sem] max2_int min2_int max_two min_two max_three min_three max_four min_four
set_option linter.unusedVariables false
set_option linter.unusedSimpArgs false
/-- is bit i of a set? -/
def bitSet (a : Int) (i : Nat) : Bool := !(Go.bits .and .i64 (a / 2 ^ i) 1 == 0)
def signL : List Int := [110, 107, 115, 116, 109, 111, 108, 100, 104]
/-- the signs, of which the first k have been looked at -/
def textL (a : Int) (k : Nat) : List Int := (List.range 9).map fun i => if i < k ∧ bitSet a i = false then 46 else signL.getD i 0
def textSpec (a : Int) : ByteArray := strOfNums (textL a 9)
theorem textL_zero (a : Int) : textL a 0 = signL := rfl
theorem textL_len (a : Int) (k : Nat) : (textL a k).length = 9 := by simp [textL]
theorem textL_set (a : Int) (k : Nat) (hk : k < 9) (h : bitSet a k = false) : (textL a k).set k 46 = textL a (k + 1) := by
  apply List.ext_getElem
  · simp [textL_len]
  · intro i h1 h2
    simp only [List.length_set, textL_len] at h1
    rw [List.getElem_set]
    by_cases e : k = i
    · subst e
      simp [textL, h]
    · rw [if_neg e]
      simp only [textL, List.getElem_map, List.getElem_range]
      have hiff : (i < k + 1) ↔ (i < k) := by omega
      simp only [hiff]
theorem textL_keep (a : Int) (k : Nat) (hk : k < 9) (h : bitSet a k = true) : textL a k = textL a (k + 1) := by
  apply List.ext_getElem
  · simp [textL_len]
  · intro i h1 h2
    simp only [textL, List.getElem_map, List.getElem_range]
    by_cases e : i = k
    · subst e
      simp [h]
    · have hiff : (i < k + 1) ↔ (i < k) := by omega
      simp only [hiff]
def quick_Text.f (a0 : Int) : Option ByteArray := some (textSpec a0)
def textArr (a : Int) (k : Nat) : Array Value := ((textL a k).map (Value.int .u8)).toArray
theorem textArr_size (a : Int) (k : Nat) : (textArr a k).size = 9 := by simp [textArr, textL_len]
theorem textArr_zero (a : Int) : textArr a 0 = #[.int .u8 110, .int .u8 107, .int .u8 115, .int .u8 116, .int .u8 109, .int .u8 111, .int .u8 108, .int .u8 100, .int .u8 104] := rfl
def TBlk (w0 wr : World) (a : Int) (k : Nat) : Prop := Below w0.heap.size w0 wr ∧ wr.heap[w0.heap.size]? = some (.cells (textArr a k) 5 (9, 10))
theorem TBlk.cell {w0 wr : World} {a : Int} {k : Nat} (h : TBlk w0 wr a k) (i : Nat) (hi : i < 9) : wr.cell? ⟨w0.heap.size, i, none⟩ = some (.int .u8 ((textL a k).getD i 0)) := by
  rw [cell_of_row wr _ i _ _ _ h.2]
  simp [textArr, List.getD_eq_getElem?_getD, List.getElem?_eq_getElem (show i < (textL a k).length by rw [textL_len]; exact hi)]
theorem TBlk.frozen {w0 wr : World} {a : Int} {k : Nat} (h : TBlk w0 wr a k) (i : Nat) (hi : i < 9) : wr.frozen? ⟨w0.heap.size, i, none⟩ = false := by
  simp [World.frozen?, h.2]
  omega
theorem TBlk.set {w0 wr : World} {a : Int} {k : Nat} (h : TBlk w0 wr a k) (hk : k < 9) (hb : bitSet a k = false) : TBlk w0 (wr.setCell ⟨w0.heap.size, k, none⟩ (.int .u8 46)) a (k + 1) := by
  refine ⟨below_set h.1 (Nat.le_refl _), ?_⟩
  have e : (textArr a k).setIfInBounds k (.int .u8 46) = textArr a (k + 1) := by
    unfold textArr
    rw [← textL_set a k hk hb]
    simp [List.map_set]
  rw [← e]
  have hg := h.2
  have hl := blk_lt hg
  have hq : wr.heap[w0.heap.size] = .cells (textArr a k) 5 (9, 10) := by
    rw [Array.getElem?_eq_getElem hl] at hg
    exact Option.some.inj hg
  simp [World.setCell, hl, Array.getElem_modify, hq]
theorem TBlk.keep {w0 wr : World} {a : Int} {k : Nat} (h : TBlk w0 wr a k) (hk : k < 9) (hb : bitSet a k = true) : TBlk w0 wr a (k + 1) := by
  refine ⟨h.1, ?_⟩
  have := h.2
  unfold textArr at *
  rw [← textL_keep a k hk hb]
  exact this
set_option maxHeartbeats 1000000 in
set_option maxRecDepth 100000 in
theorem quick_Text.calls (a0 : Int) (r : ByteArray) (w : World) (h : quick_Text.f a0 = some r) :
    Calls Tryd.prog 23 #[.int .i64 a0] w fun e w' => e = .returned (.string r) ∧ Below w.heap.size w w' := by
  obtain rfl := Option.some.inj h
  clear h
  have kc := fun (w : World) (C : Array Value) (n c : Nat) => Lib.run_convert_bytes_const (P := Tryd.prog) w 45 5 C n c Tryd.underlying45 Tryd.underlying5
  have hst : Aside0 (TBlk w (w.alloc (.cells (textArr a0 0) 5 (9, 10))) a0 0) := ⟨⟨below_alloc (Below.refl _ _) _, blk_new _ _⟩⟩
  rw [textArr_zero] at hst
  go_enter Tryd.func23, Tryd.ntmps23
  go_wp2
  clear kc
  go_loopw [9] (fun v9 wr => ∃ k : Nat, k ≤ 9 ∧ v9 = .int .i64 k ∧ Aside0 (TBlk w wr a0 k)) (fun v9 _ => 9 - (intOf v9).toNat)
  case atStart => exact ⟨0, by omega, rfl, ⟨⟨hst.out.1, by rw [textArr_zero]; exact hst.out.2⟩⟩⟩
  case round =>
    clear hst
    obtain ⟨k, hk9, rfl, HT⟩ := hrel
    by_cases hk : k < 9
    · have hc := HT.out.cell k hk
      have hf := HT.out.frozen k hk
      cases hb : bitSet a0 k with
      | false =>
        have hb0 : (Go.bits .and .i64 (a0 / 2 ^ k) 1 == 0) = true := by simpa [bitSet] using hb
        have HS := Aside0.mk (HT.out.set hk hb)
        clear hb
        go_wp2
        go_roundw
        case rel => exact ⟨k + 1, by omega, by go_num, HS⟩
        case measure => simp [intOf]; omega
      | true =>
        have hb0 : (Go.bits .and .i64 (a0 / 2 ^ k) 1 == 0) = false := by simpa [bitSet] using hb
        have HS := Aside0.mk (HT.out.keep hk hb)
        clear hb
        go_wp2
        go_roundw
        case rel => exact ⟨k + 1, by omega, by go_num, HS⟩
        case measure => simp [intOf]; omega
    · obtain rfl : k = 9 := by omega
      have hcv := run_convert_bytes_arg (P := Tryd.prog) wr 45 5 Tryd.underlying45 Tryd.underlying5 w.heap.size 0 9 9 (textL a0 9) (textL_len a0 9) (fun i hi => by have := HT.out.cell i hi; simpa using this) 9 Tryd.underlying9
      go_wp2
      go_ret
      exact ⟨rfl, HT.out.1⟩
end Go.Proofs.YtljpcmpjfklloaaDoor.PA
