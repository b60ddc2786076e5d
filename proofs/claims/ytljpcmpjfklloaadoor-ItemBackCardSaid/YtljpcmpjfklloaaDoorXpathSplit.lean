/- path.Split by its contract: the parts of the text between bytes 47. -/
import Derived.Lib.OthersKept
import Derived.Test.YtljpcmpjfklloaaDoorPAx0
import Derived.Test.YtljpcmpjfklloaaDoorXSplitSpec
namespace Go.Proofs.YtljpcmpjfklloaaDoor.PA
open Go.RowKit Go.Proofs.YtljpcmpjfklloaaDoorW.PrintWords Go.Proofs.YtljpcmpjfklloaaDoorW.PrintLast Go.Proofs.YtljpcmpjfklloaaDoorW.PrintMore
attribute [local go_sem] max2_int min2_int max_two min_two max_three min_three max_four min_four
set_option linter.unusedVariables false
set_option linter.unusedSimpArgs false
def path_Split.f (a0 : ByteArray) : Option (List ByteArray) := if a0.size < 4398046511104 then some (splitL a0) else none
def SPrun (s : ByteArray) (w0 wr : World) (v : Value) (l : List ByteArray) (pos : Nat) : Prop :=
  Below w0.heap.size w0 wr ∧ wr.heap[w0.heap.size]? = some (.stringIter s pos) ∧ Kd.R Kd.string 9 wr w0.heap.size (fun k => w0.heap.size < k) v l
theorem iter_pos {w : World} {k : Nat} {s : ByteArray} {p : Nat} (h : w.heap[k]? = some (.stringIter s p)) : w.iterPos k = p := by simp [World.iterPos, h]
theorem SPrun.start (s : ByteArray) (w : World) : SPrun s w (w.iter s 0) (.slice none 0 0) [] 0 :=
  ⟨below_alloc (Below.refl _ _) _, World.iter_heap w s 0, Kd.R_nil _ _ _ _ _⟩
theorem SPrun.move {s : ByteArray} {w0 wr : World} {v : Value} {l : List ByteArray} {pos : Nat} (h : SPrun s w0 wr v l pos) (pos' : Nat) : SPrun s w0 (wr.iterAt w0.heap.size s pos') v l pos' :=
  ⟨Lib.below_iterAt h.1 (Nat.le_refl _) s pos', Lib.iterAt_heap wr _ s pos pos' h.2.1, Kd.R_move h.2.2 (fun k hk => Lib.iterAt_other wr _ k s pos' (by omega))⟩
theorem SPrun.more {s : ByteArray} {w0 wr w1 : World} {v v1 : Value} {l l1 : List ByteArray} {pos : Nat} (h : SPrun s w0 wr v l pos) (ho : Kd.R Kd.string 9 w1 w0.heap.size (fun k => w0.heap.size < k) v1 l1) (hb : Below w0.heap.size w0 w1) (hg : wr.grownBy w1 v.ownBlock) : SPrun s w0 w1 v1 l1 pos := by
  refine ⟨hb, ?_, ho⟩
  have hlt := blk_lt h.2.1
  have hne : some w0.heap.size ≠ v.ownBlock := by
    intro he
    exact Nat.lt_irrefl _ (h.2.2.1 _ he.symm)
  rw [← h.2.1]
  exact hg.block _ hlt hne
set_option maxHeartbeats 2000000 in
set_option maxRecDepth 100000 in
theorem path_Split.calls (a0 : ByteArray) (r : List ByteArray) (w : World) (h : path_Split.f a0 = some r) :
    Calls Tryd.prog 47 #[.string a0] w fun e w' => ∃ v0_ : Value, e = .returned (v0_) ∧ Kd.R Kd.string 9 w' w.heap.size (fun _ => True) v0_ r ∧ Below w.heap.size w w' := by
  unfold path_Split.f at h
  by_cases hs : a0.size < 4398046511104
  · rw [if_pos hs] at h
    obtain rfl := Option.some.inj h
    clear h
    by_cases c2 : a0.toList = ([] : List UInt8)
    · have c2b : (a0.toList == ([] : List UInt8)) = true := beq_iff_eq.mpr c2
      have hz : a0.size = 0 := by
        have h1 := congrArg List.length c2
        rw [ByteArray.toList_eq, data_length] at h1
        exact h1
      have e : splitL a0 = [] := by rw [splitL, if_pos hz]
      rw [e]
      go_enter Tryd.func47, Tryd.ntmps47
      go_wp2
      go_ret
      exact ⟨_, rfl, Kd.R_nil _ _ _ _ _, Below.refl _ _⟩
    · have c2b : (a0.toList == ([] : List UInt8)) = false := beq_eq_false_iff_ne.mpr c2
      go_enter Tryd.func47, Tryd.ntmps47
      go_wp2
      go_loopw [3, 4] (fun v3 v4 wr => ∃ pos : Nat, pos ≤ a0.size ∧ v4 = .int .i64 (splitTo a0 pos).2 ∧ Aside0 (SPrun a0 w wr v3 (splitTo a0 pos).1 pos)) (fun _ _ wr => a0.size - wr.iterPos w.heap.size)
      case atStart => exact ⟨0, by omega, rfl, ⟨SPrun.start a0 w⟩⟩
      case round =>
        obtain ⟨pos, hp, rfl, HS⟩ := hrel
        have hfle := splitTo_le a0 pos
        have hlen := splitTo_len a0 pos
        have f0 : (0 ≤ ((splitTo a0 pos).2 : Int)) = True := eq_true (by omega)
        have f1 : (((splitTo a0 pos).2 : Int) ≤ (pos : Int)) = True := eq_true (by omega)
        have f2 : ((pos : Int) ≤ (a0.size : Int)) = True := eq_true (by omega)
        have f3 : (((splitTo a0 pos).2 : Int) ≤ (a0.size : Int)) = True := eq_true (by omega)
        have hpos0 := iter_pos HS.out.2.1
        by_cases hp2 : pos < a0.size
        · have hnx := fun ty => Lib.run_next_any_at (P := Tryd.prog) wr w.heap.size a0 pos ty HS.out.2.1 hp2
          obtain ⟨d1, d2, d3, d4, d5⟩ := dec47 a0 pos hp2
          by_cases hb : bt a0 (pos : Int) = 47
          · have e := d4 hb
            rw [e] at hnx
            have HM := Aside0.mk (HS.out.move (pos + 1))
            have hh := splitTo_hit a0 pos hb
            clear HS d1 d2 d3 d4 d5 e
            go_wp2_with (first | ((with_reducible refine gate_builtin (b := .append) (xs := #[.tmp 17, .tmp 22]) rfl ?_); at_builtin; refine Kd.R_append Kd.string (w0 := w) w.heap.size rfl (.tmp 17) (.tmp 22) 38 9 (.string ⟨#[]⟩) 16 rfl Tryd.underlying38 info9 rfl (by decide) (by omega) u3 (splitTo a0 pos).1 (a0.extract (splitTo a0 pos).2 pos) [.string (a0.extract (splitTo a0 pos).2 pos)] (fun k => w.heap.size < k) (fun _ => False) rfl rfl rfl (fun _ hk => hk.elim) (fun k hk => Nat.lt_of_lt_of_le (blk_lt HM.out.2.1) hk) HM.out.2.2 HM.out.1 (below_size HM.out.1) (by omega) ?_; intro v1 w1 ho hb1 hg hat; have HN := Aside0.mk (HM.out.more ho hb1 hg); clear ho hb1 hg hat))
            go_roundw
            case rel => exact ⟨pos + 1, by omega, by rw [hh]; rfl, ⟨by rw [hh]; exact HN.out⟩⟩
            case measure => rw [iter_pos HN.out.2.1, hpos0]; omega
          · obtain ⟨e1, e2⟩ := d5 hb
            have HM := Aside0.mk (HS.out.move (pos + (Utf8.decode a0 pos).2))
            clear HS d4 d5
            generalize (Utf8.decode a0 pos).1 = ru at *
            generalize (Utf8.decode a0 pos).2 = wd at *
            have hru : (((ru : Nat) : Int) == 47) = false := beq_eq_false_iff_ne.mpr (by omega)
            go_wp2
            go_roundw
            case rel => exact ⟨pos + wd, by omega, by rw [e2], ⟨by rw [e2]; exact HM.out⟩⟩
            case measure => rw [iter_pos HM.out.2.1, hpos0]; omega
        · have hnx := fun ty => Lib.run_next_end_at (P := Tryd.prog) wr w.heap.size a0 pos ty HS.out.2.1 hp2
          obtain rfl : pos = a0.size := by omega
          go_wp2_with (first | ((with_reducible refine gate_builtin (b := .append) (xs := #[.tmp 26, .tmp 30]) rfl ?_); at_builtin; refine Kd.R_append Kd.string (w0 := w) w.heap.size rfl (.tmp 26) (.tmp 30) 38 9 (.string ⟨#[]⟩) 16 rfl Tryd.underlying38 info9 rfl (by decide) (by omega) u3 (splitTo a0 a0.size).1 (a0.extract (splitTo a0 a0.size).2 a0.size) [.string (a0.extract (splitTo a0 a0.size).2 a0.size)] (fun k => w.heap.size < k) (fun _ => False) rfl rfl rfl (fun _ hk => hk.elim) (fun k hk => Nat.lt_of_lt_of_le (blk_lt HS.out.2.1) hk) HS.out.2.2 HS.out.1 (below_size HS.out.1) (by omega) ?_; intro v1 w1 ho hb1 hg hat; have HN := Aside0.mk (HS.out.more ho hb1 hg); clear ho hb1 hg hat))
          go_ret
          have e : splitL a0 = (splitTo a0 a0.size).1 ++ [a0.extract (splitTo a0 a0.size).2 a0.size] := by
            rw [splitL, if_neg]
            intro h0
            refine c2 (List.eq_nil_of_length_eq_zero ?_)
            rw [ByteArray.toList_eq, data_length]
            exact h0
          rw [e]
          exact ⟨_, rfl, Kd.R_mono HN.out.2.2 (fun _ _ => trivial), HN.out.1⟩
  · rw [if_neg hs] at h
    exact absurd h (by simp)
end Go.Proofs.YtljpcmpjfklloaaDoor.PA
