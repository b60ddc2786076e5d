/- remoraref14.Head by its contract. -/
import Derived.Test.YtiigjnccoeadlaaPAx0
import Derived.Test.YtiigjnccoeadlaaXEmptyW
import Derived.Test.YtiigjnccoeadlaaXGlobBase
import Derived.Test.YtiigjnccoeadlaaXGlobSpec
import Derived.Test.YtiigjnccoeadlaaXHeadBase
import Derived.Test.YtiigjnccoeadlaaXRMatchW
import Derived.Test.YtiigjnccoeadlaaXSignsRW
import Derived.Test.YtiigjnccoeadlaaXglobCheck
import Derived.Test.YtiigjnccoeadlaaXremoraref14Check
namespace Go.Proofs.Ytiigjnccoeadlaa.PA
open Go.RowKit Go.Proofs.YtiigjnccoeadlaaW.PrintWords Go.Proofs.YtiigjnccoeadlaaW.PrintLast Go.Proofs.YtiigjnccoeadlaaW.PrintMore
attribute [local go_sem] max2_int min2_int max_two min_two max_three min_three max_four min_four
set_option linter.unusedVariables false
set_option linter.unusedSimpArgs false
def hdS : Option (List Tok) → ByteArray
  | none => ⟨#[]⟩
  | some l => strOfNums (hdL l)
def remoraref14_Head.f (a0 : ByteArray) : Option ByteArray := if a0.size < 1000000 then some (hdS (patO a0)) else none
theorem chk_none {s : ByteArray} (h : patO s = none) : (chkO s != 0) = true := by
  unfold patO at h
  unfold chkO
  split at h
  · rw [if_neg (by omega), h]
    rfl
  · rw [if_pos (by omega)]
    rfl
theorem chk_some {s : ByteArray} {l : List Tok} (h : patO s = some l) : chkO s = 0 ∧ parse (s.size + 1) (gL s) = some l := by
  unfold patO at h
  unfold chkO
  split at h
  · rw [if_neg (by omega), h]
    exact ⟨rfl, rfl⟩
  · cases h
set_option maxHeartbeats 4000000 in
set_option maxRecDepth 100000 in
theorem remoraref14_Head.calls (a0 : ByteArray) (r : ByteArray) (w : World) (h : remoraref14_Head.f a0 = some r) : Calls Try.prog 20 #[.string a0] w fun e w' => e = .returned (.string r) ∧ Below w.heap.size w w' := by
  unfold remoraref14_Head.f at h
  split at h
  · rename_i hs
    have h := Option.some.inj h
    have hck : ∀ w, Calls Try.prog 12 #[.string a0] w fun e w' => e = .returned (.int .i64 (chkO a0)) ∧ Below w.heap.size w w' := fun w => remoraref14_Check.calls a0 _ w (by rw [remoraref14_Check.f, if_pos hs])
    have hsc := rsigns_call a0 hs
    have und := Try.underlying36
    have und8 := Try.underlying5
    have undS := Try.underlying9
    have i5 : (Try.prog.info? 5).map (fun i => (i.zero, i.size, i.bytes)) = some (some (.int .u8 0), 1, 1) := by kernel_rfl
    cases hp : patO a0 with
    | none =>
      have q1 := chk_none hp
      rw [hp] at h
      subst h
      clear hp hsc
      generalize chkO a0 = cc at *
      go_enter Try.func20, Try.ntmps20
      go_wp2_with (go_at_call 12; (with_reducible refine (hck _).mono ?_); rintro e w1 ⟨rfl, hb⟩)
      go_ret
      exact ⟨rfl, hb⟩
    | some l =>
      have hl := patO_len hp
      obtain ⟨hz, hq⟩ := chk_some hp
      rw [hz] at hck
      rw [hq] at hsc
      rw [hp] at h
      subst h
      clear hp hz hq
      go_enter Try.func20, Try.ntmps20
      go_wp2_with (first | (go_at_call 12; (with_reducible refine (hck _).mono ?_); rintro e w0 ⟨rfl, hb0⟩) | (go_at_call 15; (with_reducible refine (hsc _).mono ?_); rintro e w1 ⟨hb1, v, rfl, hR0⟩; have hR := SgRow.from_ hR0 hb0; clear hR0; obtain ⟨A, cp, rfl, hS⟩ := SgVal.of_map hR; have HD := Aside0.mk (HRow.start (U := 5) hR hS); clear hR hS hb1 hb0))
      go_loopw [5, 6] (fun v5 v6 wr => ∃ (k : Nat) (out : List Int), v6 = .int .i64 k ∧ Aside0 (HInv l k out) ∧ Aside0 (HRow 34 5 w wr A (l.map refSg) v5 out)) (fun _ v6 _ => l.length - (intOf v6).toNat)
      case atStart => exact ⟨0, [], rfl, ⟨HInv.start l⟩, HD⟩
      case round =>
        clear HD
        obtain ⟨k, out, rfl, HC, HD⟩ := hrel
        by_cases hk : k < l.length
        · have e0 : ((k : Int) < (l.length : Int)) = True := eq_true (by omega)
          obtain ⟨t, ht⟩ : ∃ t, l[k]? = some t := ⟨_, List.getElem?_eq_getElem hk⟩
          obtain ⟨g, hg, hc0, hc1⟩ := HD.out.cell ht
          subst hg
          have hln : out.length < 1000000 := by have := HC.out.2.1; omega
          by_cases hlit : ∃ c, t = .lit c
          · obtain ⟨c, rfl⟩ := hlit
            change _ = some (Value.int .i64 0) at hc0
            change _ = some (Value.int .u8 c) at hc1
            have HC2 := Aside0.mk (HC.out.next ht)
            clear ht
            go_wp2_with (first | ((with_reducible refine gate_builtin (b := .append) (xs := #[.tmp 29, .tmp 35]) rfl ?_); at_builtin; refine byteApp (w0 := w) rfl (.tmp 29) (.tmp 35) 36 5 rfl (some 36) rfl und i5 (by decide) u5 out c rfl rfl HD.out hln ?_; intro v1 w1 he_; have HE := Aside0.mk he_; clear he_ HD))
            go_roundw
            case rel => exact ⟨k + 1, out ++ [c], by go_num, HC2, HE⟩
            case measure => simp [intOf]; omega
          · have hn : ∀ c, t ≠ .lit c := fun c e => hlit ⟨c, e⟩
            have q1 := (code_lit hn).2
            have HR := Aside0.mk (HC.out.stop ht hn).1
            clear hn hlit ht
            obtain ⟨A2, c2, hv⟩ := Kd.R_slice HD.out.row_
            subst hv
            have hcv := hd_str (dst := 9) und und8 undS HD.out.row_
            generalize (refSg t).k = kk at *
            go_wp2
            go_ret
            exact ⟨by rw [hdS, HR.out]; try rfl, HD.out.below⟩
        · have hr1 : hdL l = out := by
            have hkl : k = l.length := by have := HC.out.1; omega
            rw [hkl] at HC
            exact HC.out.done.1
          have HR := Aside0.mk hr1
          clear hr1
          have e0 : ((k : Int) < (l.length : Int)) = False := eq_false (by omega)
          obtain ⟨A2, c2, hv⟩ := Kd.R_slice HD.out.row_
          subst hv
          have hcv := hd_str (dst := 9) und und8 undS HD.out.row_
          go_wp2
          go_ret
          exact ⟨by rw [hdS, HR.out]; try rfl, HD.out.below⟩
  · cases h
end Go.Proofs.Ytiigjnccoeadlaa.PA
