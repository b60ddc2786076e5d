/- glob.head by its contract. -/
import Derived.Test.YtiigjnccoeadlaaPAx0
import Derived.Test.YtiigjnccoeadlaaXEmptyW
import Derived.Test.YtiigjnccoeadlaaXGlobApp
import Derived.Test.YtiigjnccoeadlaaXGlobBase
import Derived.Test.YtiigjnccoeadlaaXHeadBase
import Derived.Test.YtiigjnccoeadlaaXSignsW
namespace Go.Proofs.Ytiigjnccoeadlaa.PA
open Go.RowKit Go.Proofs.YtiigjnccoeadlaaW.PrintWords Go.Proofs.YtiigjnccoeadlaaW.PrintLast Go.Proofs.YtiigjnccoeadlaaW.PrintMore
attribute [local go_sem] max2_int min2_int max_two min_two max_three min_three max_four min_four
set_option linter.unusedVariables false
set_option linter.unusedSimpArgs false
def hdO : Option (List Tok) → ByteArray × Bool
  | none => (⟨#[]⟩, false)
  | some l => (strOfNums (hdL l), litAll l)
def glob_head.f (a0 : ByteArray) : Option (ByteArray × Bool) := if a0.size < 1000000 then some (hdO (patO a0)) else none
set_option maxHeartbeats 4000000 in
set_option maxRecDepth 100000 in
theorem glob_head.calls (a0 : ByteArray) (r1 : ByteArray) (r2 : Bool) (w : World) (h : glob_head.f a0 = some (r1, r2)) : Calls Try.prog 29 #[.string a0] w fun e w' => e = .returned (.tuple #[.string r1, .bool r2]) ∧ Below w.heap.size w w' := by
  unfold glob_head.f at h
  split at h
  · rename_i hs
    have h := Option.some.inj h
    have hsc : ∀ w, Calls Try.prog 22 #[.string a0] w (SgsPost 45 codeSg (patO a0) w) := signs_call a0 hs
    have und := Try.underlying36
    have und8 := Try.underlying5
    have undS := Try.underlying9
    have i5 : (Try.prog.info? 5).map (fun i => (i.zero, i.size, i.bytes)) = some (some (.int .u8 0), 1, 1) := by kernel_rfl
    cases hp : patO a0 with
    | none =>
      rw [hp] at hsc h
      obtain ⟨rfl, rfl⟩ := Prod.mk.inj h
      clear hp h
      go_enter Try.func29, Try.ntmps29
      go_wp2
      go_step3
      go_wp2_with (go_at_call 22; (with_reducible refine (hsc _).mono ?_); rintro e w1 ⟨hb, rfl⟩)
      try rw [Exit.noGoto_ret]
      go_ret2
      exact ⟨rfl, hb⟩
    | some l =>
      have hl := patO_len hp
      rw [hp] at hsc h
      obtain ⟨rfl, rfl⟩ := Prod.mk.inj h
      clear hp h
      go_enter Try.func29, Try.ntmps29
      go_wp2
      go_step3
      go_wp2_with (go_at_call 22; (with_reducible refine (hsc _).mono ?_); rintro e w1 ⟨hb1, v, rfl, hR⟩; obtain ⟨A, cp, rfl, hS⟩ := SgVal.of_map hR; have HD := Aside0.mk (HRow.start (U := 5) hR hS); clear hR hS hb1)
      go_step3
      go_wp2
      go_loopw [5, 6, 17] (fun v5 v6 v17 wr => ∃ (k : Nat) (out : List Int), v17 = .int .i64 k ∧ v5 = .bool true ∧ Aside0 (HInv l k out) ∧ Aside0 (HRow 45 5 w wr A (l.map codeSg) v6 out)) (fun _ _ v17 _ => l.length - (intOf v17).toNat)
      case atStart => exact ⟨0, [], rfl, rfl, ⟨HInv.start l⟩, HD⟩
      case round =>
        clear HD
        obtain ⟨k, out, rfl, rfl, HC, HD⟩ := hrel
        by_cases hk : k < l.length
        · have e0 : ((k : Int) < (l.length : Int)) = True := eq_true (by omega)
          obtain ⟨t, ht⟩ : ∃ t, l[k]? = some t := ⟨_, List.getElem?_eq_getElem hk⟩
          obtain ⟨g, hg, hc0, hc1⟩ := HD.out.cell ht
          subst hg
          have hln : out.length < 1000000 := by have := HC.out.2.1; omega
          by_cases hlit : ∃ c, t = .lit c
          · obtain ⟨c, rfl⟩ := hlit
            change _ = some (Value.int .i64 0) at hc0
            change _ = some (Value.int .u8 c) at hc1
            have HC2 := Aside0.mk (HC.out.next ht)
            clear ht
            go_wp2_with (first | ((with_reducible refine gate_builtin (b := .append) (xs := #[.tmp 27, .tmp 33]) rfl ?_); at_builtin; refine byteApp (w0 := w) rfl (.tmp 27) (.tmp 33) 36 5 rfl (some 34) rfl und i5 (by decide) u6 out c rfl rfl HD.out hln ?_; intro v1 w1 he_; have HE := Aside0.mk he_; clear he_ HD))
            go_roundw
            case rel => exact ⟨k + 1, out ++ [c], by go_num, rfl, HC2, HE⟩
            case measure => simp [intOf]; omega
          · have hn : ∀ c, t ≠ .lit c := fun c e => hlit ⟨c, e⟩
            have q1 := (code_lit hn).1
            obtain ⟨r1, r2⟩ := HC.out.stop ht hn
            have HR := Aside0.mk r1
            have HR2 := Aside0.mk r2
            clear r1 r2 hn hlit ht
            obtain ⟨A2, c2, hv⟩ := Kd.R_slice HD.out.row_
            subst hv
            have hcv := hd_str (dst := 9) und und8 undS HD.out.row_
            generalize (codeSg t).k = kk at *
            go_wp2
            try rw [Exit.noGoto_ret]
            go_ret2
            exact ⟨by rw [HR.out, HR2.out]; try rfl, HD.out.below⟩
        · obtain ⟨r1, r2⟩ : hdL l = out ∧ litAll l = true := by
            have hkl : k = l.length := by have := HC.out.1; omega
            rw [hkl] at HC
            exact HC.out.done
          have HR := Aside0.mk r1
          have HR2 := Aside0.mk r2
          clear r1 r2
          have e0 : ((k : Int) < (l.length : Int)) = False := eq_false (by omega)
          obtain ⟨A2, c2, hv⟩ := Kd.R_slice HD.out.row_
          subst hv
          have hcv := hd_str (dst := 9) und und8 undS HD.out.row_
          go_wp2
          try rw [Exit.noGoto_ret]
          go_ret2
          exact ⟨by rw [HR.out, HR2.out]; try rfl, HD.out.below⟩
  · cases h
end Go.Proofs.Ytiigjnccoeadlaa.PA
