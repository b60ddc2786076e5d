/- remoraref14.Check by its contract. -/
import Derived.Test.YtiigjnccoeadlaaPAx0
import Derived.Test.YtiigjnccoeadlaaXGlobSpec
import Derived.Test.YtiigjnccoeadlaaXSignsRW
import Derived.Test.YtiigjnccoeadlaaXglobCheck
namespace Go.Proofs.Ytiigjnccoeadlaa.PA
open Go.RowKit Go.Proofs.YtiigjnccoeadlaaW.PrintWords Go.Proofs.YtiigjnccoeadlaaW.PrintLast Go.Proofs.YtiigjnccoeadlaaW.PrintMore
attribute [local go_sem] max2_int min2_int max_two min_two max_three min_three max_four min_four
set_option linter.unusedVariables false
set_option linter.unusedSimpArgs false
def remoraref14_Check.f (a0 : ByteArray) : Option Int := if a0.size < 1000000 then some (chkO a0) else none
theorem remoraref14_Check.calls (a0 : ByteArray) (r : Int) (w : World) (h : remoraref14_Check.f a0 = some r) : Calls Try.prog 12 #[.string a0] w fun e w' => e = .returned (.int .i64 r) ∧ Below w.heap.size w w' := by
  unfold remoraref14_Check.f at h
  split at h
  · rename_i hs
    obtain rfl := Option.some.inj h
    clear h
    have hsc := rsigns_call a0 hs
    by_cases h100 : a0.size ≤ 100
    · have HE : Aside0 (chkO a0 = chkP (parse (a0.size + 1) (gL a0))) := ⟨by unfold chkO; rw [if_neg (by omega)]⟩
      have c1 : ((100 : Int) < (a0.size : Int)) = False := eq_false (by omega)
      have c2 : (100 < a0.size) = False := eq_false (by omega)
      cases hp : parse (a0.size + 1) (gL a0) with
      | none =>
        rw [hp] at hsc HE
        clear hp
        go_enter Try.func12, Try.ntmps12
        go_wp2_with (go_at_call 15; (with_reducible refine (hsc _).mono ?_); rintro e w1 ⟨hb, rfl⟩)
        go_ret
        exact ⟨by rw [HE.out]; rfl, hb⟩
      | some l =>
        rw [hp] at hsc HE
        clear hp
        go_enter Try.func12, Try.ntmps12
        go_wp2_with (go_at_call 15; (with_reducible refine (hsc _).mono ?_); rintro e w1 ⟨hb, v, rfl, hR⟩)
        go_ret
        exact ⟨by rw [HE.out]; rfl, hb⟩
    · have HE : Aside0 (chkO a0 = 7) := ⟨by unfold chkO; rw [if_pos (by omega)]⟩
      have c1 : ((100 : Int) < (a0.size : Int)) = True := eq_true (by omega)
      have c2 : (100 < a0.size) = True := eq_true (by omega)
      clear hsc
      go_enter Try.func12, Try.ntmps12
      go_wp2
      go_ret
      exact ⟨by rw [HE.out]; rfl, Below.refl _ _⟩
  · cases h
end Go.Proofs.Ytiigjnccoeadlaa.PA
