/- cmp.Compare of two strings: -1, 0 or 1. -/
import Derived.Laws.Cover1
import Derived.Test.YtdomeeaaidjmpaaPAx0
namespace Go.Proofs.Ytdomeeaaidjmpaa.PA
open Go.RowKit Go.Proofs.YtdomeeaaidjmpaaW.PrintWords Go.Proofs.YtdomeeaaidjmpaaW.PrintLast Go.Proofs.YtdomeeaaidjmpaaW.PrintMore
attribute [local go_sem] max2_int min2_int max_two min_two max_three min_three max_four min_four
set_option linter.unusedVariables false
set_option linter.unusedSimpArgs false
def cmp_Compare_string.f (a0 : ByteArray) (a1 : ByteArray) : Option Int := some (if Op.bytesLess a0.toList a1.toList = true then (-1) else if (a0.toList == a1.toList) = true then 0 else 1)
set_option maxHeartbeats 1000000 in
set_option maxRecDepth 100000 in
theorem cmp_nan (a : ByteArray) (w : World) : Calls Try.prog 57 #[.string a] w fun e w' => e = .returned (.bool false) ∧ w' = w := by
  have q : (a.toList != a.toList) = false := bne_self_eq_false _
  go_enter Try.func57, Try.ntmps57
  go_wp2
  go_ret
  exact ⟨rfl, rfl⟩
set_option maxHeartbeats 1000000 in
set_option maxRecDepth 100000 in
theorem cmp_Compare_string.calls (a0 : ByteArray) (a1 : ByteArray) (r : Int) (w : World) (h : cmp_Compare_string.f a0 a1 = some r) :
    Calls Try.prog 50 #[.string a0, .string a1] w fun e w' => e = .returned (.int .i64 r) ∧ Drawn0 w w' := by
  obtain rfl := Option.some.inj h
  clear h
  cases h1 : Op.bytesLess a0.toList a1.toList with
  | true =>
    go_enter Try.func50, Try.ntmps50
    go_wp2_with (go_at_call 57; refine (cmp_nan _ _).mono ?_; rintro e w' ⟨rfl, rfl⟩)
    go_ret
    exact ⟨rfl, Drawn0.refl _⟩
  | false =>
    cases h2 : (a0.toList == a1.toList) with
    | true =>
      go_enter Try.func50, Try.ntmps50
      go_wp2_with (go_at_call 57; refine (cmp_nan _ _).mono ?_; rintro e w' ⟨rfl, rfl⟩)
      go_ret
      exact ⟨rfl, Drawn0.refl _⟩
    | false =>
      go_enter Try.func50, Try.ntmps50
      go_wp2_with (go_at_call 57; refine (cmp_nan _ _).mono ?_; rintro e w' ⟨rfl, rfl⟩)
      go_ret
      exact ⟨rfl, Drawn0.refl _⟩
end Go.Proofs.Ytdomeeaaidjmpaa.PA
