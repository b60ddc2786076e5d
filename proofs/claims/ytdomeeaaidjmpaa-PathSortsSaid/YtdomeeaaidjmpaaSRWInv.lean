/- Own texts and the print's words: WInv to WInv. -/
import Derived.Test.YtdomeeaaidjmpaaSRWTab
namespace Go.Proofs.YtdomeeaaidjmpaaW.PrintLast
section
variable {P : Program} {ops : Array Oper} {Q : Exit → Act → World → Prop} {md : Region.Mode} {T : Bool × List (List Nat × List Nat)} {B : List Nat} {O : List Nat} {b : Nat → Bool} {i j n : Nat}
end
end Go.Proofs.YtdomeeaaidjmpaaW.PrintLast
