/- Own texts and the print's words: WFour to WFour. -/
import Derived.Test.YtdomeeaaidjmpaaSRWTab
namespace Go.Proofs.YtdomeeaaidjmpaaW.PrintLast
section
variable {P : Program} {ops : Array Oper} {Q : Exit → Act → World → Prop} {md : Region.Mode} {S : World → Prop} {ds : List Nat} {T : Bool × List (List Nat × List Nat)}
end
end Go.Proofs.YtdomeeaaidjmpaaW.PrintLast
