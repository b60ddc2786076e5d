/- Own texts and the print's words: WInvWords to WInvWords. -/
import Derived.Test.YtdomeeaaidjmpaaSRWInv
import Derived.Test.YtdomeeaaidjmpaaSRWFootNe
namespace Go.Proofs.YtdomeeaaidjmpaaW.PrintWords
open Go.RowKit
end Go.Proofs.YtdomeeaaidjmpaaW.PrintWords
namespace Go.Proofs.YtdomeeaaidjmpaaW.PrintLast
section
variable {ops : Array Oper} {a : Act} {o og : Oper} {g : Nat} {t : Tmp} {u : Bool}
end
end Go.Proofs.YtdomeeaaidjmpaaW.PrintLast
