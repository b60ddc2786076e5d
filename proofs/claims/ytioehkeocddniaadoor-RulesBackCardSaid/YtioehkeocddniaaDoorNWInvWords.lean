/- Own texts and the print's words: WInvWords to WInvWords. -/
import Derived.Test.YtioehkeocddniaaDoorNWInv
import Derived.Test.YtioehkeocddniaaDoorNWFootNe
namespace Go.Proofs.YtioehkeocddniaaDoorW.PrintWords
open Go.RowKit
end Go.Proofs.YtioehkeocddniaaDoorW.PrintWords
namespace Go.Proofs.YtioehkeocddniaaDoorW.PrintLast
section
variable {ops : Array Oper} {a : Act} {o og : Oper} {g : Nat} {t : Tmp} {u : Bool}
end
end Go.Proofs.YtioehkeocddniaaDoorW.PrintLast
