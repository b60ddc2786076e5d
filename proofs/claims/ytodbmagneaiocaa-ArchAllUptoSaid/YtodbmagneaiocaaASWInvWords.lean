/- Own texts and the print's words: WInvWords to WInvWords. -/
import Derived.Test.YtodbmagneaiocaaASWInv
import Derived.Test.YtodbmagneaiocaaASWFootNe
namespace Go.Proofs.YtodbmagneaiocaaW.PrintWords
open Go.RowKit
end Go.Proofs.YtodbmagneaiocaaW.PrintWords
namespace Go.Proofs.YtodbmagneaiocaaW.PrintLast
section
variable {ops : Array Oper} {a : Act} {o og : Oper} {g : Nat} {t : Tmp} {u : Bool}
end
end Go.Proofs.YtodbmagneaiocaaW.PrintLast
