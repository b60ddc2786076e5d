/- Own texts and the print's words: WInvWords to WInvWords. -/
import Derived.Test.YtcdmgdegohcmhaaDoorFSOWInv
import Derived.Test.YtcdmgdegohcmhaaDoorFSOWFootNe
namespace Go.Proofs.YtcdmgdegohcmhaaDoorW.PrintWords
open Go.RowKit
end Go.Proofs.YtcdmgdegohcmhaaDoorW.PrintWords
namespace Go.Proofs.YtcdmgdegohcmhaaDoorW.PrintLast
section
variable {ops : Array Oper} {a : Act} {o og : Oper} {g : Nat} {t : Tmp} {u : Bool}
end
end Go.Proofs.YtcdmgdegohcmhaaDoorW.PrintLast
