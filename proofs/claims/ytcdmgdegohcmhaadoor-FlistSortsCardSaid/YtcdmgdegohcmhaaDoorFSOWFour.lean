/- Own texts and the print's words: WFour to WFour. -/
import Derived.Test.YtcdmgdegohcmhaaDoorFSOWTab
namespace Go.Proofs.YtcdmgdegohcmhaaDoorW.PrintLast
section
variable {P : Program} {ops : Array Oper} {Q : Exit → Act → World → Prop} {md : Region.Mode} {S : World → Prop} {ds : List Nat} {T : Bool × List (List Nat × List Nat)}
end
end Go.Proofs.YtcdmgdegohcmhaaDoorW.PrintLast
