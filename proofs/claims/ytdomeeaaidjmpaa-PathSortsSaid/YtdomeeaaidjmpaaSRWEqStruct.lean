/- Own texts and the print's words: WEqStruct to WEqStruct. -/
import Derived.Test.YtdomeeaaidjmpaaSRWWords
import Derived.Laws.StructEq
namespace Go.Proofs.YtdomeeaaidjmpaaW.PrintWords
open Go.RowKit
section
variable {P : Program} {d : Nat} {xs ys : Array Value} {f : Field} {fs : List Field} {a b : Value} {r s : Bool} {w : World}
end
end Go.Proofs.YtdomeeaaidjmpaaW.PrintWords
