/- Own texts and the print's words: WFootNe to WFootNe. -/
import Derived.Test.YtdomeeaaidjmpaaSRWN
namespace Go.Proofs.YtdomeeaaidjmpaaW.PrintWords
open Go.RowKit
namespace Kd
section
variable {α : Type} {d : Kd α} {W : World} {g n : Nat} {S ok : Nat → Prop} {A : Option Addr} {ad : Addr} {xs : List α}
end
end Kd
end Go.Proofs.YtdomeeaaidjmpaaW.PrintWords
