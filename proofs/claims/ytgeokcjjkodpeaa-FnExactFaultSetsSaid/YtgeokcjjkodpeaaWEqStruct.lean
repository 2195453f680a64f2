/- The print's words, without those that nothing here names. -/

import Derived.Test.YtgeokcjjkodpeaaWWords
import Derived.Laws.StructEq
namespace Go.Proofs.YtgeokcjjkodpeaaW.PrintWords
open Go.RowKit
section
variable {P : Program} {d : Nat} {xs ys : Array Value} {f : Field} {fs : List Field} {a b : Value} {r s : Bool} {w : World}
end
end Go.Proofs.YtgeokcjjkodpeaaW.PrintWords

