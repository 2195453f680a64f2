/- The print's words, without those that nothing here names. -/

import Derived.Test.YtgeokcjjkodpeaaWInv
import Derived.Test.YtgeokcjjkodpeaaWFootNe
namespace Go.Proofs.YtgeokcjjkodpeaaW.PrintWords
open Go.RowKit
end Go.Proofs.YtgeokcjjkodpeaaW.PrintWords
namespace Go.Proofs.YtgeokcjjkodpeaaW.PrintLast
section
variable {ops : Array Oper} {a : Act} {o og : Oper} {g : Nat} {t : Tmp} {u : Bool}
end
end Go.Proofs.YtgeokcjjkodpeaaW.PrintLast

