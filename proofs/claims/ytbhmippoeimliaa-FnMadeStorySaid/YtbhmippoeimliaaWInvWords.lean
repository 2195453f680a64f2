/- The print's words, without those that nothing here names. -/

import Derived.Test.YtbhmippoeimliaaWInv
import Derived.Test.YtbhmippoeimliaaWFootNe
namespace Go.Proofs.YtbhmippoeimliaaW.PrintWords
open Go.RowKit
end Go.Proofs.YtbhmippoeimliaaW.PrintWords
namespace Go.Proofs.YtbhmippoeimliaaW.PrintLast
section
variable {ops : Array Oper} {a : Act} {o og : Oper} {g : Nat} {t : Tmp} {u : Bool}
end
end Go.Proofs.YtbhmippoeimliaaW.PrintLast

