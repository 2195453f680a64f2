/- The print's words, without those that nothing here names. -/

import Derived.Test.YtcaogllnbpmcgaaWInv
import Derived.Test.YtcaogllnbpmcgaaWFootNe
namespace Go.Proofs.YtcaogllnbpmcgaaW.PrintWords
open Go.RowKit
end Go.Proofs.YtcaogllnbpmcgaaW.PrintWords
namespace Go.Proofs.YtcaogllnbpmcgaaW.PrintLast
section
variable {ops : Array Oper} {a : Act} {o og : Oper} {g : Nat} {t : Tmp} {u : Bool}
end
end Go.Proofs.YtcaogllnbpmcgaaW.PrintLast

