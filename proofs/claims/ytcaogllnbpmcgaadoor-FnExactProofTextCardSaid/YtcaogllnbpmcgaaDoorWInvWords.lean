/- The print's words, without those that nothing here names. -/

import Derived.Test.YtcaogllnbpmcgaaDoorWInv
import Derived.Test.YtcaogllnbpmcgaaDoorWFootNe
namespace Go.Proofs.YtcaogllnbpmcgaaDoorW.PrintWords
open Go.RowKit
end Go.Proofs.YtcaogllnbpmcgaaDoorW.PrintWords
namespace Go.Proofs.YtcaogllnbpmcgaaDoorW.PrintLast
section
variable {ops : Array Oper} {a : Act} {o og : Oper} {g : Nat} {t : Tmp} {u : Bool}
end
end Go.Proofs.YtcaogllnbpmcgaaDoorW.PrintLast

