/- The print's words, without those that nothing here names. -/

import Derived.Test.YtcaogllnbpmcgaaDoorWTab
namespace Go.Proofs.YtcaogllnbpmcgaaDoorW.PrintLast
section
variable {P : Program} {ops : Array Oper} {Q : Exit → Act → World → Prop} {md : Region.Mode} {S : World → Prop} {ds : List Nat} {T : Bool × List (List Nat × List Nat)}
end
end Go.Proofs.YtcaogllnbpmcgaaDoorW.PrintLast

