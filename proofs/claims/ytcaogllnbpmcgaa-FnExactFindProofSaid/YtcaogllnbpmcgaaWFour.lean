/- The print's words, without those that nothing here names. -/

import Derived.Test.YtcaogllnbpmcgaaWTab
namespace Go.Proofs.YtcaogllnbpmcgaaW.PrintLast
section
variable {P : Program} {ops : Array Oper} {Q : Exit → Act → World → Prop} {md : Region.Mode} {S : World → Prop} {ds : List Nat} {T : Bool × List (List Nat × List Nat)}
end
end Go.Proofs.YtcaogllnbpmcgaaW.PrintLast

