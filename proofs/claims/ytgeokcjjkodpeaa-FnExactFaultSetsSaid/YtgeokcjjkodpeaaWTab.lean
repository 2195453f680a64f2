/- The print's words, without those that nothing here names. -/

import Derived.Test.YtgeokcjjkodpeaaWLast
import Derived.Test.YtgeokcjjkodpeaaWWords
namespace Go.Proofs.YtgeokcjjkodpeaaW.PrintLast
open Go.Proofs.YtgeokcjjkodpeaaW.PrintWords (Aside0)
section
variable {md : Region.Mode} {ops : Array Oper} {T : Bool × List (List Nat × List Nat)} {l l' li lj lk : Array Bool} {ds : List Nat} {i j k : Nat}
end
end Go.Proofs.YtgeokcjjkodpeaaW.PrintLast

