/- The print's words, without those that nothing here names. -/

import Derived.SizedLaws
import Derived.ChangeSlices
namespace Go.Proofs.YtcaogllnbpmcgaaDoorW.PrintWords
open Go.ChangeShapes Go.WideShapes
end Go.Proofs.YtcaogllnbpmcgaaDoorW.PrintWords

