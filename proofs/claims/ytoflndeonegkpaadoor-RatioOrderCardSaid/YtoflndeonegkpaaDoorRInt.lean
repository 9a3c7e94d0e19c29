/- garmentref02: make1, Norm, Neg, Mul, Add, Sub. -/
import Derived.Test.YtoflndeonegkpaaDoorInt2
import Derived.Test.YtoflndeonegkpaaDoorRef
namespace Go.Proofs.YtoflndeonegkpaaDoor
open Go.RowKit

end Go.Proofs.YtoflndeonegkpaaDoor
