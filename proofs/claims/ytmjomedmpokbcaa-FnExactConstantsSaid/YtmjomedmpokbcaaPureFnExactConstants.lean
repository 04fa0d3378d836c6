/- Every constant of the program has the value that is specified. Conditions: none. -/
import Derived.Test.YtmjomedmpokbcaaB0
import Derived.Test.YtmjomedmpokbcaaB1
namespace Go.Proofs.Ytmjomedmpokbcaa.Pure
open Go.Proofs.Ytmjomedmpokbcaa.B
theorem FnExactConstants : laws_FnExactConstants.Pure := rfl
end Go.Proofs.Ytmjomedmpokbcaa.Pure
