/- Lemmas for the proof of this claim. -/
import Derived.Test.YtpbahibieegbgaaGreatTy
namespace Go.AM
open Go Go.Proofs
set_option maxRecDepth 100000
end Go.AM
