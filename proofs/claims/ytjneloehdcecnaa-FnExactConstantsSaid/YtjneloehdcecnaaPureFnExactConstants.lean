/- Every exported constant is the document's: no input, no condition. -/
import Derived.Test.YtjneloehdcecnaaPlawsFnExactConstants
namespace Go.Proofs.Ytjneloehdcecnaa.Pure
open Go.RowKit Go.Proofs.Ytjneloehdcecnaa.P Go.Proofs.YtjneloehdcecnaaW.PrintWords Go.Proofs.YtjneloehdcecnaaW.PrintLast

theorem FnExactConstants : laws_FnExactConstants.Pure := by
  unfold laws_FnExactConstants.Pure laws_FnExactConstants.f
  rfl

end Go.Proofs.Ytjneloehdcecnaa.Pure
