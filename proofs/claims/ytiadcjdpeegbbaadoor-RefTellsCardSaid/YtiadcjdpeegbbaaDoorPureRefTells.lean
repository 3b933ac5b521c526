/- RefTells: for every text, whether it is a reference, an identification, a UETR, is what the document says. No condition. -/
import Derived.Test.YtiadcjdpeegbbaaDoorPAllx2
import Derived.Test.YtiadcjdpeegbbaaDoorPureRef
namespace Go.Proofs.YtiadcjdpeegbbaaDoor.Pure
open Go.RowKit Go.Proofs.YtiadcjdpeegbbaaDoor.PAll
theorem RefTells : remitterlaw07_RefTells.Pure := RefTells'
end Go.Proofs.YtiadcjdpeegbbaaDoor.Pure
