/- RefMakes: for every two numbers and every text, what is made is a UETR that bears the number digit by digit, and unlike numbers' are unlike; references are identifications. No condition. -/
import Derived.Test.YtiadcjdpeegbbaaDoorPAllx3
import Derived.Test.YtiadcjdpeegbbaaDoorPureRef2
namespace Go.Proofs.YtiadcjdpeegbbaaDoor.Pure
open Go.RowKit Go.Proofs.YtiadcjdpeegbbaaDoor.PAll
theorem RefMakes : remitterlaw07_RefMakes.Pure := RefMakes'
end Go.Proofs.YtiadcjdpeegbbaaDoor.Pure
