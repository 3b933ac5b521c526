/- IbanFinds: the walk by hand bears all; nothing is left to prove over plain lists. -/
import Derived.Test.YtjblihfgpbnhbaaDoorGFinds1
namespace Go.Proofs.YtjblihfgpbnhbaaDoor.Pure
open Go.Proofs.YtjblihfgpbnhbaaDoor.PAll
theorem IbanFinds : remitterlaw03_IbanFinds.Pure := trivial
end Go.Proofs.YtjblihfgpbnhbaaDoor.Pure
