/- What the structs of the laws' arguments hold, and that they can be opened. -/
import Derived.Test.YtbcocpaeehgmnaaDoorLpx0
import Derived.Test.YtbcocpaeehgmnaaDoorRK
namespace Go.Proofs.YtbcocpaeehgmnaaDoor.Lp
open Go.ChangeShapes Go.WideShapes Go.RowKit Go.Proofs.YtbcocpaeehgmnaaDoorW.PrintWords Go.Proofs.YtbcocpaeehgmnaaDoorW.RK
end Go.Proofs.YtbcocpaeehgmnaaDoor.Lp
