import Derived.Test.YtpedlkhfeoeogaaDoorWInv
import Derived.Test.YtpedlkhfeoeogaaDoorWFootNe
namespace Go.Proofs.YtpedlkhfeoeogaaDoorW.PrintWords
open Go.RowKit
end Go.Proofs.YtpedlkhfeoeogaaDoorW.PrintWords
namespace Go.Proofs.YtpedlkhfeoeogaaDoorW.PrintLast
end Go.Proofs.YtpedlkhfeoeogaaDoorW.PrintLast
