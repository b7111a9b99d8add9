import Derived.Test.YtpedlkhfeoeogaaDoorWWords
import Derived.Test.YtpedlkhfeoeogaaDoorWLast
namespace Go.Proofs.YtpedlkhfeoeogaaDoorW.PrintWords
open Go.RowKit
namespace Kd
end Kd
end Go.Proofs.YtpedlkhfeoeogaaDoorW.PrintWords
