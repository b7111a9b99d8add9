import Derived.Test.YtpedlkhfeoeogaaDoorWFootNe
namespace Go.Proofs.YtpedlkhfeoeogaaDoorW.PrintWords
open Go.RowKit
namespace Kd
end Kd
end Go.Proofs.YtpedlkhfeoeogaaDoorW.PrintWords
