import Derived.Test.YtpedlkhfeoeogaaDoorWN
namespace Go.Proofs.YtpedlkhfeoeogaaDoorW.PrintWords
open Go.RowKit
namespace Kd
end Kd
end Go.Proofs.YtpedlkhfeoeogaaDoorW.PrintWords
