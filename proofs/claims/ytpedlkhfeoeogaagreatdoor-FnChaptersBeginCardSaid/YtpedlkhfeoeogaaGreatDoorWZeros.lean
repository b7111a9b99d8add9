import Derived.Test.YtpedlkhfeoeogaaGreatDoorWApart
import Derived.Test.YtpedlkhfeoeogaaGreatDoorWArr
namespace Go.Proofs.YtpedlkhfeoeogaaGreatDoorW.PrintWords
open Go.RowKit
namespace Kd
end Kd
end Go.Proofs.YtpedlkhfeoeogaaGreatDoorW.PrintWords
