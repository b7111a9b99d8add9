import Derived.Test.YtpedlkhfeoeogaaGreatDoorWWords
import Derived.Test.YtpedlkhfeoeogaaGreatDoorWLast
namespace Go.Proofs.YtpedlkhfeoeogaaGreatDoorW.PrintWords
open Go.RowKit
namespace Kd
end Kd
end Go.Proofs.YtpedlkhfeoeogaaGreatDoorW.PrintWords
