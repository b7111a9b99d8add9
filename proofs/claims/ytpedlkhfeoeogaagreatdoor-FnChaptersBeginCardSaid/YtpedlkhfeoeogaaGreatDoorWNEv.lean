import Derived.Test.YtpedlkhfeoeogaaGreatDoorWN
namespace Go.Proofs.YtpedlkhfeoeogaaGreatDoorW.PrintWords
open Go.RowKit
namespace Kd
end Kd
end Go.Proofs.YtpedlkhfeoeogaaGreatDoorW.PrintWords
