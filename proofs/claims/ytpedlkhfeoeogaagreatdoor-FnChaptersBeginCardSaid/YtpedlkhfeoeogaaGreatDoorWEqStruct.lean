import Derived.Test.YtpedlkhfeoeogaaGreatDoorWWords
import Derived.Laws.StructEq
namespace Go.Proofs.YtpedlkhfeoeogaaGreatDoorW.PrintWords
open Go.RowKit
end Go.Proofs.YtpedlkhfeoeogaaGreatDoorW.PrintWords
