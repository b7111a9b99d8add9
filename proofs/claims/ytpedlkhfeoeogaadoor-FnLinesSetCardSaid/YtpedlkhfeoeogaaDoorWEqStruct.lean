import Derived.Test.YtpedlkhfeoeogaaDoorWWords
import Derived.Laws.StructEq
namespace Go.Proofs.YtpedlkhfeoeogaaDoorW.PrintWords
open Go.RowKit
end Go.Proofs.YtpedlkhfeoeogaaDoorW.PrintWords
