import Derived.Test.YtpedlkhfeoeogaaDoorWLast
import Derived.Test.YtpedlkhfeoeogaaDoorWWords
namespace Go.Proofs.YtpedlkhfeoeogaaDoorW.PrintLast
open Go.Proofs.YtpedlkhfeoeogaaDoorW.PrintWords (Aside0)
end Go.Proofs.YtpedlkhfeoeogaaDoorW.PrintLast
