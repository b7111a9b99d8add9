-- PRINTED BY print.sh 35421559b90ae4d0a3588c463048766b98c2df88dd9212a6774a882060cdf62d: not written by this session
import Derived.Test.YtdjoegkoiapoaaaProg
import Derived.Below
import Derived.Deep.Draws
import Derived.Deep.AppendLies
import Derived.Maps.AppendAt
import Derived.OwnWalk
import Derived.Laws.BytesArg
import Derived.Laws.MakeOwn
import Derived.Laws.OwnMore
import Derived.Deep.OwnRows
import Derived.Tactics
import Derived.Lib.ConvBytes
import Derived.Laws.Slices
import Derived.WalkKit
import Derived.KernelRfl
import Derived.RowKit3
import Derived.Deep.LoopGhost
import Derived.Deep.QuietTactic
import Derived.BigQuiet
import Derived.WideLaws
import Derived.Deep.DeepCutAuto
import Derived.Deep.CutBlock
import Derived.Deep.RegionHeld3
import Derived.Laws.Rows
import Derived.Lib.AppendStr
import Derived.ArgAppend
import Derived.Laws.IdiomCopy
import Derived.OrdersHeld
import Derived.Laws.BitsLemmas
import Derived.RowKit
import Derived.Test.YtdjoegkoiapoaaaWWords
import Derived.Test.YtdjoegkoiapoaaaWLast
import Derived.Test.YtdjoegkoiapoaaaWTab
import Derived.Test.YtdjoegkoiapoaaaWFour
import Derived.Test.YtdjoegkoiapoaaaWQPut
import Derived.Test.YtdjoegkoiapoaaaWApart
import Derived.Test.YtdjoegkoiapoaaaWArr
import Derived.Test.YtdjoegkoiapoaaaWZeros
import Derived.Test.YtdjoegkoiapoaaaWFoot
import Derived.Test.YtdjoegkoiapoaaaWKept
import Derived.Test.YtdjoegkoiapoaaaWShare
import Derived.Test.YtdjoegkoiapoaaaWN
import Derived.Test.YtdjoegkoiapoaaaWFootNe
import Derived.Test.YtdjoegkoiapoaaaWAt
import Derived.Test.YtdjoegkoiapoaaaWEqStruct
import Derived.Test.YtdjoegkoiapoaaaWRepsOne
import Derived.Test.YtdjoegkoiapoaaaWInv
import Derived.Test.YtdjoegkoiapoaaaWInvWords
import Derived.Test.YtdjoegkoiapoaaaWGuard
import Derived.Test.YtdjoegkoiapoaaaWNEv
import Derived.Test.YtdjoegkoiapoaaaWMore
namespace Go.Proofs.Ytdjoegkoiapoaaa.PIsBinding
open Go.RowKit Go.Proofs.YtdjoegkoiapoaaaW.PrintWords Go.Proofs.YtdjoegkoiapoaaaW.PrintLast Go.Proofs.YtdjoegkoiapoaaaW.PrintMore
attribute [local go_sem] max2_int min2_int max_two min_two max_three min_three max_four min_four   -- for this text's walks alone
set_option linter.unusedVariables false
set_option linter.unusedSimpArgs false



def errW : Option Int → Value
  | none => .nilIface
  | some c => .iface 0 (.int .i64 c)
theorem errW_none : errW none = .nilIface := rfl
theorem errW_some (c : Int) : errW (some c) = .iface 0 (.int .i64 c) := rfl

theorem info3 : (Try.prog.info? 3).map (fun i => (i.zero, i.size, i.bytes)) = some (some (.int .i64 0), 1, 8) := by kernel_rfl
-- the values' own types

end Go.Proofs.Ytdjoegkoiapoaaa.PIsBinding
