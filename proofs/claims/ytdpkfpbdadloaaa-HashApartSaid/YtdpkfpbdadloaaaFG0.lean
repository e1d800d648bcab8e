-- printed by a program of this session (myprint.py) out of the translation
import Derived.Test.YtdpkfpbdadloaaaProg
import Derived.Below
import Derived.Deep.Draws
import Derived.Deep.AppendLies
import Derived.Maps.AppendAt
import Derived.OwnWalk
import Derived.Laws.BytesArg
import Derived.Laws.MakeOwn
import Derived.Laws.OwnMore
import Derived.Deep.OwnRows
import Derived.Tactics
import Derived.Lib.ConvBytes
import Derived.Laws.Slices
import Derived.WalkKit
import Derived.KernelRfl
import Derived.RowKit3
import Derived.Deep.LoopGhost
import Derived.Deep.QuietTactic
import Derived.BigQuiet
import Derived.WideLaws
import Derived.Deep.DeepCutAuto
import Derived.Deep.CutBlock
import Derived.Deep.RegionHeld3
import Derived.Laws.Rows
import Derived.Lib.AppendStr
import Derived.ArgAppend
import Derived.Laws.IdiomCopy
import Derived.OrdersHeld
import Derived.Laws.BitsLemmas
import Derived.RowKit
import Derived.Test.YtdpkfpbdadloaaaWWords
import Derived.Test.YtdpkfpbdadloaaaWLast
import Derived.Test.YtdpkfpbdadloaaaWTab
import Derived.Test.YtdpkfpbdadloaaaWFour
import Derived.Test.YtdpkfpbdadloaaaWQPut
import Derived.Test.YtdpkfpbdadloaaaWApart
import Derived.Test.YtdpkfpbdadloaaaWArr
import Derived.Test.YtdpkfpbdadloaaaWZeros
import Derived.Test.YtdpkfpbdadloaaaWFoot
import Derived.Test.YtdpkfpbdadloaaaWKept
import Derived.Test.YtdpkfpbdadloaaaWShare
import Derived.Test.YtdpkfpbdadloaaaWN
import Derived.Test.YtdpkfpbdadloaaaWFootNe
import Derived.Test.YtdpkfpbdadloaaaWAt
import Derived.Test.YtdpkfpbdadloaaaWEqStruct
import Derived.Test.YtdpkfpbdadloaaaWRepsOne
import Derived.Test.YtdpkfpbdadloaaaWInv
import Derived.Test.YtdpkfpbdadloaaaWInvWords
import Derived.Test.YtdpkfpbdadloaaaWGuard
import Derived.Test.YtdpkfpbdadloaaaWNEv
import Derived.Test.YtdpkfpbdadloaaaWMore
namespace Go.Proofs.Ytdpkfpbdadloaaa.PG
open Go.RowKit Go.Proofs.YtdpkfpbdadloaaaW.PrintWords Go.Proofs.YtdpkfpbdadloaaaW.PrintLast Go.Proofs.YtdpkfpbdadloaaaW.PrintMore
attribute [local go_sem] max2_int min2_int max_two min_two max_three min_three max_four min_four   -- for this text's walks alone
set_option linter.unusedVariables false
set_option linter.unusedSimpArgs false



def errW : Option Int → Value
  | none => .nilIface
  | some c => .iface 0 (.int .i64 c)
theorem errW_none : errW none = .nilIface := rfl
theorem errW_some (c : Int) : errW (some c) = .iface 0 (.int .i64 c) := rfl

theorem info3 : (Try.prog.info? 3).map (fun i => (i.zero, i.size, i.bytes)) = some (some (.int .i64 0), 1, 8) := by kernel_rfl
-- the values' own types

end Go.Proofs.Ytdpkfpbdadloaaa.PG
