-- Written by a program of this session (myprint.py: the kit's print.py, changed), out of the translation.
import Derived.Test.YtnbobpbdclbjlaaProg
import Derived.Below
import Derived.Deep.Draws
import Derived.Deep.AppendLies
import Derived.Maps.AppendAt
import Derived.OwnWalk
import Derived.Laws.BytesArg
import Derived.Laws.MakeOwn
import Derived.Laws.OwnMore
import Derived.Deep.OwnRows
import Derived.Tactics
import Derived.Lib.ConvBytes
import Derived.Laws.Slices
import Derived.WalkKit
import Derived.KernelRfl
import Derived.RowKit3
import Derived.Deep.LoopGhost
import Derived.Deep.QuietTactic
import Derived.BigQuiet
import Derived.WideLaws
import Derived.Deep.DeepCutAuto
import Derived.Deep.CutBlock
import Derived.Deep.RegionHeld3
import Derived.Laws.Rows
import Derived.Lib.AppendStr
import Derived.ArgAppend
import Derived.Laws.IdiomCopy
import Derived.OrdersHeld
import Derived.Laws.BitsLemmas
import Derived.RowKit
import Derived.Test.YtnbobpbdclbjlaaWWords
import Derived.Test.YtnbobpbdclbjlaaWLast
import Derived.Test.YtnbobpbdclbjlaaWTab
import Derived.Test.YtnbobpbdclbjlaaWFour
import Derived.Test.YtnbobpbdclbjlaaWQPut
import Derived.Test.YtnbobpbdclbjlaaWApart
import Derived.Test.YtnbobpbdclbjlaaWArr
import Derived.Test.YtnbobpbdclbjlaaWZeros
import Derived.Test.YtnbobpbdclbjlaaWFoot
import Derived.Test.YtnbobpbdclbjlaaWKept
import Derived.Test.YtnbobpbdclbjlaaWShare
import Derived.Test.YtnbobpbdclbjlaaWN
import Derived.Test.YtnbobpbdclbjlaaWFootNe
import Derived.Test.YtnbobpbdclbjlaaWAt
import Derived.Test.YtnbobpbdclbjlaaWEqStruct
import Derived.Test.YtnbobpbdclbjlaaWRepsOne
import Derived.Test.YtnbobpbdclbjlaaWInv
import Derived.Test.YtnbobpbdclbjlaaWInvWords
import Derived.Test.YtnbobpbdclbjlaaWGuard
import Derived.Test.YtnbobpbdclbjlaaWNEv
import Derived.Test.YtnbobpbdclbjlaaWMore
namespace Go.Proofs.Ytnbobpbdclbjlaa.PFnInks
open Go.RowKit Go.Proofs.YtnbobpbdclbjlaaW.PrintWords Go.Proofs.YtnbobpbdclbjlaaW.PrintLast Go.Proofs.YtnbobpbdclbjlaaW.PrintMore
attribute [local go_sem] max2_int min2_int max_two min_two max_three min_three max_four min_four   -- for this text's walks alone
set_option linter.unusedVariables false
set_option linter.unusedSimpArgs false



def errW : Option Int → Value
  | none => .nilIface
  | some c => .iface 0 (.int .i64 c)
theorem errW_none : errW none = .nilIface := rfl
theorem errW_some (c : Int) : errW (some c) = .iface 0 (.int .i64 c) := rfl

theorem info3 : (Try.prog.info? 3).map (fun i => (i.zero, i.size, i.bytes)) = some (some (.int .i64 0), 1, 8) := by kernel_rfl
-- the values' own types

end Go.Proofs.Ytnbobpbdclbjlaa.PFnInks
