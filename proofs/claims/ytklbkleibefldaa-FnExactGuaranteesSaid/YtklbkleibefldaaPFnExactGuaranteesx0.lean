-- WALKS, by a program and by hand
import Derived.Test.YtklbkleibefldaaProg
import Derived.Below
import Derived.Deep.Draws
import Derived.Deep.AppendLies
import Derived.Maps.AppendAt
import Derived.OwnWalk
import Derived.Laws.BytesArg
import Derived.Laws.MakeOwn
import Derived.Laws.OwnMore
import Derived.Deep.OwnRows
import Derived.Tactics
import Derived.Lib.ConvBytes
import Derived.Laws.Slices
import Derived.WalkKit
import Derived.KernelRfl
import Derived.RowKit3
import Derived.Deep.LoopGhost
import Derived.Deep.QuietTactic
import Derived.BigQuiet
import Derived.WideLaws
import Derived.Deep.DeepCutAuto
import Derived.Deep.CutBlock
import Derived.Deep.RegionHeld3
import Derived.Laws.Rows
import Derived.Lib.AppendStr
import Derived.ArgAppend
import Derived.Laws.IdiomCopy
import Derived.OrdersHeld
import Derived.Laws.BitsLemmas
import Derived.RowKit
import Derived.Test.YtklbkleibefldaaFw
import Derived.Test.YtklbkleibefldaaWWords
import Derived.Test.YtklbkleibefldaaWLast
import Derived.Test.YtklbkleibefldaaWTab
import Derived.Test.YtklbkleibefldaaWFour
import Derived.Test.YtklbkleibefldaaWQPut
import Derived.Test.YtklbkleibefldaaWApart
import Derived.Test.YtklbkleibefldaaWArr
import Derived.Test.YtklbkleibefldaaWZeros
import Derived.Test.YtklbkleibefldaaWFoot
import Derived.Test.YtklbkleibefldaaWKept
import Derived.Test.YtklbkleibefldaaWShare
import Derived.Test.YtklbkleibefldaaWN
import Derived.Test.YtklbkleibefldaaWFootNe
import Derived.Test.YtklbkleibefldaaWAt
import Derived.Test.YtklbkleibefldaaWEqStruct
import Derived.Test.YtklbkleibefldaaWRepsOne
import Derived.Test.YtklbkleibefldaaWInv
import Derived.Test.YtklbkleibefldaaWInvWords
import Derived.Test.YtklbkleibefldaaWGuard
import Derived.Test.YtklbkleibefldaaWNEv
import Derived.Test.YtklbkleibefldaaWMore
namespace Go.Proofs.Ytklbkleibefldaa.PFnExactGuarantees
open Go.RowKit Go.Proofs.YtklbkleibefldaaW.PrintWords Go.Proofs.YtklbkleibefldaaW.PrintLast Go.Proofs.YtklbkleibefldaaW.PrintMore
attribute [local go_sem] max2_int min2_int max_two min_two max_three min_three max_four min_four   -- for this text's walks alone
set_option linter.unusedVariables false
set_option linter.unusedSimpArgs false



def errW : Option Int → Value
  | none => .nilIface
  | some c => .iface 0 (.int .i64 c)
theorem errW_none : errW none = .nilIface := rfl
theorem errW_some (c : Int) : errW (some c) = .iface 0 (.int .i64 c) := rfl

theorem info2 : (Try.prog.info? 2).map (fun i => (i.zero, i.size, i.bytes)) = some (some (.int .i64 0), 1, 8) := by kernel_rfl
-- the values' own types

end Go.Proofs.Ytklbkleibefldaa.PFnExactGuarantees
