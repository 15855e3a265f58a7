-- Written by a program of this session's (xprint.py) over the kit's print.
import Derived.Test.YtdnjlmoggnbknaaDoorProg
import Derived.Below
import Derived.Deep.Draws
import Derived.Deep.AppendLies
import Derived.Maps.AppendAt
import Derived.OwnWalk
import Derived.Laws.BytesArg
import Derived.Laws.MakeOwn
import Derived.Laws.OwnMore
import Derived.Deep.OwnRows
import Derived.Tactics
import Derived.Lib.ConvBytes
import Derived.Laws.Slices
import Derived.WalkKit
import Derived.KernelRfl
import Derived.RowKit3
import Derived.Deep.LoopGhost
import Derived.Deep.QuietTactic
import Derived.BigQuiet
import Derived.WideLaws
import Derived.Deep.DeepCutAuto
import Derived.Deep.CutBlock
import Derived.Deep.RegionHeld3
import Derived.Laws.Rows
import Derived.Lib.AppendStr
import Derived.ArgAppend
import Derived.Laws.IdiomCopy
import Derived.OrdersHeld
import Derived.Laws.BitsLemmas
import Derived.RowKit
import Derived.Test.YtdnjlmoggnbknaaDoorExt
import Derived.Test.YtdnjlmoggnbknaaDoorShelf
import Derived.Test.YtdnjlmoggnbknaaDoorTxt
import Derived.Lib.AtoiErrMem
import Derived.WalkMore
import Derived.Deep.WholeRow
import Derived.LoopTactic
import Derived.Test.YtdnjlmoggnbknaaDoorWWords
import Derived.Test.YtdnjlmoggnbknaaDoorWLast
import Derived.Test.YtdnjlmoggnbknaaDoorWTab
import Derived.Test.YtdnjlmoggnbknaaDoorWFootNe
import Derived.Test.YtdnjlmoggnbknaaDoorWQPut
import Derived.Test.YtdnjlmoggnbknaaDoorWApart
import Derived.Test.YtdnjlmoggnbknaaDoorWArr
import Derived.Test.YtdnjlmoggnbknaaDoorWKept
import Derived.Test.YtdnjlmoggnbknaaDoorWShare
import Derived.Test.YtdnjlmoggnbknaaDoorWN
import Derived.Test.YtdnjlmoggnbknaaDoorWGuard
import Derived.Test.YtdnjlmoggnbknaaDoorWNEv
import Derived.Test.YtdnjlmoggnbknaaDoorWMore
namespace Go.Proofs.YtdnjlmoggnbknaaDoor.PInt
open Go.RowKit Go.Proofs.YtdnjlmoggnbknaaDoor.Ext Go.Proofs.YtdnjlmoggnbknaaDoorW.PrintWords Go.Proofs.YtdnjlmoggnbknaaDoorW.PrintLast Go.Proofs.YtdnjlmoggnbknaaDoorW.PrintMore
attribute [local go_sem high] gtr_print leq_print
attribute [local go_sem] max2_int min2_int max_two min_two max_three min_three max_four min_four   -- for this text's walks alone
set_option linter.unusedVariables false
set_option linter.unusedSimpArgs false



def errW : Option Int → Value
  | none => .nilIface
  | some c => .iface 0 (.int .i64 c)
theorem errW_none : errW none = .nilIface := rfl
theorem errW_some (c : Int) : errW (some c) = .iface 0 (.int .i64 c) := rfl

theorem info3 : (Tryd.prog.info? 3).map (fun i => (i.zero, i.size, i.bytes)) = some (some (.int .i64 0), 1, 8) := by kernel_rfl
theorem info57 : (Tryd.prog.info? 57).map (fun i => (i.zero, i.size, i.bytes)) = some (some (.int .u64 0), 1, 8) := by kernel_rfl
-- the values' own types

end Go.Proofs.YtdnjlmoggnbknaaDoor.PInt
