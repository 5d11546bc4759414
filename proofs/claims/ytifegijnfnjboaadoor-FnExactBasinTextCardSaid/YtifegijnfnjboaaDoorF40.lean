/- Walks of functions of this seat, printed by a program of this session; each contract speaks of every world that meets its premises. -/
import Derived.Test.YtifegijnfnjboaaDoorFA0
import Derived.Test.YtifegijnfnjboaaDoorProg
import Derived.Below
import Derived.Deep.Draws
import Derived.Deep.AppendLies
import Derived.Maps.AppendAt
import Derived.OwnWalk
import Derived.Laws.BytesArg
import Derived.Laws.MakeOwn
import Derived.Laws.OwnMore
import Derived.Deep.OwnRows
import Derived.Tactics
import Derived.Lib.ConvBytes
import Derived.Laws.Slices
import Derived.WalkKit
import Derived.KernelRfl
import Derived.RowKit3
import Derived.Deep.LoopGhost
import Derived.Deep.QuietTactic
import Derived.BigQuiet
import Derived.WideLaws
import Derived.Deep.DeepCutAuto
import Derived.Deep.CutBlock
import Derived.Deep.RegionHeld3
import Derived.Laws.Rows
import Derived.Lib.AppendStr
import Derived.ArgAppend
import Derived.Laws.IdiomCopy
import Derived.OrdersHeld
import Derived.Laws.BitsLemmas
import Derived.RowKit
import Derived.Test.YtifegijnfnjboaaDoorWWords
import Derived.Test.YtifegijnfnjboaaDoorWLast
import Derived.Test.YtifegijnfnjboaaDoorWTab
import Derived.Test.YtifegijnfnjboaaDoorWFour
import Derived.Test.YtifegijnfnjboaaDoorWQPut
import Derived.Test.YtifegijnfnjboaaDoorWApart
import Derived.Test.YtifegijnfnjboaaDoorWArr
import Derived.Test.YtifegijnfnjboaaDoorWZeros
import Derived.Test.YtifegijnfnjboaaDoorWFoot
import Derived.Test.YtifegijnfnjboaaDoorWKept
import Derived.Test.YtifegijnfnjboaaDoorWShare
import Derived.Test.YtifegijnfnjboaaDoorWN
import Derived.Test.YtifegijnfnjboaaDoorWFootNe
import Derived.Test.YtifegijnfnjboaaDoorWAt
import Derived.Test.YtifegijnfnjboaaDoorWEqStruct
import Derived.Test.YtifegijnfnjboaaDoorWRepsOne
import Derived.Test.YtifegijnfnjboaaDoorWInv
import Derived.Test.YtifegijnfnjboaaDoorWInvWords
import Derived.Test.YtifegijnfnjboaaDoorWGuard
import Derived.Test.YtifegijnfnjboaaDoorWNEv
import Derived.Test.YtifegijnfnjboaaDoorWMore
import Derived.Test.YtifegijnfnjboaaDoorWFl
namespace Go.Proofs.YtifegijnfnjboaaDoor.F4
open Go.Proofs.YtifegijnfnjboaaDoor.FA
open Go.RowKit Go.Proofs.YtifegijnfnjboaaDoorW.PrintWords Go.Proofs.YtifegijnfnjboaaDoorW.PrintLast Go.Proofs.YtifegijnfnjboaaDoorW.PrintMore
attribute [local go_sem] max2_int min2_int max_two min_two max_three min_three max_four min_four   -- for this text's walks alone
set_option linter.unusedVariables false
set_option linter.unusedSimpArgs false



def errW : Option Int → Value
  | none => .nilIface
  | some c => .iface 0 (.int .i64 c)
theorem errW_none : errW none = .nilIface := rfl
theorem errW_some (c : Int) : errW (some c) = .iface 0 (.int .i64 c) := rfl

theorem info2 : (Tryd.prog.info? 2).map (fun i => (i.zero, i.size, i.bytes)) = some (some (.int .i64 0), 1, 8) := by kernel_rfl
theorem info5 : (Tryd.prog.info? 5).map (fun i => (i.zero, i.size, i.bytes)) = some (some (.int .u8 0), 1, 1) := by kernel_rfl
theorem info9 : (Tryd.prog.info? 9).map (fun i => (i.zero, i.size, i.bytes)) = some (some (.string ⟨#[]⟩), 1, 16) := by kernel_rfl
theorem info68 : (Tryd.prog.info? 68).map (fun i => (i.zero, i.size, i.bytes)) = some (some (.float .f32 0), 1, 4) := by kernel_rfl
-- the values' own types

end Go.Proofs.YtifegijnfnjboaaDoor.F4
