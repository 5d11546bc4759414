/- Walks of functions of this seat, printed by a program of this session; each contract speaks of every world that meets its premises. -/
import Derived.Test.YtffofpiejcolfaaDoorF00
import Derived.Test.YtffofpiejcolfaaDoorProg
import Derived.Below
import Derived.Deep.Draws
import Derived.Deep.AppendLies
import Derived.Maps.AppendAt
import Derived.OwnWalk
import Derived.Laws.BytesArg
import Derived.Laws.MakeOwn
import Derived.Laws.OwnMore
import Derived.Deep.OwnRows
import Derived.Tactics
import Derived.Lib.ConvBytes
import Derived.Laws.Slices
import Derived.WalkKit
import Derived.KernelRfl
import Derived.RowKit3
import Derived.Deep.LoopGhost
import Derived.Deep.QuietTactic
import Derived.BigQuiet
import Derived.WideLaws
import Derived.Deep.DeepCutAuto
import Derived.Deep.CutBlock
import Derived.Deep.RegionHeld3
import Derived.Laws.Rows
import Derived.Lib.AppendStr
import Derived.ArgAppend
import Derived.Laws.IdiomCopy
import Derived.OrdersHeld
import Derived.Laws.BitsLemmas
import Derived.RowKit
import Derived.Test.YtffofpiejcolfaaDoorWWords
import Derived.Test.YtffofpiejcolfaaDoorWLast
import Derived.Test.YtffofpiejcolfaaDoorWTab
import Derived.Test.YtffofpiejcolfaaDoorWFour
import Derived.Test.YtffofpiejcolfaaDoorWQPut
import Derived.Test.YtffofpiejcolfaaDoorWApart
import Derived.Test.YtffofpiejcolfaaDoorWArr
import Derived.Test.YtffofpiejcolfaaDoorWZeros
import Derived.Test.YtffofpiejcolfaaDoorWFoot
import Derived.Test.YtffofpiejcolfaaDoorWKept
import Derived.Test.YtffofpiejcolfaaDoorWShare
import Derived.Test.YtffofpiejcolfaaDoorWN
import Derived.Test.YtffofpiejcolfaaDoorWFootNe
import Derived.Test.YtffofpiejcolfaaDoorWAt
import Derived.Test.YtffofpiejcolfaaDoorWEqStruct
import Derived.Test.YtffofpiejcolfaaDoorWRepsOne
import Derived.Test.YtffofpiejcolfaaDoorWInv
import Derived.Test.YtffofpiejcolfaaDoorWInvWords
import Derived.Test.YtffofpiejcolfaaDoorWGuard
import Derived.Test.YtffofpiejcolfaaDoorWNEv
import Derived.Test.YtffofpiejcolfaaDoorWMore
import Derived.Test.YtffofpiejcolfaaDoorWFl
namespace Go.Proofs.YtffofpiejcolfaaDoor.F1
open Go.Proofs.YtffofpiejcolfaaDoor.F0
open Go.RowKit Go.Proofs.YtffofpiejcolfaaDoorW.PrintWords Go.Proofs.YtffofpiejcolfaaDoorW.PrintLast Go.Proofs.YtffofpiejcolfaaDoorW.PrintMore
attribute [local go_sem] max2_int min2_int max_two min_two max_three min_three max_four min_four   -- for this text's walks alone
set_option linter.unusedVariables false
set_option linter.unusedSimpArgs false



def errW : Option Int → Value
  | none => .nilIface
  | some c => .iface 0 (.int .i64 c)
theorem errW_none : errW none = .nilIface := rfl
theorem errW_some (c : Int) : errW (some c) = .iface 0 (.int .i64 c) := rfl

theorem info9 : (Tryd.prog.info? 9).map (fun i => (i.zero, i.size, i.bytes)) = some (some (.string ⟨#[]⟩), 1, 16) := by kernel_rfl
theorem info23 : (Tryd.prog.info? 23).map (fun i => (i.zero, i.size, i.bytes)) = some (some (.float .f32 0), 1, 4) := by kernel_rfl
theorem info45 : (Tryd.prog.info? 45).map (fun i => (i.zero, i.size, i.bytes)) = some (some (.agg #[(.float .f32 0), (.float .f32 0), (.float .f32 0)]), 3, 12) := by kernel_rfl
-- the values' own types

end Go.Proofs.YtffofpiejcolfaaDoor.F1
