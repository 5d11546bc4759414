/- Walks of functions of this seat, printed by a program of this session; each contract speaks of every world that meets its premises. -/
import Derived.Test.YtffofpiejcolfaaL00
import Derived.Test.YtffofpiejcolfaaProg
import Derived.Below
import Derived.Deep.Draws
import Derived.Deep.AppendLies
import Derived.Maps.AppendAt
import Derived.OwnWalk
import Derived.Laws.BytesArg
import Derived.Laws.MakeOwn
import Derived.Laws.OwnMore
import Derived.Deep.OwnRows
import Derived.Tactics
import Derived.Lib.ConvBytes
import Derived.Laws.Slices
import Derived.WalkKit
import Derived.KernelRfl
import Derived.RowKit3
import Derived.Deep.LoopGhost
import Derived.Deep.QuietTactic
import Derived.BigQuiet
import Derived.WideLaws
import Derived.Deep.DeepCutAuto
import Derived.Deep.CutBlock
import Derived.Deep.RegionHeld3
import Derived.Laws.Rows
import Derived.Lib.AppendStr
import Derived.ArgAppend
import Derived.Laws.IdiomCopy
import Derived.OrdersHeld
import Derived.Laws.BitsLemmas
import Derived.RowKit
import Derived.Test.YtffofpiejcolfaaWWords
import Derived.Test.YtffofpiejcolfaaWLast
import Derived.Test.YtffofpiejcolfaaWTab
import Derived.Test.YtffofpiejcolfaaWFour
import Derived.Test.YtffofpiejcolfaaWQPut
import Derived.Test.YtffofpiejcolfaaWApart
import Derived.Test.YtffofpiejcolfaaWArr
import Derived.Test.YtffofpiejcolfaaWZeros
import Derived.Test.YtffofpiejcolfaaWFoot
import Derived.Test.YtffofpiejcolfaaWKept
import Derived.Test.YtffofpiejcolfaaWShare
import Derived.Test.YtffofpiejcolfaaWN
import Derived.Test.YtffofpiejcolfaaWFootNe
import Derived.Test.YtffofpiejcolfaaWAt
import Derived.Test.YtffofpiejcolfaaWEqStruct
import Derived.Test.YtffofpiejcolfaaWRepsOne
import Derived.Test.YtffofpiejcolfaaWInv
import Derived.Test.YtffofpiejcolfaaWInvWords
import Derived.Test.YtffofpiejcolfaaWGuard
import Derived.Test.YtffofpiejcolfaaWNEv
import Derived.Test.YtffofpiejcolfaaWMore
import Derived.Test.YtffofpiejcolfaaWFl
namespace Go.Proofs.Ytffofpiejcolfaa.L2
open Go.Proofs.Ytffofpiejcolfaa.L0
open Go.RowKit Go.Proofs.YtffofpiejcolfaaW.PrintWords Go.Proofs.YtffofpiejcolfaaW.PrintLast Go.Proofs.YtffofpiejcolfaaW.PrintMore
attribute [local go_sem] max2_int min2_int max_two min_two max_three min_three max_four min_four   -- for this text's walks alone
set_option linter.unusedVariables false
set_option linter.unusedSimpArgs false



def errW : Option Int → Value
  | none => .nilIface
  | some c => .iface 0 (.int .i64 c)
theorem errW_none : errW none = .nilIface := rfl
theorem errW_some (c : Int) : errW (some c) = .iface 0 (.int .i64 c) := rfl

theorem info46 : (Try.prog.info? 46).map (fun i => (i.zero, i.size, i.bytes)) = some (some (.agg #[(.float .f32 0), (.float .f32 0), (.float .f32 0)]), 3, 12) := by kernel_rfl
-- the values' own types

end Go.Proofs.Ytffofpiejcolfaa.L2
