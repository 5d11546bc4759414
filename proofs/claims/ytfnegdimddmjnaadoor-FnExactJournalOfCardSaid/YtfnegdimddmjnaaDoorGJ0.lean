/- Walks of functions of this seat, printed by a program of this session; each contract speaks of every world that meets its premises. -/
import Derived.Test.YtfnegdimddmjnaaDoorProg
import Derived.Below
import Derived.Deep.Draws
import Derived.Deep.AppendLies
import Derived.Maps.AppendAt
import Derived.OwnWalk
import Derived.Laws.BytesArg
import Derived.Laws.MakeOwn
import Derived.Laws.OwnMore
import Derived.Deep.OwnRows
import Derived.Tactics
import Derived.Lib.ConvBytes
import Derived.Laws.Slices
import Derived.WalkKit
import Derived.KernelRfl
import Derived.RowKit3
import Derived.Deep.LoopGhost
import Derived.Deep.QuietTactic
import Derived.BigQuiet
import Derived.WideLaws
import Derived.Deep.DeepCutAuto
import Derived.Deep.CutBlock
import Derived.Deep.RegionHeld3
import Derived.Laws.Rows
import Derived.Lib.AppendStr
import Derived.ArgAppend
import Derived.Laws.IdiomCopy
import Derived.OrdersHeld
import Derived.Laws.BitsLemmas
import Derived.RowKit
import Derived.Test.YtfnegdimddmjnaaDoorXJ2
import Derived.Test.YtfnegdimddmjnaaDoorWWords
import Derived.Test.YtfnegdimddmjnaaDoorWLast
import Derived.Test.YtfnegdimddmjnaaDoorWTab
import Derived.Test.YtfnegdimddmjnaaDoorWFour
import Derived.Test.YtfnegdimddmjnaaDoorWQPut
import Derived.Test.YtfnegdimddmjnaaDoorWApart
import Derived.Test.YtfnegdimddmjnaaDoorWArr
import Derived.Test.YtfnegdimddmjnaaDoorWZeros
import Derived.Test.YtfnegdimddmjnaaDoorWFoot
import Derived.Test.YtfnegdimddmjnaaDoorWKept
import Derived.Test.YtfnegdimddmjnaaDoorWShare
import Derived.Test.YtfnegdimddmjnaaDoorWN
import Derived.Test.YtfnegdimddmjnaaDoorWFootNe
import Derived.Test.YtfnegdimddmjnaaDoorWAt
import Derived.Test.YtfnegdimddmjnaaDoorWEqStruct
import Derived.Test.YtfnegdimddmjnaaDoorWRepsOne
import Derived.Test.YtfnegdimddmjnaaDoorWInv
import Derived.Test.YtfnegdimddmjnaaDoorWInvWords
import Derived.Test.YtfnegdimddmjnaaDoorWGuard
import Derived.Test.YtfnegdimddmjnaaDoorWNEv
import Derived.Test.YtfnegdimddmjnaaDoorWMore
namespace Go.Proofs.YtfnegdimddmjnaaDoor.GJ
open Go.RowKit Go.Proofs.YtfnegdimddmjnaaDoorW.PrintWords Go.Proofs.YtfnegdimddmjnaaDoorW.PrintLast Go.Proofs.YtfnegdimddmjnaaDoorW.PrintMore
attribute [local go_sem] max2_int min2_int max_two min_two max_three min_three max_four min_four   -- for this text's walks alone
set_option linter.unusedVariables false
set_option linter.unusedSimpArgs false



def errW : Option Int → Value
  | none => .nilIface
  | some c => .iface 0 (.int .i64 c)
theorem errW_none : errW none = .nilIface := rfl
theorem errW_some (c : Int) : errW (some c) = .iface 0 (.int .i64 c) := rfl

theorem info5 : (Tryd.prog.info? 5).map (fun i => (i.zero, i.size, i.bytes)) = some (some (.int .u8 0), 1, 1) := by kernel_rfl
theorem info9 : (Tryd.prog.info? 9).map (fun i => (i.zero, i.size, i.bytes)) = some (some (.string ⟨#[]⟩), 1, 16) := by kernel_rfl
-- the values' own types

end Go.Proofs.YtfnegdimddmjnaaDoor.GJ
