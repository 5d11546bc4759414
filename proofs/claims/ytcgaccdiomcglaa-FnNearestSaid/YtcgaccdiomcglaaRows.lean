/-
  No cell of these rows narrows 'for every input' (looked for: loops, veiled, ifaces, maps, wideKeys, modest, calm, conditions, laid).
  DERIVED. THE GIVEN ROWS OF THIS SEAT. 4 by the template 'for every input the law returns true; each argument reads behind the call as it read before'; 0 by the template 'total and deterministic' (their statements: YtcgaccdiomcglaaTotals.lean).
  GIVEN WITH THE SEED: the statements are not yours to turn. If you find one false, say at which input.
  Laid BY PROGRAM, IN A SANDBOX (cutbox-rows.mjs): the forced cells as the released guide's own fill.sh prints them over the translation f0ee0b8d7d47f5cb… (all of the seat's roots in one cut). By AI agents, Wed Nov 11 2026. No macro, syntax, notation, axiom, sorry.
-/
import Derived.Test.YtcgaccdiomcglaaChecked
import GoSem.Claim
import GoSem.ClaimJoined
import GoSem.ClaimMapViews
import Derived.JoinedTies
import Derived.KernelRfl
namespace Go.Proofs.Ytcgaccdiomcglaa
/- THE CELL 'sum', in the pinned program and in every row, IS THE sha256 OF THE DUMP (.gsa) THAT YtcgaccdiomcglaaProg.lean LOADS. Nothing in Lean hashes anything: it is a label: what it is worth is what the hold of that sum in a sandbox is worth. -/
noncomputable def Try.pinned : Pinned := { name := "ytcgaccdiomcglaa", sum := "f0ee0b8d7d47f5cb8e05af1864c7a0a935603ce33e8fc19197a08ff05cbae6af", checked := Try.checked }
namespace Rows
def none {H : Type} : Left H := { results := [], args := [] }

/-- 'laws.FnFlows': WHATEVER THE INPUT: true; the input reads as it did. -/
def fnFlowsSpec : ChangeSpec := { name := "fnFlows", fn := fun _ => fun
  | [d1, d2] => { results := [.lit (.bool true)], args := [d1, d2] }
  | _ => none }
def fnFlowsRow : OpenClaim := { program := "ytcgaccdiomcglaa", sum := "f0ee0b8d7d47f5cb8e05af1864c7a0a935603ce33e8fc19197a08ff05cbae6af", func := "loop.example/g01266/laws.FnFlows", spec := "fnFlows", inPlace := ["math.Float64frombits", "math.sqrt", "math.Float64bits", "math.archTrunc"], unfollowed := true, recurses := true, apart := false }
def FnFlowsSaid : Prop := fnFlowsRow.holds Try.pinned (OpenSpec.ofChange fnFlowsSpec)

/-- ITS FALSE NEIGHBOUR: 'it returns false'. Refute it at one input. -/
def fnFlowsWrong : ChangeSpec := { name := "fnFlows", fn := fun _ => fun
  | [d1, d2] => { results := [.lit (.bool false)], args := [d1, d2] }
  | _ => none }
def FnFlowsWrongFalsely : Prop := fnFlowsRow.holds Try.pinned (OpenSpec.ofChange fnFlowsWrong)

/-- 'laws.FnNearest': WHATEVER THE INPUT: true; the input reads as it did. -/
def fnNearestSpec : ChangeSpec := { name := "fnNearest", fn := fun _ => fun
  | [d1, d2] => { results := [.lit (.bool true)], args := [d1, d2] }
  | _ => none }
def fnNearestRow : OpenClaim := { program := "ytcgaccdiomcglaa", sum := "f0ee0b8d7d47f5cb8e05af1864c7a0a935603ce33e8fc19197a08ff05cbae6af", func := "loop.example/g01266/laws.FnNearest", spec := "fnNearest", inPlace := ["math.sqrt", "math.Float32bits"], unfollowed := true, recurses := true, apart := false }
def FnNearestSaid : Prop := fnNearestRow.holds Try.pinned (OpenSpec.ofChange fnNearestSpec)

/-- ITS FALSE NEIGHBOUR: 'it returns false'. Refute it at one input. -/
def fnNearestWrong : ChangeSpec := { name := "fnNearest", fn := fun _ => fun
  | [d1, d2] => { results := [.lit (.bool false)], args := [d1, d2] }
  | _ => none }
def FnNearestWrongFalsely : Prop := fnNearestRow.holds Try.pinned (OpenSpec.ofChange fnNearestWrong)

/-- 'laws.FnSheets': WHATEVER THE INPUT: true; the input reads as it did. -/
def fnSheetsSpec : ChangeSpec := { name := "fnSheets", fn := fun _ => fun
  | [d1, d2] => { results := [.lit (.bool true)], args := [d1, d2] }
  | _ => none }
def fnSheetsRow : OpenClaim := { program := "ytcgaccdiomcglaa", sum := "f0ee0b8d7d47f5cb8e05af1864c7a0a935603ce33e8fc19197a08ff05cbae6af", func := "loop.example/g01266/laws.FnSheets", spec := "fnSheets", inPlace := ["math.sqrt", "math.Float32bits"], unfollowed := true, recurses := true, apart := false }
def FnSheetsSaid : Prop := fnSheetsRow.holds Try.pinned (OpenSpec.ofChange fnSheetsSpec)

/-- ITS FALSE NEIGHBOUR: 'it returns false'. Refute it at one input. -/
def fnSheetsWrong : ChangeSpec := { name := "fnSheets", fn := fun _ => fun
  | [d1, d2] => { results := [.lit (.bool false)], args := [d1, d2] }
  | _ => none }
def FnSheetsWrongFalsely : Prop := fnSheetsRow.holds Try.pinned (OpenSpec.ofChange fnSheetsWrong)

/-- 'laws.FnTracers': WHATEVER THE INPUT: true; the input reads as it did. -/
def fnTracersSpec : ChangeSpec := { name := "fnTracers", fn := fun _ => fun
  | [d1, d2] => { results := [.lit (.bool true)], args := [d1, d2] }
  | _ => none }
def fnTracersRow : OpenClaim := { program := "ytcgaccdiomcglaa", sum := "f0ee0b8d7d47f5cb8e05af1864c7a0a935603ce33e8fc19197a08ff05cbae6af", func := "loop.example/g01266/laws.FnTracers", spec := "fnTracers", inPlace := ["math.Float32bits", "math.archFloor", "math.Float64bits", "math.Float64frombits", "math.archTrunc", "math.sqrt"], unfollowed := true, recurses := true, apart := false }
def FnTracersSaid : Prop := fnTracersRow.holds Try.pinned (OpenSpec.ofChange fnTracersSpec)

/-- ITS FALSE NEIGHBOUR: 'it returns false'. Refute it at one input. -/
def fnTracersWrong : ChangeSpec := { name := "fnTracers", fn := fun _ => fun
  | [d1, d2] => { results := [.lit (.bool false)], args := [d1, d2] }
  | _ => none }
def FnTracersWrongFalsely : Prop := fnTracersRow.holds Try.pinned (OpenSpec.ofChange fnTracersWrong)

/- THE SECOND FORM. 'bulk': how many values and letters a reading holds, each counted each time it is reached (what is shared counts as often as it is met; a slice's spare places count too). A statement '..UptoSaid' is the law's where the arguments, and the package variables that the reading takes, are together of bulk at most 1048576: NARROWER than '..Said'. Prove '..Said' where nothing that the law and all that it calls make is longer than what came in: it says more and counts as full. Else prove '..UptoSaid'. A law counts once. -/
mutual
def uptoBulk {H : Type} : DataW H → Nat
  | .lit (.string bytes) => bytes.length + 1
  | .lit _ => 1
  | .nil => 1
  | .ptr d => uptoBulk d + 1
  | .slice elems spare => uptoBulkAll elems + uptoBulkAll spare + 1
  | .agg parts => uptoBulkAll parts + 1
  | .iface _ d => uptoBulk d + 1
  | .map entries => uptoBulkEntries entries + 1
  | .held _ => 1
def uptoBulkAll {H : Type} : List (DataW H) → Nat
  | [] => 0
  | d :: r => uptoBulk d + uptoBulkAll r
def uptoBulkEntries {H : Type} : List (Lit × DataW H) → Nat
  | [] => 0
  | x :: r => uptoBulkEntry x + uptoBulkEntries r
def uptoBulkEntry {H : Type} : Lit × DataW H → Nat
  | (.string bytes, d) => bytes.length + uptoBulk d + 1
  | (_, d) => uptoBulk d + 1
 end
def uptoSmall : (H : Type) → List (DataW H) → Bool := fun _ ds => decide (uptoBulkAll ds ≤ 1048576)
def OpenSpec.upto (s : _root_.Go.ChangeSpec) : _root_.Go.OpenSpec := { _root_.Go.OpenSpec.ofChange s with cond := some uptoSmall }

/-- 'laws.FnFlows', WHERE WHAT IT READS IS OF BULK AT MOST 1048576: true; the input reads as it did. -/
def fnFlowsUptoRow : OpenClaim := { program := "ytcgaccdiomcglaa", sum := "f0ee0b8d7d47f5cb8e05af1864c7a0a935603ce33e8fc19197a08ff05cbae6af", func := "loop.example/g01266/laws.FnFlows", spec := "fnFlows", inPlace := ["math.Float64frombits", "math.sqrt", "math.Float64bits", "math.archTrunc"], unfollowed := true, recurses := true, apart := false, narrowed := true }
def FnFlowsUptoSaid : Prop := fnFlowsUptoRow.holds Try.pinned (OpenSpec.upto fnFlowsSpec)

/-- 'laws.FnNearest', WHERE WHAT IT READS IS OF BULK AT MOST 1048576: true; the input reads as it did. -/
def fnNearestUptoRow : OpenClaim := { program := "ytcgaccdiomcglaa", sum := "f0ee0b8d7d47f5cb8e05af1864c7a0a935603ce33e8fc19197a08ff05cbae6af", func := "loop.example/g01266/laws.FnNearest", spec := "fnNearest", inPlace := ["math.sqrt", "math.Float32bits"], unfollowed := true, recurses := true, apart := false, narrowed := true }
def FnNearestUptoSaid : Prop := fnNearestUptoRow.holds Try.pinned (OpenSpec.upto fnNearestSpec)

/-- 'laws.FnSheets', WHERE WHAT IT READS IS OF BULK AT MOST 1048576: true; the input reads as it did. -/
def fnSheetsUptoRow : OpenClaim := { program := "ytcgaccdiomcglaa", sum := "f0ee0b8d7d47f5cb8e05af1864c7a0a935603ce33e8fc19197a08ff05cbae6af", func := "loop.example/g01266/laws.FnSheets", spec := "fnSheets", inPlace := ["math.sqrt", "math.Float32bits"], unfollowed := true, recurses := true, apart := false, narrowed := true }
def FnSheetsUptoSaid : Prop := fnSheetsUptoRow.holds Try.pinned (OpenSpec.upto fnSheetsSpec)

/-- 'laws.FnTracers', WHERE WHAT IT READS IS OF BULK AT MOST 1048576: true; the input reads as it did. -/
def fnTracersUptoRow : OpenClaim := { program := "ytcgaccdiomcglaa", sum := "f0ee0b8d7d47f5cb8e05af1864c7a0a935603ce33e8fc19197a08ff05cbae6af", func := "loop.example/g01266/laws.FnTracers", spec := "fnTracers", inPlace := ["math.Float32bits", "math.archFloor", "math.Float64bits", "math.Float64frombits", "math.archTrunc", "math.sqrt"], unfollowed := true, recurses := true, apart := false, narrowed := true }
def FnTracersUptoSaid : Prop := fnTracersUptoRow.holds Try.pinned (OpenSpec.upto fnTracersSpec)

end Rows
end Go.Proofs.Ytcgaccdiomcglaa
