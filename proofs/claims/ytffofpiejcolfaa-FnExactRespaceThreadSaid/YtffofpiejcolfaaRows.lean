/-
  No cell of these rows narrows 'for every input' (looked for: loops, veiled, ifaces, maps, wideKeys, modest, calm, conditions, laid).
  DERIVED. THE GIVEN ROWS OF THIS SEAT. 8 by the template 'for every input the law returns true; each argument reads behind the call as it read before'; 0 by the template 'total and deterministic' (their statements: YtffofpiejcolfaaTotals.lean).
  GIVEN WITH THE SEED: the statements are not yours to turn. If you find one false, say at which input.
  Laid BY PROGRAM, IN A SANDBOX (cutbox-rows.mjs): the forced cells as the released guide's own fill.sh prints them over the translation 4aaa4ae8eb9412ba… (all of the seat's roots in one cut). By AI agents, Wed Nov 11 2026. No macro, syntax, notation, axiom, sorry.
-/
import Derived.Test.YtffofpiejcolfaaChecked
import GoSem.Claim
import GoSem.ClaimJoined
import GoSem.ClaimMapViews
import Derived.JoinedTies
import Derived.KernelRfl
namespace Go.Proofs.Ytffofpiejcolfaa
/- THE CELL 'sum', in the pinned program and in every row, IS THE sha256 OF THE DUMP (.gsa) THAT YtffofpiejcolfaaProg.lean LOADS. Nothing in Lean hashes anything: it is a label: what it is worth is what the hold of that sum in a sandbox is worth. -/
noncomputable def Try.pinned : Pinned := { name := "ytffofpiejcolfaa", sum := "4aaa4ae8eb9412ba0553b513c9672ac2cc9022292fced83aacd6c2e87ba6f824", checked := Try.checked }
namespace Rows
def none {H : Type} : Left H := { results := [], args := [] }

/-- 'laws.FnExactLengthOfThread': WHATEVER THE INPUT: true; the input reads as it did. -/
def fnExactLengthOfThreadSpec : ChangeSpec := { name := "fnExactLengthOfThread", fn := fun _ => fun
  | [d] => { results := [.lit (.bool true)], args := [d] }
  | _ => none }
def fnExactLengthOfThreadRow : OpenClaim := { program := "ytffofpiejcolfaa", sum := "4aaa4ae8eb9412ba0553b513c9672ac2cc9022292fced83aacd6c2e87ba6f824", func := "loop.example/g01266/laws.FnExactLengthOfThread", spec := "fnExactLengthOfThread", inPlace := ["math.sqrt"], unfollowed := true, recurses := true, apart := false }
def FnExactLengthOfThreadSaid : Prop := fnExactLengthOfThreadRow.holds Try.pinned (OpenSpec.ofChange fnExactLengthOfThreadSpec)

/-- ITS FALSE NEIGHBOUR: 'it returns false'. Refute it at one input. -/
def fnExactLengthOfThreadWrong : ChangeSpec := { name := "fnExactLengthOfThread", fn := fun _ => fun
  | [d] => { results := [.lit (.bool false)], args := [d] }
  | _ => none }
def FnExactLengthOfThreadWrongFalsely : Prop := fnExactLengthOfThreadRow.holds Try.pinned (OpenSpec.ofChange fnExactLengthOfThreadWrong)

/-- 'laws.FnExactThreadText': WHATEVER THE INPUT: true; the input reads as it did. -/
def fnExactThreadTextSpec : ChangeSpec := { name := "fnExactThreadText", fn := fun _ => fun
  | [d] => { results := [.lit (.bool true)], args := [d] }
  | _ => none }
def fnExactThreadTextRow : OpenClaim := { program := "ytffofpiejcolfaa", sum := "4aaa4ae8eb9412ba0553b513c9672ac2cc9022292fced83aacd6c2e87ba6f824", func := "loop.example/g01266/laws.FnExactThreadText", spec := "fnExactThreadText", inPlace := ["math.Float32bits", "internal/abi.NoEscape", "internal/bytealg.MakeNoZero"], unfollowed := true, recurses := true, apart := false }
def FnExactThreadTextSaid : Prop := fnExactThreadTextRow.holds Try.pinned (OpenSpec.ofChange fnExactThreadTextSpec)

/-- ITS FALSE NEIGHBOUR: 'it returns false'. Refute it at one input. -/
def fnExactThreadTextWrong : ChangeSpec := { name := "fnExactThreadText", fn := fun _ => fun
  | [d] => { results := [.lit (.bool false)], args := [d] }
  | _ => none }
def FnExactThreadTextWrongFalsely : Prop := fnExactThreadTextRow.holds Try.pinned (OpenSpec.ofChange fnExactThreadTextWrong)

/-- 'laws.FnExactLinkOfThreads': WHATEVER THE INPUT: true; the input reads as it did. -/
def fnExactLinkOfThreadsSpec : ChangeSpec := { name := "fnExactLinkOfThreads", fn := fun _ => fun
  | [d1, d2] => { results := [.lit (.bool true)], args := [d1, d2] }
  | _ => none }
def fnExactLinkOfThreadsRow : OpenClaim := { program := "ytffofpiejcolfaa", sum := "4aaa4ae8eb9412ba0553b513c9672ac2cc9022292fced83aacd6c2e87ba6f824", func := "loop.example/g01266/laws.FnExactLinkOfThreads", spec := "fnExactLinkOfThreads", inPlace := ["math.sqrt", "math.RoundToEven", "math.Float32bits", "math.Float32frombits"], unfollowed := true, recurses := true, apart := false }
def FnExactLinkOfThreadsSaid : Prop := fnExactLinkOfThreadsRow.holds Try.pinned (OpenSpec.ofChange fnExactLinkOfThreadsSpec)

/-- ITS FALSE NEIGHBOUR: 'it returns false'. Refute it at one input. -/
def fnExactLinkOfThreadsWrong : ChangeSpec := { name := "fnExactLinkOfThreads", fn := fun _ => fun
  | [d1, d2] => { results := [.lit (.bool false)], args := [d1, d2] }
  | _ => none }
def FnExactLinkOfThreadsWrongFalsely : Prop := fnExactLinkOfThreadsRow.holds Try.pinned (OpenSpec.ofChange fnExactLinkOfThreadsWrong)

/-- 'laws.FnExactFlowByThreads': WHATEVER THE INPUT: true; the input reads as it did. -/
def fnExactFlowByThreadsSpec : ChangeSpec := { name := "fnExactFlowByThreads", fn := fun _ => fun
  | [d1, d2, d3] => { results := [.lit (.bool true)], args := [d1, d2, d3] }
  | _ => none }
def fnExactFlowByThreadsRow : OpenClaim := { program := "ytffofpiejcolfaa", sum := "4aaa4ae8eb9412ba0553b513c9672ac2cc9022292fced83aacd6c2e87ba6f824", func := "loop.example/g01266/laws.FnExactFlowByThreads", spec := "fnExactFlowByThreads", inPlace := ["math.sqrt"], unfollowed := true, recurses := true, apart := false }
def FnExactFlowByThreadsSaid : Prop := fnExactFlowByThreadsRow.holds Try.pinned (OpenSpec.ofChange fnExactFlowByThreadsSpec)

/-- ITS FALSE NEIGHBOUR: 'it returns false'. Refute it at one input. -/
def fnExactFlowByThreadsWrong : ChangeSpec := { name := "fnExactFlowByThreads", fn := fun _ => fun
  | [d1, d2, d3] => { results := [.lit (.bool false)], args := [d1, d2, d3] }
  | _ => none }
def FnExactFlowByThreadsWrongFalsely : Prop := fnExactFlowByThreadsRow.holds Try.pinned (OpenSpec.ofChange fnExactFlowByThreadsWrong)

/-- 'laws.FnExactThreadsText': WHATEVER THE INPUT: true; the input reads as it did. -/
def fnExactThreadsTextSpec : ChangeSpec := { name := "fnExactThreadsText", fn := fun _ => fun
  | [d] => { results := [.lit (.bool true)], args := [d] }
  | _ => none }
def fnExactThreadsTextRow : OpenClaim := { program := "ytffofpiejcolfaa", sum := "4aaa4ae8eb9412ba0553b513c9672ac2cc9022292fced83aacd6c2e87ba6f824", func := "loop.example/g01266/laws.FnExactThreadsText", spec := "fnExactThreadsText", inPlace := ["math.Float32bits", "internal/abi.NoEscape", "internal/bytealg.MakeNoZero"], unfollowed := true, recurses := true, apart := false }
def FnExactThreadsTextSaid : Prop := fnExactThreadsTextRow.holds Try.pinned (OpenSpec.ofChange fnExactThreadsTextSpec)

/-- ITS FALSE NEIGHBOUR: 'it returns false'. Refute it at one input. -/
def fnExactThreadsTextWrong : ChangeSpec := { name := "fnExactThreadsText", fn := fun _ => fun
  | [d] => { results := [.lit (.bool false)], args := [d] }
  | _ => none }
def FnExactThreadsTextWrongFalsely : Prop := fnExactThreadsTextRow.holds Try.pinned (OpenSpec.ofChange fnExactThreadsTextWrong)

/-- 'laws.FnExactRespaceThread': WHATEVER THE INPUT: true; the input reads as it did. -/
def fnExactRespaceThreadSpec : ChangeSpec := { name := "fnExactRespaceThread", fn := fun _ => fun
  | [d1, d2] => { results := [.lit (.bool true)], args := [d1, d2] }
  | _ => none }
def fnExactRespaceThreadRow : OpenClaim := { program := "ytffofpiejcolfaa", sum := "4aaa4ae8eb9412ba0553b513c9672ac2cc9022292fced83aacd6c2e87ba6f824", func := "loop.example/g01266/laws.FnExactRespaceThread", spec := "fnExactRespaceThread", inPlace := ["math.sqrt"], unfollowed := true, recurses := true, apart := false }
def FnExactRespaceThreadSaid : Prop := fnExactRespaceThreadRow.holds Try.pinned (OpenSpec.ofChange fnExactRespaceThreadSpec)

/-- ITS FALSE NEIGHBOUR: 'it returns false'. Refute it at one input. -/
def fnExactRespaceThreadWrong : ChangeSpec := { name := "fnExactRespaceThread", fn := fun _ => fun
  | [d1, d2] => { results := [.lit (.bool false)], args := [d1, d2] }
  | _ => none }
def FnExactRespaceThreadWrongFalsely : Prop := fnExactRespaceThreadRow.holds Try.pinned (OpenSpec.ofChange fnExactRespaceThreadWrong)

/-- 'laws.FnExactStepThreads': WHATEVER THE INPUT: true; the input reads as it did. -/
def fnExactStepThreadsSpec : ChangeSpec := { name := "fnExactStepThreads", fn := fun _ => fun
  | [d1, d2, d3] => { results := [.lit (.bool true)], args := [d1, d2, d3] }
  | _ => none }
def fnExactStepThreadsRow : OpenClaim := { program := "ytffofpiejcolfaa", sum := "4aaa4ae8eb9412ba0553b513c9672ac2cc9022292fced83aacd6c2e87ba6f824", func := "loop.example/g01266/laws.FnExactStepThreads", spec := "fnExactStepThreads", inPlace := ["math.sqrt"], unfollowed := true, recurses := true, apart := false }
def FnExactStepThreadsSaid : Prop := fnExactStepThreadsRow.holds Try.pinned (OpenSpec.ofChange fnExactStepThreadsSpec)

/-- ITS FALSE NEIGHBOUR: 'it returns false'. Refute it at one input. -/
def fnExactStepThreadsWrong : ChangeSpec := { name := "fnExactStepThreads", fn := fun _ => fun
  | [d1, d2, d3] => { results := [.lit (.bool false)], args := [d1, d2, d3] }
  | _ => none }
def FnExactStepThreadsWrongFalsely : Prop := fnExactStepThreadsRow.holds Try.pinned (OpenSpec.ofChange fnExactStepThreadsWrong)

/-- 'laws.FnExactRunThreads': WHATEVER THE INPUT: true; the input reads as it did. -/
def fnExactRunThreadsSpec : ChangeSpec := { name := "fnExactRunThreads", fn := fun _ => fun
  | [d1, d2, d3, d4] => { results := [.lit (.bool true)], args := [d1, d2, d3, d4] }
  | _ => none }
def fnExactRunThreadsRow : OpenClaim := { program := "ytffofpiejcolfaa", sum := "4aaa4ae8eb9412ba0553b513c9672ac2cc9022292fced83aacd6c2e87ba6f824", func := "loop.example/g01266/laws.FnExactRunThreads", spec := "fnExactRunThreads", inPlace := ["math.sqrt"], unfollowed := true, recurses := true, apart := false }
def FnExactRunThreadsSaid : Prop := fnExactRunThreadsRow.holds Try.pinned (OpenSpec.ofChange fnExactRunThreadsSpec)

/-- ITS FALSE NEIGHBOUR: 'it returns false'. Refute it at one input. -/
def fnExactRunThreadsWrong : ChangeSpec := { name := "fnExactRunThreads", fn := fun _ => fun
  | [d1, d2, d3, d4] => { results := [.lit (.bool false)], args := [d1, d2, d3, d4] }
  | _ => none }
def FnExactRunThreadsWrongFalsely : Prop := fnExactRunThreadsRow.holds Try.pinned (OpenSpec.ofChange fnExactRunThreadsWrong)

/- THE SECOND FORM. 'bulk': how many values and letters a reading holds, each counted each time it is reached (what is shared counts as often as it is met; a slice's spare places count too). A statement '..UptoSaid' is the law's where the arguments, and the package variables that the reading takes, are together of bulk at most 1048576: NARROWER than '..Said'. Prove '..Said' where nothing that the law and all that it calls make is longer than what came in: it says more and counts as full. Else prove '..UptoSaid'. A law counts once. -/
mutual
def uptoBulk {H : Type} : DataW H → Nat
  | .lit (.string bytes) => bytes.length + 1
  | .lit _ => 1
  | .nil => 1
  | .ptr d => uptoBulk d + 1
  | .slice elems spare => uptoBulkAll elems + uptoBulkAll spare + 1
  | .agg parts => uptoBulkAll parts + 1
  | .iface _ d => uptoBulk d + 1
  | .map entries => uptoBulkEntries entries + 1
  | .held _ => 1
def uptoBulkAll {H : Type} : List (DataW H) → Nat
  | [] => 0
  | d :: r => uptoBulk d + uptoBulkAll r
def uptoBulkEntries {H : Type} : List (Lit × DataW H) → Nat
  | [] => 0
  | x :: r => uptoBulkEntry x + uptoBulkEntries r
def uptoBulkEntry {H : Type} : Lit × DataW H → Nat
  | (.string bytes, d) => bytes.length + uptoBulk d + 1
  | (_, d) => uptoBulk d + 1
 end
def uptoSmall : (H : Type) → List (DataW H) → Bool := fun _ ds => decide (uptoBulkAll ds ≤ 1048576)
def OpenSpec.upto (s : _root_.Go.ChangeSpec) : _root_.Go.OpenSpec := { _root_.Go.OpenSpec.ofChange s with cond := some uptoSmall }

/-- 'laws.FnExactLengthOfThread', WHERE WHAT IT READS IS OF BULK AT MOST 1048576: true; the input reads as it did. -/
def fnExactLengthOfThreadUptoRow : OpenClaim := { program := "ytffofpiejcolfaa", sum := "4aaa4ae8eb9412ba0553b513c9672ac2cc9022292fced83aacd6c2e87ba6f824", func := "loop.example/g01266/laws.FnExactLengthOfThread", spec := "fnExactLengthOfThread", inPlace := ["math.sqrt"], unfollowed := true, recurses := true, apart := false, narrowed := true }
def FnExactLengthOfThreadUptoSaid : Prop := fnExactLengthOfThreadUptoRow.holds Try.pinned (OpenSpec.upto fnExactLengthOfThreadSpec)

/-- 'laws.FnExactThreadText', WHERE WHAT IT READS IS OF BULK AT MOST 1048576: true; the input reads as it did. -/
def fnExactThreadTextUptoRow : OpenClaim := { program := "ytffofpiejcolfaa", sum := "4aaa4ae8eb9412ba0553b513c9672ac2cc9022292fced83aacd6c2e87ba6f824", func := "loop.example/g01266/laws.FnExactThreadText", spec := "fnExactThreadText", inPlace := ["math.Float32bits", "internal/abi.NoEscape", "internal/bytealg.MakeNoZero"], unfollowed := true, recurses := true, apart := false, narrowed := true }
def FnExactThreadTextUptoSaid : Prop := fnExactThreadTextUptoRow.holds Try.pinned (OpenSpec.upto fnExactThreadTextSpec)

/-- 'laws.FnExactLinkOfThreads', WHERE WHAT IT READS IS OF BULK AT MOST 1048576: true; the input reads as it did. -/
def fnExactLinkOfThreadsUptoRow : OpenClaim := { program := "ytffofpiejcolfaa", sum := "4aaa4ae8eb9412ba0553b513c9672ac2cc9022292fced83aacd6c2e87ba6f824", func := "loop.example/g01266/laws.FnExactLinkOfThreads", spec := "fnExactLinkOfThreads", inPlace := ["math.sqrt", "math.RoundToEven", "math.Float32bits", "math.Float32frombits"], unfollowed := true, recurses := true, apart := false, narrowed := true }
def FnExactLinkOfThreadsUptoSaid : Prop := fnExactLinkOfThreadsUptoRow.holds Try.pinned (OpenSpec.upto fnExactLinkOfThreadsSpec)

/-- 'laws.FnExactFlowByThreads', WHERE WHAT IT READS IS OF BULK AT MOST 1048576: true; the input reads as it did. -/
def fnExactFlowByThreadsUptoRow : OpenClaim := { program := "ytffofpiejcolfaa", sum := "4aaa4ae8eb9412ba0553b513c9672ac2cc9022292fced83aacd6c2e87ba6f824", func := "loop.example/g01266/laws.FnExactFlowByThreads", spec := "fnExactFlowByThreads", inPlace := ["math.sqrt"], unfollowed := true, recurses := true, apart := false, narrowed := true }
def FnExactFlowByThreadsUptoSaid : Prop := fnExactFlowByThreadsUptoRow.holds Try.pinned (OpenSpec.upto fnExactFlowByThreadsSpec)

/-- 'laws.FnExactThreadsText', WHERE WHAT IT READS IS OF BULK AT MOST 1048576: true; the input reads as it did. -/
def fnExactThreadsTextUptoRow : OpenClaim := { program := "ytffofpiejcolfaa", sum := "4aaa4ae8eb9412ba0553b513c9672ac2cc9022292fced83aacd6c2e87ba6f824", func := "loop.example/g01266/laws.FnExactThreadsText", spec := "fnExactThreadsText", inPlace := ["math.Float32bits", "internal/abi.NoEscape", "internal/bytealg.MakeNoZero"], unfollowed := true, recurses := true, apart := false, narrowed := true }
def FnExactThreadsTextUptoSaid : Prop := fnExactThreadsTextUptoRow.holds Try.pinned (OpenSpec.upto fnExactThreadsTextSpec)

/-- 'laws.FnExactRespaceThread', WHERE WHAT IT READS IS OF BULK AT MOST 1048576: true; the input reads as it did. -/
def fnExactRespaceThreadUptoRow : OpenClaim := { program := "ytffofpiejcolfaa", sum := "4aaa4ae8eb9412ba0553b513c9672ac2cc9022292fced83aacd6c2e87ba6f824", func := "loop.example/g01266/laws.FnExactRespaceThread", spec := "fnExactRespaceThread", inPlace := ["math.sqrt"], unfollowed := true, recurses := true, apart := false, narrowed := true }
def FnExactRespaceThreadUptoSaid : Prop := fnExactRespaceThreadUptoRow.holds Try.pinned (OpenSpec.upto fnExactRespaceThreadSpec)

/-- 'laws.FnExactStepThreads', WHERE WHAT IT READS IS OF BULK AT MOST 1048576: true; the input reads as it did. -/
def fnExactStepThreadsUptoRow : OpenClaim := { program := "ytffofpiejcolfaa", sum := "4aaa4ae8eb9412ba0553b513c9672ac2cc9022292fced83aacd6c2e87ba6f824", func := "loop.example/g01266/laws.FnExactStepThreads", spec := "fnExactStepThreads", inPlace := ["math.sqrt"], unfollowed := true, recurses := true, apart := false, narrowed := true }
def FnExactStepThreadsUptoSaid : Prop := fnExactStepThreadsUptoRow.holds Try.pinned (OpenSpec.upto fnExactStepThreadsSpec)

/-- 'laws.FnExactRunThreads', WHERE WHAT IT READS IS OF BULK AT MOST 1048576: true; the input reads as it did. -/
def fnExactRunThreadsUptoRow : OpenClaim := { program := "ytffofpiejcolfaa", sum := "4aaa4ae8eb9412ba0553b513c9672ac2cc9022292fced83aacd6c2e87ba6f824", func := "loop.example/g01266/laws.FnExactRunThreads", spec := "fnExactRunThreads", inPlace := ["math.sqrt"], unfollowed := true, recurses := true, apart := false, narrowed := true }
def FnExactRunThreadsUptoSaid : Prop := fnExactRunThreadsUptoRow.holds Try.pinned (OpenSpec.upto fnExactRunThreadsSpec)

end Rows
end Go.Proofs.Ytffofpiejcolfaa
