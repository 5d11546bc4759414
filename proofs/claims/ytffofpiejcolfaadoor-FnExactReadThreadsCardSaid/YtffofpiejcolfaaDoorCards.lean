/-
  DERIVED. GIVEN WITH THE SEED: THE CARDS: each row of YtffofpiejcolfaaDoorRows.lean that lists a variable, with what it lists TIED to the program's text (the seventh form; the later family's looks); each row that meets fmt, with fmt's text TOLD by the authors' own Lean function (tested against real Go, not proved from fmt's source: count such statements apart). THE CARD IS WHAT COUNTS. Prove the row's statement (the work); the ties are given (YtffofpiejcolfaaDoorTie.lean); close each card by the builder's one call (the guide's Derived/Test/ToyasCard.lean, 'card_holds'). Laid BY PROGRAM, IN A SANDBOX (cutbox-door.mjs). By AI agents, Wed Nov 11 2026. No macro, syntax, notation, axiom, sorry.
-/
import Derived.Test.YtffofpiejcolfaaDoorRows
import GoSem.ClaimSeven
namespace Go.Proofs.YtffofpiejcolfaaDoor
namespace Rows

/-- THE TIED CARD OF 'laws.FnExactReadThread'. -/
def fnExactReadThreadCard : Claim7 := { stood := { row := fnExactReadThreadRow, standIns := [], harness := (true, "b4614a7bb26782e96fbdcb7526c8575df98fa1a23e7429d48d07dd64dd5f0676"), looks := false }, kinds := [], alts := [], laidByText := true, laidKinds := [.data, .pinned], laidTests := true, laidLooks := .later }
def FnExactReadThreadCardSaid : Prop := Claim7.holds Tryd.pinned (.plain (OpenSpec.ofChange fnExactReadThreadSpec)) fnExactReadThreadCard

/-- THE TIED CARD OF 'laws.FnExactReadThreads'. -/
def fnExactReadThreadsCard : Claim7 := { stood := { row := fnExactReadThreadsRow, standIns := [], harness := (true, "b4614a7bb26782e96fbdcb7526c8575df98fa1a23e7429d48d07dd64dd5f0676"), looks := false }, kinds := [], alts := [], laidByText := true, laidKinds := [.data, .pinned], laidTests := true, laidLooks := .later }
def FnExactReadThreadsCardSaid : Prop := Claim7.holds Tryd.pinned (.plain (OpenSpec.ofChange fnExactReadThreadsSpec)) fnExactReadThreadsCard

/-- THE SECOND FORM's CARD OF 'laws.FnExactReadThread'. -/
def fnExactReadThreadUptoCard : Claim7 := { stood := { row := fnExactReadThreadUptoRow, standIns := [], harness := (true, "b4614a7bb26782e96fbdcb7526c8575df98fa1a23e7429d48d07dd64dd5f0676"), looks := false }, kinds := [], alts := [], laidByText := true, laidKinds := [.data, .pinned], laidTests := true, laidLooks := .later }
def FnExactReadThreadUptoCardSaid : Prop := Claim7.holds Tryd.pinned (.plain (OpenSpec.upto fnExactReadThreadSpec)) fnExactReadThreadUptoCard

/-- THE SECOND FORM's CARD OF 'laws.FnExactReadThreads'. -/
def fnExactReadThreadsUptoCard : Claim7 := { stood := { row := fnExactReadThreadsUptoRow, standIns := [], harness := (true, "b4614a7bb26782e96fbdcb7526c8575df98fa1a23e7429d48d07dd64dd5f0676"), looks := false }, kinds := [], alts := [], laidByText := true, laidKinds := [.data, .pinned], laidTests := true, laidLooks := .later }
def FnExactReadThreadsUptoCardSaid : Prop := Claim7.holds Tryd.pinned (.plain (OpenSpec.upto fnExactReadThreadsSpec)) fnExactReadThreadsUptoCard
end Rows
end Go.Proofs.YtffofpiejcolfaaDoor
