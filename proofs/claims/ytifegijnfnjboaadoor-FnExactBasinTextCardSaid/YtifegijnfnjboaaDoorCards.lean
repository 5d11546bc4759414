/-
  DERIVED. GIVEN WITH THE SEED: THE CARDS: each row of YtifegijnfnjboaaDoorRows.lean that lists a variable, with what it lists TIED to the program's text (the seventh form; the later family's looks); each row that meets fmt, with fmt's text TOLD by the authors' own Lean function (tested against real Go, not proved from fmt's source: count such statements apart). THE CARD IS WHAT COUNTS. Prove the row's statement (the work); the ties are given (YtifegijnfnjboaaDoorTie.lean); close each card by the builder's one call (the guide's Derived/Test/ToyasCard.lean, 'card_holds'). Laid BY PROGRAM, IN A SANDBOX (cutbox-door.mjs). By AI agents, Wed Nov 11 2026. No macro, syntax, notation, axiom, sorry.
-/
import Derived.Test.YtifegijnfnjboaaDoorRows
import GoSem.ClaimSeven
namespace Go.Proofs.YtifegijnfnjboaaDoor
namespace Rows

/-- THE TIED CARD OF 'laws.FnExactBasinText'. -/
def fnExactBasinTextCard : Claim7 := { stood := { row := fnExactBasinTextRow, standIns := [], harness := (true, "a1cba6bd96573902fbde85ea543083732b6142a7745cf0c6cfac5210553b3c12"), looks := true }, kinds := [], alts := [], laidByText := true, laidKinds := [.data, .data, .data], laidTests := true, laidLooks := .later }
def FnExactBasinTextCardSaid : Prop := Claim7.holds Tryd.pinned (.plain (OpenSpec.ofChange fnExactBasinTextSpec)) fnExactBasinTextCard

/-- THE TIED CARD OF 'laws.FnExactReadBasin'. -/
def fnExactReadBasinCard : Claim7 := { stood := { row := fnExactReadBasinRow, standIns := [], harness := (true, "a1cba6bd96573902fbde85ea543083732b6142a7745cf0c6cfac5210553b3c12"), looks := true }, kinds := [], alts := [], laidByText := true, laidKinds := [.data, .data, .data, .data, .sentinel, .sentinel, .pinned], laidTests := true, laidLooks := .later }
def FnExactReadBasinCardSaid : Prop := Claim7.holds Tryd.pinned (.plain (OpenSpec.ofChange fnExactReadBasinSpec)) fnExactReadBasinCard

/-- THE TIED CARD OF 'laws.FnExactReadWhirls'. -/
def fnExactReadWhirlsCard : Claim7 := { stood := { row := fnExactReadWhirlsRow, standIns := [], harness := (true, "a1cba6bd96573902fbde85ea543083732b6142a7745cf0c6cfac5210553b3c12"), looks := true }, kinds := [], alts := [], laidByText := true, laidKinds := [.data, .pinned], laidTests := true, laidLooks := .later }
def FnExactReadWhirlsCardSaid : Prop := Claim7.holds Tryd.pinned (.plain (OpenSpec.ofChange fnExactReadWhirlsSpec)) fnExactReadWhirlsCard

/-- THE TIED CARD OF 'laws.FnExactReadSheet'. -/
def fnExactReadSheetCard : Claim7 := { stood := { row := fnExactReadSheetRow, standIns := [], harness := (true, "a1cba6bd96573902fbde85ea543083732b6142a7745cf0c6cfac5210553b3c12"), looks := true }, kinds := [], alts := [], laidByText := true, laidKinds := [.data, .pinned], laidTests := true, laidLooks := .later }
def FnExactReadSheetCardSaid : Prop := Claim7.holds Tryd.pinned (.plain (OpenSpec.ofChange fnExactReadSheetSpec)) fnExactReadSheetCard

/-- THE SECOND FORM's CARD OF 'laws.FnExactBasinText'. -/
def fnExactBasinTextUptoCard : Claim7 := { stood := { row := fnExactBasinTextUptoRow, standIns := [], harness := (true, "a1cba6bd96573902fbde85ea543083732b6142a7745cf0c6cfac5210553b3c12"), looks := true }, kinds := [], alts := [], laidByText := true, laidKinds := [.data, .data, .data], laidTests := true, laidLooks := .later }
def FnExactBasinTextUptoCardSaid : Prop := Claim7.holds Tryd.pinned (.plain (OpenSpec.upto fnExactBasinTextSpec)) fnExactBasinTextUptoCard

/-- THE SECOND FORM's CARD OF 'laws.FnExactReadBasin'. -/
def fnExactReadBasinUptoCard : Claim7 := { stood := { row := fnExactReadBasinUptoRow, standIns := [], harness := (true, "a1cba6bd96573902fbde85ea543083732b6142a7745cf0c6cfac5210553b3c12"), looks := true }, kinds := [], alts := [], laidByText := true, laidKinds := [.data, .data, .data, .data, .sentinel, .sentinel, .pinned], laidTests := true, laidLooks := .later }
def FnExactReadBasinUptoCardSaid : Prop := Claim7.holds Tryd.pinned (.plain (OpenSpec.upto fnExactReadBasinSpec)) fnExactReadBasinUptoCard

/-- THE SECOND FORM's CARD OF 'laws.FnExactReadWhirls'. -/
def fnExactReadWhirlsUptoCard : Claim7 := { stood := { row := fnExactReadWhirlsUptoRow, standIns := [], harness := (true, "a1cba6bd96573902fbde85ea543083732b6142a7745cf0c6cfac5210553b3c12"), looks := true }, kinds := [], alts := [], laidByText := true, laidKinds := [.data, .pinned], laidTests := true, laidLooks := .later }
def FnExactReadWhirlsUptoCardSaid : Prop := Claim7.holds Tryd.pinned (.plain (OpenSpec.upto fnExactReadWhirlsSpec)) fnExactReadWhirlsUptoCard

/-- THE SECOND FORM's CARD OF 'laws.FnExactReadSheet'. -/
def fnExactReadSheetUptoCard : Claim7 := { stood := { row := fnExactReadSheetUptoRow, standIns := [], harness := (true, "a1cba6bd96573902fbde85ea543083732b6142a7745cf0c6cfac5210553b3c12"), looks := true }, kinds := [], alts := [], laidByText := true, laidKinds := [.data, .pinned], laidTests := true, laidLooks := .later }
def FnExactReadSheetUptoCardSaid : Prop := Claim7.holds Tryd.pinned (.plain (OpenSpec.upto fnExactReadSheetSpec)) fnExactReadSheetUptoCard
end Rows
end Go.Proofs.YtifegijnfnjboaaDoor
