/-
  DERIVED. GIVEN WITH THE SEED: THE CARDS: each row of YtfplocpjdjjoaaaDoorRows.lean that lists a variable, with what it lists TIED to the program's text (the seventh form; the later family's looks); each row that meets fmt, with fmt's text TOLD by the authors' own Lean function (tested against real Go, not proved from fmt's source: count such statements apart). THE CARD IS WHAT COUNTS. Prove the row's statement (the work); the ties are given (YtfplocpjdjjoaaaDoorTie.lean); close each card by the builder's one call (the guide's Derived/Test/ToyasCard.lean, 'card_holds'). Laid BY PROGRAM, IN A SANDBOX (cutbox-door.mjs). By AI agents, Wed Nov 11 2026. No macro, syntax, notation, axiom, sorry.
-/
import Derived.Test.YtfplocpjdjjoaaaDoorRows
import GoSem.ClaimSeven
namespace Go.Proofs.YtfplocpjdjjoaaaDoor
namespace Rows

/-- THE TIED CARD OF 'bobbintop.WholeTrailers'. -/
def wholeTrailersCard : Claim7 := { stood := { row := wholeTrailersRow, standIns := [], harness := (true, "41009d3fb82b1f861c44b0ebe75946a380f0b949f1a2db72afb4e6b61be65b31"), looks := false }, kinds := [], alts := [], laidByText := true, laidKinds := [.data], laidTests := true, laidLooks := .later }
def WholeTrailersCardSaid : Prop := Claim7.holds Tryd.pinned (.plain (OpenSpec.ofChange wholeTrailersSpec)) wholeTrailersCard

/-- THE TIED CARD OF 'bobbintop.WholeCut'. -/
def wholeCutCard : Claim7 := { stood := { row := wholeCutRow, standIns := [], harness := (true, "41009d3fb82b1f861c44b0ebe75946a380f0b949f1a2db72afb4e6b61be65b31"), looks := false }, kinds := [], alts := [], laidByText := true, laidKinds := [.data, .data, .data, .data, .pinned], laidTests := true, laidLooks := .later }
def WholeCutCardSaid : Prop := Claim7.holds Tryd.pinned (.plain (OpenSpec.ofChange wholeCutSpec)) wholeCutCard

/-- THE TIED CARD OF 'bobbintop.WholeRefuses'. -/
def wholeRefusesCard : Claim7 := { stood := { row := wholeRefusesRow, standIns := [], harness := (true, "41009d3fb82b1f861c44b0ebe75946a380f0b949f1a2db72afb4e6b61be65b31"), looks := false }, kinds := [], alts := [], laidByText := true, laidKinds := [.data, .data, .pinned], laidTests := true, laidLooks := .later }
def WholeRefusesCardSaid : Prop := Claim7.holds Tryd.pinned (.plain (OpenSpec.ofChange wholeRefusesSpec)) wholeRefusesCard

/-- THE TIED CARD OF 'bobbintop.WholeTemplates'. -/
def wholeTemplatesCard : Claim7 := { stood := { row := wholeTemplatesRow, standIns := [], harness := (true, "41009d3fb82b1f861c44b0ebe75946a380f0b949f1a2db72afb4e6b61be65b31"), looks := false }, kinds := [], alts := [], laidByText := true, laidKinds := [.data, .data, .pinned], laidTests := true, laidLooks := .later }
def WholeTemplatesCardSaid : Prop := Claim7.holds Tryd.pinned (.plain (OpenSpec.ofChange wholeTemplatesSpec)) wholeTemplatesCard

/-- THE SECOND FORM's CARD OF 'bobbintop.WholeTrailers'. -/
def wholeTrailersUptoCard : Claim7 := { stood := { row := wholeTrailersUptoRow, standIns := [], harness := (true, "41009d3fb82b1f861c44b0ebe75946a380f0b949f1a2db72afb4e6b61be65b31"), looks := false }, kinds := [], alts := [], laidByText := true, laidKinds := [.data], laidTests := true, laidLooks := .later }
def WholeTrailersUptoCardSaid : Prop := Claim7.holds Tryd.pinned (.plain (OpenSpec.upto wholeTrailersSpec)) wholeTrailersUptoCard

/-- THE SECOND FORM's CARD OF 'bobbintop.WholeCut'. -/
def wholeCutUptoCard : Claim7 := { stood := { row := wholeCutUptoRow, standIns := [], harness := (true, "41009d3fb82b1f861c44b0ebe75946a380f0b949f1a2db72afb4e6b61be65b31"), looks := false }, kinds := [], alts := [], laidByText := true, laidKinds := [.data, .data, .data, .data, .pinned], laidTests := true, laidLooks := .later }
def WholeCutUptoCardSaid : Prop := Claim7.holds Tryd.pinned (.plain (OpenSpec.upto wholeCutSpec)) wholeCutUptoCard

/-- THE SECOND FORM's CARD OF 'bobbintop.WholeRefuses'. -/
def wholeRefusesUptoCard : Claim7 := { stood := { row := wholeRefusesUptoRow, standIns := [], harness := (true, "41009d3fb82b1f861c44b0ebe75946a380f0b949f1a2db72afb4e6b61be65b31"), looks := false }, kinds := [], alts := [], laidByText := true, laidKinds := [.data, .data, .pinned], laidTests := true, laidLooks := .later }
def WholeRefusesUptoCardSaid : Prop := Claim7.holds Tryd.pinned (.plain (OpenSpec.upto wholeRefusesSpec)) wholeRefusesUptoCard

/-- THE SECOND FORM's CARD OF 'bobbintop.WholeTemplates'. -/
def wholeTemplatesUptoCard : Claim7 := { stood := { row := wholeTemplatesUptoRow, standIns := [], harness := (true, "41009d3fb82b1f861c44b0ebe75946a380f0b949f1a2db72afb4e6b61be65b31"), looks := false }, kinds := [], alts := [], laidByText := true, laidKinds := [.data, .data, .pinned], laidTests := true, laidLooks := .later }
def WholeTemplatesUptoCardSaid : Prop := Claim7.holds Tryd.pinned (.plain (OpenSpec.upto wholeTemplatesSpec)) wholeTemplatesUptoCard
end Rows
end Go.Proofs.YtfplocpjdjjoaaaDoor
