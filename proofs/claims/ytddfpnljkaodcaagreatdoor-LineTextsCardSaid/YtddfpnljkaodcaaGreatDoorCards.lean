/-
  DERIVED. GIVEN WITH THE SEED: THE CARDS: each row of YtddfpnljkaodcaaGreatDoorRows.lean that lists a variable, with what it lists TIED to the program's text (the seventh form; the later family's looks); each row that meets fmt, with fmt's text TOLD by the authors' own Lean function (tested against real Go, not proved from fmt's source: count such statements apart). THE CARD IS WHAT COUNTS. Prove the row's statement (the work); the ties are given (YtddfpnljkaodcaaGreatDoorTie.lean); close each card by the builder's one call (the guide's Derived/Test/ToyasCard.lean, 'card_holds'). Laid BY PROGRAM, IN A SANDBOX (cutbox-door.mjs). By AI agents, Wed Nov 11 2026. No macro, syntax, notation, axiom, sorry.
-/
import Derived.Test.YtddfpnljkaodcaaGreatDoorRows
import GoSem.ClaimSeven
namespace Go.Proofs.YtddfpnljkaodcaaGreatDoor
namespace Rows

/-- THE TIED CARD OF 'cordellelaw31.LineTexts'. -/
def lineTextsCard : Claim7 := { stood := { row := lineTextsRow, standIns := [], harness := (true, "34fae1602fae7ce60f0a3171423bb1e5df771ce9d5aae4609e827f91b70b8eaf"), looks := true }, kinds := [], alts := [], laidByText := true, laidKinds := [.data, .data, .data, .data, .sentinel, .sentinel, .widerDeep, .pinned], laidTests := true, laidLooks := .later }
def LineTextsCardSaid : Prop := Claim7.holds Tryz.pinned (.plain (OpenSpec.ofChange lineTextsSpec)) lineTextsCard

/-- THE SECOND FORM's CARD OF 'cordellelaw31.LineTexts'. -/
def lineTextsUptoCard : Claim7 := { stood := { row := lineTextsUptoRow, standIns := [], harness := (true, "34fae1602fae7ce60f0a3171423bb1e5df771ce9d5aae4609e827f91b70b8eaf"), looks := true }, kinds := [], alts := [], laidByText := true, laidKinds := [.data, .data, .data, .data, .sentinel, .sentinel, .widerDeep, .pinned], laidTests := true, laidLooks := .later }
def LineTextsUptoCardSaid : Prop := Claim7.holds Tryz.pinned (.plain (OpenSpec.upto lineTextsSpec)) lineTextsUptoCard
end Rows
end Go.Proofs.YtddfpnljkaodcaaGreatDoor
