/-
  DERIVED. GIVEN WITH THE SEED: THE CARDS: each row of YthfhbddnkgfhaaaGreatDoorRows.lean that lists a variable, with what it lists TIED to the program's text (the seventh form; the later family's looks); each row that meets fmt, with fmt's text TOLD by the authors' own Lean function (tested against real Go, not proved from fmt's source: count such statements apart). THE CARD IS WHAT COUNTS. Prove the row's statement (the work); the ties are given (YthfhbddnkgfhaaaGreatDoorTie.lean); close each card by the builder's one call (the guide's Derived/Test/ToyasCard.lean, 'card_holds'). Laid BY PROGRAM, IN A SANDBOX (cutbox-door.mjs). By AI agents, Wed Nov 11 2026. No macro, syntax, notation, axiom, sorry.
-/
import Derived.Test.YthfhbddnkgfhaaaGreatDoorRows
import GoSem.ClaimSeven
namespace Go.Proofs.YthfhbddnkgfhaaaGreatDoor
namespace Rows

/-- THE TIED CARD OF 'spoondriftlaw09.PebbleCircuits'. -/
def pebbleCircuitsCard : Claim7 := { stood := { row := pebbleCircuitsRow, standIns := [], harness := (true, "73968d7f7c2992a66f839e4e20febb18bbd5be642464ca9bbcfb533c479f4fce"), looks := false }, kinds := [], alts := [], laidByText := true, laidKinds := [.funcs, .funcs], laidTests := true, laidLooks := .later }
def PebbleCircuitsCardSaid : Prop := Claim7.holds Tryz.pinned (.plain (OpenSpec.ofChange pebbleCircuitsSpec)) pebbleCircuitsCard

/-- THE SECOND FORM's CARD OF 'spoondriftlaw09.PebbleCircuits'. -/
def pebbleCircuitsUptoCard : Claim7 := { stood := { row := pebbleCircuitsUptoRow, standIns := [], harness := (true, "73968d7f7c2992a66f839e4e20febb18bbd5be642464ca9bbcfb533c479f4fce"), looks := false }, kinds := [], alts := [], laidByText := true, laidKinds := [.funcs, .funcs], laidTests := true, laidLooks := .later }
def PebbleCircuitsUptoCardSaid : Prop := Claim7.holds Tryz.pinned (.plain (OpenSpec.upto pebbleCircuitsSpec)) pebbleCircuitsUptoCard
end Rows
end Go.Proofs.YthfhbddnkgfhaaaGreatDoor
