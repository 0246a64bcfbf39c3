/-
  DERIVED. GIVEN WITH THE SEED: THE CARDS: each row of YtdokoekgdeebpaaDoorRows.lean that lists a variable, with what it lists TIED to the program's text (the seventh form; the later family's looks); each row that meets fmt, with fmt's text TOLD by the authors' own Lean function (tested against real Go, not proved from fmt's source: count such statements apart). THE CARD IS WHAT COUNTS. Prove the row's statement (the work); the ties are given (YtdokoekgdeebpaaDoorTie.lean); close each card by the builder's one call (the guide's Derived/Test/ToyasCard.lean, 'card_holds'). Laid BY PROGRAM, IN A SANDBOX (cutbox-door.mjs). By AI agents, Wed Nov 11 2026. No macro, syntax, notation, axiom, sorry.
-/
import Derived.Test.YtdokoekgdeebpaaDoorRows
import GoSem.ClaimSeven
namespace Go.Proofs.YtdokoekgdeebpaaDoor
namespace Rows

/-- THE TIED CARD OF 'spoondriftlaw08.RevPermutes'. -/
def revPermutesCard : Claim7 := { stood := { row := revPermutesRow, standIns := [], harness := (true, "82f04ec142af950f43eca956d8f5d45b7c319077b628a7d9effb20902b21d1a4"), looks := false }, kinds := [], alts := [], laidByText := true, laidKinds := [.funcs, .data], laidTests := true, laidLooks := .later }
def RevPermutesCardSaid : Prop := Claim7.holds Tryd.pinned (.plain (OpenSpec.ofChange revPermutesSpec)) revPermutesCard

/-- THE TIED CARD OF 'spoondriftlaw08.RevShortest'. -/
def revShortestCard : Claim7 := { stood := { row := revShortestRow, standIns := [], harness := (true, "82f04ec142af950f43eca956d8f5d45b7c319077b628a7d9effb20902b21d1a4"), looks := false }, kinds := [], alts := [], laidByText := true, laidKinds := [.funcs, .data], laidTests := true, laidLooks := .later }
def RevShortestCardSaid : Prop := Claim7.holds Tryd.pinned (.plain (OpenSpec.ofChange revShortestSpec)) revShortestCard

/-- THE TIED CARD OF 'spoondriftlaw08.RevCounts'. -/
def revCountsCard : Claim7 := { stood := { row := revCountsRow, standIns := [], harness := (true, "82f04ec142af950f43eca956d8f5d45b7c319077b628a7d9effb20902b21d1a4"), looks := false }, kinds := [], alts := [], laidByText := true, laidKinds := [.funcs, .data], laidTests := true, laidLooks := .later }
def RevCountsCardSaid : Prop := Claim7.holds Tryd.pinned (.plain (OpenSpec.ofChange revCountsSpec)) revCountsCard

/-- THE TIED CARD OF 'spoondriftlaw08.RevDoes'. -/
def revDoesCard : Claim7 := { stood := { row := revDoesRow, standIns := [], harness := (true, "82f04ec142af950f43eca956d8f5d45b7c319077b628a7d9effb20902b21d1a4"), looks := false }, kinds := [], alts := [], laidByText := true, laidKinds := [.funcs, .data], laidTests := true, laidLooks := .later }
def RevDoesCardSaid : Prop := Claim7.holds Tryd.pinned (.plain (OpenSpec.ofChange revDoesSpec)) revDoesCard

/-- THE TIED CARD OF 'spoondriftlaw08.RevLeaves'. -/
def revLeavesCard : Claim7 := { stood := { row := revLeavesRow, standIns := [], harness := (true, "82f04ec142af950f43eca956d8f5d45b7c319077b628a7d9effb20902b21d1a4"), looks := false }, kinds := [], alts := [], laidByText := true, laidKinds := [.funcs, .data], laidTests := true, laidLooks := .later }
def RevLeavesCardSaid : Prop := Claim7.holds Tryd.pinned (.plain (OpenSpec.ofChange revLeavesSpec)) revLeavesCard

/-- THE TIED CARD OF 'spoondriftlaw08.RevExpresses'. -/
def revExpressesCard : Claim7 := { stood := { row := revExpressesRow, standIns := [], harness := (true, "82f04ec142af950f43eca956d8f5d45b7c319077b628a7d9effb20902b21d1a4"), looks := false }, kinds := [], alts := [], laidByText := true, laidKinds := [.funcs, .data], laidTests := true, laidLooks := .later }
def RevExpressesCardSaid : Prop := Claim7.holds Tryd.pinned (.plain (OpenSpec.ofChange revExpressesSpec)) revExpressesCard

/-- THE TIED CARD OF 'spoondriftlaw08.RevValues'. -/
def revValuesCard : Claim7 := { stood := { row := revValuesRow, standIns := [], harness := (true, "82f04ec142af950f43eca956d8f5d45b7c319077b628a7d9effb20902b21d1a4"), looks := false }, kinds := [], alts := [], laidByText := true, laidKinds := [.funcs, .data], laidTests := true, laidLooks := .later }
def RevValuesCardSaid : Prop := Claim7.holds Tryd.pinned (.plain (OpenSpec.ofChange revValuesSpec)) revValuesCard

/-- THE TIED CARD OF 'spoondriftlaw08.RevFew'. -/
def revFewCard : Claim7 := { stood := { row := revFewRow, standIns := [], harness := (true, "82f04ec142af950f43eca956d8f5d45b7c319077b628a7d9effb20902b21d1a4"), looks := false }, kinds := [], alts := [], laidByText := true, laidKinds := [.funcs, .data], laidTests := true, laidLooks := .later }
def RevFewCardSaid : Prop := Claim7.holds Tryd.pinned (.plain (OpenSpec.ofChange revFewSpec)) revFewCard

/-- THE TIED CARD OF 'spoondriftlaw08.RevMakes'. -/
def revMakesCard : Claim7 := { stood := { row := revMakesRow, standIns := [], harness := (true, "82f04ec142af950f43eca956d8f5d45b7c319077b628a7d9effb20902b21d1a4"), looks := false }, kinds := [], alts := [], laidByText := true, laidKinds := [.funcs, .data], laidTests := true, laidLooks := .later }
def RevMakesCardSaid : Prop := Claim7.holds Tryd.pinned (.plain (OpenSpec.ofChange revMakesSpec)) revMakesCard

/-- THE SECOND FORM's CARD OF 'spoondriftlaw08.RevPermutes'. -/
def revPermutesUptoCard : Claim7 := { stood := { row := revPermutesUptoRow, standIns := [], harness := (true, "82f04ec142af950f43eca956d8f5d45b7c319077b628a7d9effb20902b21d1a4"), looks := false }, kinds := [], alts := [], laidByText := true, laidKinds := [.funcs, .data], laidTests := true, laidLooks := .later }
def RevPermutesUptoCardSaid : Prop := Claim7.holds Tryd.pinned (.plain (OpenSpec.upto revPermutesSpec)) revPermutesUptoCard

/-- THE SECOND FORM's CARD OF 'spoondriftlaw08.RevShortest'. -/
def revShortestUptoCard : Claim7 := { stood := { row := revShortestUptoRow, standIns := [], harness := (true, "82f04ec142af950f43eca956d8f5d45b7c319077b628a7d9effb20902b21d1a4"), looks := false }, kinds := [], alts := [], laidByText := true, laidKinds := [.funcs, .data], laidTests := true, laidLooks := .later }
def RevShortestUptoCardSaid : Prop := Claim7.holds Tryd.pinned (.plain (OpenSpec.upto revShortestSpec)) revShortestUptoCard

/-- THE SECOND FORM's CARD OF 'spoondriftlaw08.RevCounts'. -/
def revCountsUptoCard : Claim7 := { stood := { row := revCountsUptoRow, standIns := [], harness := (true, "82f04ec142af950f43eca956d8f5d45b7c319077b628a7d9effb20902b21d1a4"), looks := false }, kinds := [], alts := [], laidByText := true, laidKinds := [.funcs, .data], laidTests := true, laidLooks := .later }
def RevCountsUptoCardSaid : Prop := Claim7.holds Tryd.pinned (.plain (OpenSpec.upto revCountsSpec)) revCountsUptoCard

/-- THE SECOND FORM's CARD OF 'spoondriftlaw08.RevDoes'. -/
def revDoesUptoCard : Claim7 := { stood := { row := revDoesUptoRow, standIns := [], harness := (true, "82f04ec142af950f43eca956d8f5d45b7c319077b628a7d9effb20902b21d1a4"), looks := false }, kinds := [], alts := [], laidByText := true, laidKinds := [.funcs, .data], laidTests := true, laidLooks := .later }
def RevDoesUptoCardSaid : Prop := Claim7.holds Tryd.pinned (.plain (OpenSpec.upto revDoesSpec)) revDoesUptoCard

/-- THE SECOND FORM's CARD OF 'spoondriftlaw08.RevLeaves'. -/
def revLeavesUptoCard : Claim7 := { stood := { row := revLeavesUptoRow, standIns := [], harness := (true, "82f04ec142af950f43eca956d8f5d45b7c319077b628a7d9effb20902b21d1a4"), looks := false }, kinds := [], alts := [], laidByText := true, laidKinds := [.funcs, .data], laidTests := true, laidLooks := .later }
def RevLeavesUptoCardSaid : Prop := Claim7.holds Tryd.pinned (.plain (OpenSpec.upto revLeavesSpec)) revLeavesUptoCard

/-- THE SECOND FORM's CARD OF 'spoondriftlaw08.RevExpresses'. -/
def revExpressesUptoCard : Claim7 := { stood := { row := revExpressesUptoRow, standIns := [], harness := (true, "82f04ec142af950f43eca956d8f5d45b7c319077b628a7d9effb20902b21d1a4"), looks := false }, kinds := [], alts := [], laidByText := true, laidKinds := [.funcs, .data], laidTests := true, laidLooks := .later }
def RevExpressesUptoCardSaid : Prop := Claim7.holds Tryd.pinned (.plain (OpenSpec.upto revExpressesSpec)) revExpressesUptoCard

/-- THE SECOND FORM's CARD OF 'spoondriftlaw08.RevValues'. -/
def revValuesUptoCard : Claim7 := { stood := { row := revValuesUptoRow, standIns := [], harness := (true, "82f04ec142af950f43eca956d8f5d45b7c319077b628a7d9effb20902b21d1a4"), looks := false }, kinds := [], alts := [], laidByText := true, laidKinds := [.funcs, .data], laidTests := true, laidLooks := .later }
def RevValuesUptoCardSaid : Prop := Claim7.holds Tryd.pinned (.plain (OpenSpec.upto revValuesSpec)) revValuesUptoCard

/-- THE SECOND FORM's CARD OF 'spoondriftlaw08.RevFew'. -/
def revFewUptoCard : Claim7 := { stood := { row := revFewUptoRow, standIns := [], harness := (true, "82f04ec142af950f43eca956d8f5d45b7c319077b628a7d9effb20902b21d1a4"), looks := false }, kinds := [], alts := [], laidByText := true, laidKinds := [.funcs, .data], laidTests := true, laidLooks := .later }
def RevFewUptoCardSaid : Prop := Claim7.holds Tryd.pinned (.plain (OpenSpec.upto revFewSpec)) revFewUptoCard

/-- THE SECOND FORM's CARD OF 'spoondriftlaw08.RevMakes'. -/
def revMakesUptoCard : Claim7 := { stood := { row := revMakesUptoRow, standIns := [], harness := (true, "82f04ec142af950f43eca956d8f5d45b7c319077b628a7d9effb20902b21d1a4"), looks := false }, kinds := [], alts := [], laidByText := true, laidKinds := [.funcs, .data], laidTests := true, laidLooks := .later }
def RevMakesUptoCardSaid : Prop := Claim7.holds Tryd.pinned (.plain (OpenSpec.upto revMakesSpec)) revMakesUptoCard
end Rows
end Go.Proofs.YtdokoekgdeebpaaDoor
