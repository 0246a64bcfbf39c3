/-
  DERIVED. GIVEN WITH THE SEED: THE CARDS: each row of YthfhbddnkgfhaaaDoorRows.lean that lists a variable, with what it lists TIED to the program's text (the seventh form; the later family's looks); each row that meets fmt, with fmt's text TOLD by the authors' own Lean function (tested against real Go, not proved from fmt's source: count such statements apart). THE CARD IS WHAT COUNTS. Prove the row's statement (the work); the ties are given (YthfhbddnkgfhaaaDoorTie.lean); close each card by the builder's one call (the guide's Derived/Test/ToyasCard.lean, 'card_holds'). Laid BY PROGRAM, IN A SANDBOX (cutbox-door.mjs). By AI agents, Wed Nov 11 2026. No macro, syntax, notation, axiom, sorry.
-/
import Derived.Test.YthfhbddnkgfhaaaDoorRows
import GoSem.ClaimSeven
namespace Go.Proofs.YthfhbddnkgfhaaaDoor
namespace Rows

/-- THE TIED CARD OF 'spoondriftlaw09.PebbleLeast'. -/
def pebbleLeastCard : Claim7 := { stood := { row := pebbleLeastRow, standIns := [], harness := (true, "ce858395422f8cbcd8aed3de24083fc864afb25bfd2824151d547b4b065bfe95"), looks := false }, kinds := [], alts := [], laidByText := true, laidKinds := [.funcs], laidTests := true, laidLooks := .later }
def PebbleLeastCardSaid : Prop := Claim7.holds Tryd.pinned (.plain (OpenSpec.ofChange pebbleLeastSpec)) pebbleLeastCard

/-- THE TIED CARD OF 'spoondriftlaw09.PebbleShows'. -/
def pebbleShowsCard : Claim7 := { stood := { row := pebbleShowsRow, standIns := [], harness := (true, "ce858395422f8cbcd8aed3de24083fc864afb25bfd2824151d547b4b065bfe95"), looks := false }, kinds := [], alts := [], laidByText := true, laidKinds := [.funcs], laidTests := true, laidLooks := .later }
def PebbleShowsCardSaid : Prop := Claim7.holds Tryd.pinned (.plain (OpenSpec.ofChange pebbleShowsSpec)) pebbleShowsCard

/-- THE TIED CARD OF 'spoondriftlaw09.PebbleGiven'. -/
def pebbleGivenCard : Claim7 := { stood := { row := pebbleGivenRow, standIns := [], harness := (true, "ce858395422f8cbcd8aed3de24083fc864afb25bfd2824151d547b4b065bfe95"), looks := false }, kinds := [], alts := [], laidByText := true, laidKinds := [.funcs], laidTests := true, laidLooks := .later }
def PebbleGivenCardSaid : Prop := Claim7.holds Tryd.pinned (.plain (OpenSpec.ofChange pebbleGivenSpec)) pebbleGivenCard

/-- THE TIED CARD OF 'spoondriftlaw09.PebbleGraphs'. -/
def pebbleGraphsCard : Claim7 := { stood := { row := pebbleGraphsRow, standIns := [], harness := (true, "ce858395422f8cbcd8aed3de24083fc864afb25bfd2824151d547b4b065bfe95"), looks := false }, kinds := [], alts := [], laidByText := true, laidKinds := [.funcs], laidTests := true, laidLooks := .later }
def PebbleGraphsCardSaid : Prop := Claim7.holds Tryd.pinned (.plain (OpenSpec.ofChange pebbleGraphsSpec)) pebbleGraphsCard

/-- THE TIED CARD OF 'spoondriftlaw09.PebblePlays'. -/
def pebblePlaysCard : Claim7 := { stood := { row := pebblePlaysRow, standIns := [], harness := (true, "ce858395422f8cbcd8aed3de24083fc864afb25bfd2824151d547b4b065bfe95"), looks := false }, kinds := [], alts := [], laidByText := true, laidKinds := [.funcs], laidTests := true, laidLooks := .later }
def PebblePlaysCardSaid : Prop := Claim7.holds Tryd.pinned (.plain (OpenSpec.ofChange pebblePlaysSpec)) pebblePlaysCard

/-- THE TIED CARD OF 'spoondriftlaw09.PebbleBennett'. -/
def pebbleBennettCard : Claim7 := { stood := { row := pebbleBennettRow, standIns := [], harness := (true, "ce858395422f8cbcd8aed3de24083fc864afb25bfd2824151d547b4b065bfe95"), looks := false }, kinds := [], alts := [], laidByText := true, laidKinds := [.funcs], laidTests := true, laidLooks := .later }
def PebbleBennettCardSaid : Prop := Claim7.holds Tryd.pinned (.plain (OpenSpec.ofChange pebbleBennettSpec)) pebbleBennettCard

/-- THE TIED CARD OF 'spoondriftlaw09.PebbleBack'. -/
def pebbleBackCard : Claim7 := { stood := { row := pebbleBackRow, standIns := [], harness := (true, "ce858395422f8cbcd8aed3de24083fc864afb25bfd2824151d547b4b065bfe95"), looks := false }, kinds := [], alts := [], laidByText := true, laidKinds := [.funcs], laidTests := true, laidLooks := .later }
def PebbleBackCardSaid : Prop := Claim7.holds Tryd.pinned (.plain (OpenSpec.ofChange pebbleBackSpec)) pebbleBackCard

/-- THE TIED CARD OF 'spoondriftlaw09.PebbleTrade'. -/
def pebbleTradeCard : Claim7 := { stood := { row := pebbleTradeRow, standIns := [], harness := (true, "ce858395422f8cbcd8aed3de24083fc864afb25bfd2824151d547b4b065bfe95"), looks := false }, kinds := [], alts := [], laidByText := true, laidKinds := [.funcs], laidTests := true, laidLooks := .later }
def PebbleTradeCardSaid : Prop := Claim7.holds Tryd.pinned (.plain (OpenSpec.ofChange pebbleTradeSpec)) pebbleTradeCard

/-- THE TIED CARD OF 'spoondriftlaw09.PebbleReached'. -/
def pebbleReachedCard : Claim7 := { stood := { row := pebbleReachedRow, standIns := [], harness := (true, "ce858395422f8cbcd8aed3de24083fc864afb25bfd2824151d547b4b065bfe95"), looks := false }, kinds := [], alts := [], laidByText := true, laidKinds := [.funcs], laidTests := true, laidLooks := .later }
def PebbleReachedCardSaid : Prop := Claim7.holds Tryd.pinned (.plain (OpenSpec.ofChange pebbleReachedSpec)) pebbleReachedCard

/-- THE SECOND FORM's CARD OF 'spoondriftlaw09.PebbleLeast'. -/
def pebbleLeastUptoCard : Claim7 := { stood := { row := pebbleLeastUptoRow, standIns := [], harness := (true, "ce858395422f8cbcd8aed3de24083fc864afb25bfd2824151d547b4b065bfe95"), looks := false }, kinds := [], alts := [], laidByText := true, laidKinds := [.funcs], laidTests := true, laidLooks := .later }
def PebbleLeastUptoCardSaid : Prop := Claim7.holds Tryd.pinned (.plain (OpenSpec.upto pebbleLeastSpec)) pebbleLeastUptoCard

/-- THE SECOND FORM's CARD OF 'spoondriftlaw09.PebbleShows'. -/
def pebbleShowsUptoCard : Claim7 := { stood := { row := pebbleShowsUptoRow, standIns := [], harness := (true, "ce858395422f8cbcd8aed3de24083fc864afb25bfd2824151d547b4b065bfe95"), looks := false }, kinds := [], alts := [], laidByText := true, laidKinds := [.funcs], laidTests := true, laidLooks := .later }
def PebbleShowsUptoCardSaid : Prop := Claim7.holds Tryd.pinned (.plain (OpenSpec.upto pebbleShowsSpec)) pebbleShowsUptoCard

/-- THE SECOND FORM's CARD OF 'spoondriftlaw09.PebbleGiven'. -/
def pebbleGivenUptoCard : Claim7 := { stood := { row := pebbleGivenUptoRow, standIns := [], harness := (true, "ce858395422f8cbcd8aed3de24083fc864afb25bfd2824151d547b4b065bfe95"), looks := false }, kinds := [], alts := [], laidByText := true, laidKinds := [.funcs], laidTests := true, laidLooks := .later }
def PebbleGivenUptoCardSaid : Prop := Claim7.holds Tryd.pinned (.plain (OpenSpec.upto pebbleGivenSpec)) pebbleGivenUptoCard

/-- THE SECOND FORM's CARD OF 'spoondriftlaw09.PebbleGraphs'. -/
def pebbleGraphsUptoCard : Claim7 := { stood := { row := pebbleGraphsUptoRow, standIns := [], harness := (true, "ce858395422f8cbcd8aed3de24083fc864afb25bfd2824151d547b4b065bfe95"), looks := false }, kinds := [], alts := [], laidByText := true, laidKinds := [.funcs], laidTests := true, laidLooks := .later }
def PebbleGraphsUptoCardSaid : Prop := Claim7.holds Tryd.pinned (.plain (OpenSpec.upto pebbleGraphsSpec)) pebbleGraphsUptoCard

/-- THE SECOND FORM's CARD OF 'spoondriftlaw09.PebblePlays'. -/
def pebblePlaysUptoCard : Claim7 := { stood := { row := pebblePlaysUptoRow, standIns := [], harness := (true, "ce858395422f8cbcd8aed3de24083fc864afb25bfd2824151d547b4b065bfe95"), looks := false }, kinds := [], alts := [], laidByText := true, laidKinds := [.funcs], laidTests := true, laidLooks := .later }
def PebblePlaysUptoCardSaid : Prop := Claim7.holds Tryd.pinned (.plain (OpenSpec.upto pebblePlaysSpec)) pebblePlaysUptoCard

/-- THE SECOND FORM's CARD OF 'spoondriftlaw09.PebbleBennett'. -/
def pebbleBennettUptoCard : Claim7 := { stood := { row := pebbleBennettUptoRow, standIns := [], harness := (true, "ce858395422f8cbcd8aed3de24083fc864afb25bfd2824151d547b4b065bfe95"), looks := false }, kinds := [], alts := [], laidByText := true, laidKinds := [.funcs], laidTests := true, laidLooks := .later }
def PebbleBennettUptoCardSaid : Prop := Claim7.holds Tryd.pinned (.plain (OpenSpec.upto pebbleBennettSpec)) pebbleBennettUptoCard

/-- THE SECOND FORM's CARD OF 'spoondriftlaw09.PebbleBack'. -/
def pebbleBackUptoCard : Claim7 := { stood := { row := pebbleBackUptoRow, standIns := [], harness := (true, "ce858395422f8cbcd8aed3de24083fc864afb25bfd2824151d547b4b065bfe95"), looks := false }, kinds := [], alts := [], laidByText := true, laidKinds := [.funcs], laidTests := true, laidLooks := .later }
def PebbleBackUptoCardSaid : Prop := Claim7.holds Tryd.pinned (.plain (OpenSpec.upto pebbleBackSpec)) pebbleBackUptoCard

/-- THE SECOND FORM's CARD OF 'spoondriftlaw09.PebbleTrade'. -/
def pebbleTradeUptoCard : Claim7 := { stood := { row := pebbleTradeUptoRow, standIns := [], harness := (true, "ce858395422f8cbcd8aed3de24083fc864afb25bfd2824151d547b4b065bfe95"), looks := false }, kinds := [], alts := [], laidByText := true, laidKinds := [.funcs], laidTests := true, laidLooks := .later }
def PebbleTradeUptoCardSaid : Prop := Claim7.holds Tryd.pinned (.plain (OpenSpec.upto pebbleTradeSpec)) pebbleTradeUptoCard

/-- THE SECOND FORM's CARD OF 'spoondriftlaw09.PebbleReached'. -/
def pebbleReachedUptoCard : Claim7 := { stood := { row := pebbleReachedUptoRow, standIns := [], harness := (true, "ce858395422f8cbcd8aed3de24083fc864afb25bfd2824151d547b4b065bfe95"), looks := false }, kinds := [], alts := [], laidByText := true, laidKinds := [.funcs], laidTests := true, laidLooks := .later }
def PebbleReachedUptoCardSaid : Prop := Claim7.holds Tryd.pinned (.plain (OpenSpec.upto pebbleReachedSpec)) pebbleReachedUptoCard
end Rows
end Go.Proofs.YthfhbddnkgfhaaaDoor
