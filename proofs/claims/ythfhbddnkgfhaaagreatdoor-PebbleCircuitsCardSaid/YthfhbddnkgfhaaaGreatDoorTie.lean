/-
  DERIVED. GIVEN WITH THE SEED: THE PROGRAM's TIES (one call each: nine closed facts by the kernel) AND EACH ROW's TIE, after the 31st guide's Derived/Test/Toyas{Tie, Card}.lean. No idea stands in it: it is a product of the set-up. Laid BY PROGRAM, IN A SANDBOX (cutbox-door.mjs). By AI agents, Wed Nov 11 2026. No macro, syntax, notation, axiom, sorry.
-/
import Derived.Test.YthfhbddnkgfhaaaGreatDoorRows
import Derived.LaidByTextLater
import Derived.SevenTiedAt
import Derived.LaidSub
import Derived.LaidOnce
namespace Go.Proofs.YthfhbddnkgfhaaaGreatDoor
open Go
set_option maxRecDepth 100000
theorem seatTie1 : Tryz.prog.laidByTextLater [("spoondrift/pebble.asks", Rows.laid_spoondrift_pebble_asks), ("spoondrift/rev.classical", Rows.laid_spoondrift_rev_classical)] [.funcs, .funcs] true :=
  Program.laidByTextLater_by_one 46 8 2 (by kernel_rfl) (by kernel_rfl) (by kernel_rfl) (by kernel_rfl) (by kernel_rfl) (by kernel_rfl) (fun _ _ => by kernel_rfl)
theorem noOwnUnsafe : Tryz.pinned.checked.prog.headLifts.contains "ownunsafe" = false := by kernel_rfl
theorem tie : Tryz.prog.laidByTextLater [("spoondrift/pebble.asks", Rows.laid_spoondrift_pebble_asks), ("spoondrift/rev.classical", Rows.laid_spoondrift_rev_classical)] [.funcs, .funcs] true :=
  Program.laidByTextLater.sub seatTie1 ["spoondrift/pebble.asks", "spoondrift/rev.classical"] (by kernel_rfl) (by kernel_rfl)
theorem pebbleCircuits_row_tie : Rows.pebbleCircuitsRow.laidByTextAt .later Tryz.pinned [.funcs, .funcs] true :=
  OpenClaim.laidByTextAt_later rfl rfl tie noOwnUnsafe
theorem pebbleCircuitsUpto_row_tie : Rows.pebbleCircuitsUptoRow.laidByTextAt .later Tryz.pinned [.funcs, .funcs] true :=
  OpenClaim.laidByTextAt_later rfl rfl tie noOwnUnsafe
end Go.Proofs.YthfhbddnkgfhaaaGreatDoor
