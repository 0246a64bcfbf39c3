/-
  NARROWER THAN 'FOR EVERY INPUT', by the rows' own cells (each row's printed sentence says how): PebbleLeast: laid · PebbleShows: laid · PebbleGiven: laid · PebbleGraphs: laid · PebblePlays: laid · PebbleBennett: laid · PebbleBack: laid · PebbleTrade: laid · PebbleReached: laid.
  DERIVED. THE GIVEN ROWS OF THIS SEAT. 9 by the template 'for every input the law returns true; each argument reads behind the call as it read before'; 0 by the template 'total and deterministic' (their statements: YthfhbddnkgfhaaaDoorTotals.lean).
  GIVEN WITH THE SEED: the statements are not yours to turn. If you find one false, say at which input.
  Laid BY PROGRAM, IN A SANDBOX (cutbox-rows.mjs): the forced cells as the released guide's own fill.sh prints them over the translation 2360daf03c2e0209… (all of the seat's roots in one cut). By AI agents, Wed Nov 11 2026. No macro, syntax, notation, axiom, sorry.
-/
import Derived.Test.YthfhbddnkgfhaaaDoorChecked
import GoSem.Claim
import GoSem.ClaimJoined
import GoSem.ClaimMapViews
import Derived.JoinedTies
import Derived.KernelRfl
namespace Go.Proofs.YthfhbddnkgfhaaaDoor
/- THE CELL 'sum', in the pinned program and in every row, IS THE sha256 OF THE DUMP (.gsa) THAT YthfhbddnkgfhaaaDoorProg.lean LOADS. Nothing in Lean hashes anything: it is a label: what it is worth is what the hold of that sum in a sandbox is worth. -/
noncomputable def Tryd.pinned : Pinned := { name := "ythfhbddnkgfhaaadoor", sum := "2360daf03c2e02093746981d783487d0d6ae1c710d7b36266ce9bfab4a5bfc3f", checked := Tryd.checked }
namespace Rows
def none {H : Type} : Left H := { results := [], args := [] }

/- WHAT THE LISTED PACKAGE-LEVEL VARIABLES READ AS WHEN THE CALL BEGINS. Each datum BY PROGRAM (the guide's laid-datum.mjs) off the statement by which the dump's own 'gosem.cut.vars' lays the variable. In a bare row this is a premise. The card (YthfhbddnkgfhaaaDoorCards.lean) ties it to the program's text. -/
def laid_spoondrift_pebble_asks {H : Type} : DataW H := .iface "func table" (.agg [.agg [.iface "func" (.lit (.string [115, 112, 111, 111, 110, 100, 114, 105, 102, 116, 47, 112, 101, 98, 98, 108, 101, 46, 97, 115, 107, 115, 36, 49]))], .agg [.iface "func" (.lit (.string [115, 112, 111, 111, 110, 100, 114, 105, 102, 116, 47, 112, 101, 98, 98, 108, 101, 46, 97, 115, 107, 115, 36, 50]))], .agg [.iface "func" (.lit (.string [115, 112, 111, 111, 110, 100, 114, 105, 102, 116, 47, 112, 101, 98, 98, 108, 101, 46, 97, 115, 107, 115, 36, 51]))]])

/-- 'spoondriftlaw09.PebbleLeast': WHATEVER THE INPUT: true; the input reads as it did. -/
def pebbleLeastSpec : ChangeSpec := { name := "pebbleLeast", fn := fun _ => fun
  | [d1, d2, d3] => { results := [.lit (.bool true)], args := [d1, d2, d3] }
  | _ => none }
def pebbleLeastRow : OpenClaim := { program := "ythfhbddnkgfhaaadoor", sum := "2360daf03c2e02093746981d783487d0d6ae1c710d7b36266ce9bfab4a5bfc3f", func := "spoondrift/spoondriftlaw09.PebbleLeast", spec := "pebbleLeast", unfollowed := true, recurses := true, named := ["spoondrift/pebble.asks"], apart := false, laid := [("spoondrift/pebble.asks", laid_spoondrift_pebble_asks)] }
def PebbleLeastSaid : Prop := pebbleLeastRow.holds Tryd.pinned (OpenSpec.ofChange pebbleLeastSpec)

/-- ITS FALSE NEIGHBOUR: 'it returns false'. Refute it at one input. -/
def pebbleLeastWrong : ChangeSpec := { name := "pebbleLeast", fn := fun _ => fun
  | [d1, d2, d3] => { results := [.lit (.bool false)], args := [d1, d2, d3] }
  | _ => none }
def PebbleLeastWrongFalsely : Prop := pebbleLeastRow.holds Tryd.pinned (OpenSpec.ofChange pebbleLeastWrong)

/-- 'spoondriftlaw09.PebbleShows': WHATEVER THE INPUT: true; the input reads as it did. -/
def pebbleShowsSpec : ChangeSpec := { name := "pebbleShows", fn := fun _ => fun
  | [d1, d2, d3, d4] => { results := [.lit (.bool true)], args := [d1, d2, d3, d4] }
  | _ => none }
def pebbleShowsRow : OpenClaim := { program := "ythfhbddnkgfhaaadoor", sum := "2360daf03c2e02093746981d783487d0d6ae1c710d7b36266ce9bfab4a5bfc3f", func := "spoondrift/spoondriftlaw09.PebbleShows", spec := "pebbleShows", unfollowed := true, recurses := true, named := ["spoondrift/pebble.asks"], apart := false, laid := [("spoondrift/pebble.asks", laid_spoondrift_pebble_asks)] }
def PebbleShowsSaid : Prop := pebbleShowsRow.holds Tryd.pinned (OpenSpec.ofChange pebbleShowsSpec)

/-- ITS FALSE NEIGHBOUR: 'it returns false'. Refute it at one input. -/
def pebbleShowsWrong : ChangeSpec := { name := "pebbleShows", fn := fun _ => fun
  | [d1, d2, d3, d4] => { results := [.lit (.bool false)], args := [d1, d2, d3, d4] }
  | _ => none }
def PebbleShowsWrongFalsely : Prop := pebbleShowsRow.holds Tryd.pinned (OpenSpec.ofChange pebbleShowsWrong)

/-- 'spoondriftlaw09.PebbleGiven': WHATEVER THE INPUT: true; the input reads as it did. -/
def pebbleGivenSpec : ChangeSpec := { name := "pebbleGiven", fn := fun _ => fun
  | [] => { results := [.lit (.bool true)], args := [] }
  | _ => none }
def pebbleGivenRow : OpenClaim := { program := "ythfhbddnkgfhaaadoor", sum := "2360daf03c2e02093746981d783487d0d6ae1c710d7b36266ce9bfab4a5bfc3f", func := "spoondrift/spoondriftlaw09.PebbleGiven", spec := "pebbleGiven", unfollowed := true, recurses := true, named := ["spoondrift/pebble.asks"], apart := false, laid := [("spoondrift/pebble.asks", laid_spoondrift_pebble_asks)] }
def PebbleGivenSaid : Prop := pebbleGivenRow.holds Tryd.pinned (OpenSpec.ofChange pebbleGivenSpec)

/-- ITS FALSE NEIGHBOUR: 'it returns false'. Refute it at one input. -/
def pebbleGivenWrong : ChangeSpec := { name := "pebbleGiven", fn := fun _ => fun
  | [] => { results := [.lit (.bool false)], args := [] }
  | _ => none }
def PebbleGivenWrongFalsely : Prop := pebbleGivenRow.holds Tryd.pinned (OpenSpec.ofChange pebbleGivenWrong)

/-- 'spoondriftlaw09.PebbleGraphs': WHATEVER THE INPUT: true; the input reads as it did. -/
def pebbleGraphsSpec : ChangeSpec := { name := "pebbleGraphs", fn := fun _ => fun
  | [d1, d2] => { results := [.lit (.bool true)], args := [d1, d2] }
  | _ => none }
def pebbleGraphsRow : OpenClaim := { program := "ythfhbddnkgfhaaadoor", sum := "2360daf03c2e02093746981d783487d0d6ae1c710d7b36266ce9bfab4a5bfc3f", func := "spoondrift/spoondriftlaw09.PebbleGraphs", spec := "pebbleGraphs", unfollowed := true, recurses := true, named := ["spoondrift/pebble.asks"], apart := false, laid := [("spoondrift/pebble.asks", laid_spoondrift_pebble_asks)] }
def PebbleGraphsSaid : Prop := pebbleGraphsRow.holds Tryd.pinned (OpenSpec.ofChange pebbleGraphsSpec)

/-- ITS FALSE NEIGHBOUR: 'it returns false'. Refute it at one input. -/
def pebbleGraphsWrong : ChangeSpec := { name := "pebbleGraphs", fn := fun _ => fun
  | [d1, d2] => { results := [.lit (.bool false)], args := [d1, d2] }
  | _ => none }
def PebbleGraphsWrongFalsely : Prop := pebbleGraphsRow.holds Tryd.pinned (OpenSpec.ofChange pebbleGraphsWrong)

/-- 'spoondriftlaw09.PebblePlays': WHATEVER THE INPUT: true; the input reads as it did. -/
def pebblePlaysSpec : ChangeSpec := { name := "pebblePlays", fn := fun _ => fun
  | [d1, d2, d3] => { results := [.lit (.bool true)], args := [d1, d2, d3] }
  | _ => none }
def pebblePlaysRow : OpenClaim := { program := "ythfhbddnkgfhaaadoor", sum := "2360daf03c2e02093746981d783487d0d6ae1c710d7b36266ce9bfab4a5bfc3f", func := "spoondrift/spoondriftlaw09.PebblePlays", spec := "pebblePlays", unfollowed := true, recurses := true, named := ["spoondrift/pebble.asks"], apart := false, laid := [("spoondrift/pebble.asks", laid_spoondrift_pebble_asks)] }
def PebblePlaysSaid : Prop := pebblePlaysRow.holds Tryd.pinned (OpenSpec.ofChange pebblePlaysSpec)

/-- ITS FALSE NEIGHBOUR: 'it returns false'. Refute it at one input. -/
def pebblePlaysWrong : ChangeSpec := { name := "pebblePlays", fn := fun _ => fun
  | [d1, d2, d3] => { results := [.lit (.bool false)], args := [d1, d2, d3] }
  | _ => none }
def PebblePlaysWrongFalsely : Prop := pebblePlaysRow.holds Tryd.pinned (OpenSpec.ofChange pebblePlaysWrong)

/-- 'spoondriftlaw09.PebbleBennett': WHATEVER THE INPUT: true; the input reads as it did. -/
def pebbleBennettSpec : ChangeSpec := { name := "pebbleBennett", fn := fun _ => fun
  | [] => { results := [.lit (.bool true)], args := [] }
  | _ => none }
def pebbleBennettRow : OpenClaim := { program := "ythfhbddnkgfhaaadoor", sum := "2360daf03c2e02093746981d783487d0d6ae1c710d7b36266ce9bfab4a5bfc3f", func := "spoondrift/spoondriftlaw09.PebbleBennett", spec := "pebbleBennett", unfollowed := true, recurses := true, named := ["spoondrift/pebble.asks"], apart := false, laid := [("spoondrift/pebble.asks", laid_spoondrift_pebble_asks)] }
def PebbleBennettSaid : Prop := pebbleBennettRow.holds Tryd.pinned (OpenSpec.ofChange pebbleBennettSpec)

/-- ITS FALSE NEIGHBOUR: 'it returns false'. Refute it at one input. -/
def pebbleBennettWrong : ChangeSpec := { name := "pebbleBennett", fn := fun _ => fun
  | [] => { results := [.lit (.bool false)], args := [] }
  | _ => none }
def PebbleBennettWrongFalsely : Prop := pebbleBennettRow.holds Tryd.pinned (OpenSpec.ofChange pebbleBennettWrong)

/-- 'spoondriftlaw09.PebbleBack': WHATEVER THE INPUT: true; the input reads as it did. -/
def pebbleBackSpec : ChangeSpec := { name := "pebbleBack", fn := fun _ => fun
  | [d1, d2] => { results := [.lit (.bool true)], args := [d1, d2] }
  | _ => none }
def pebbleBackRow : OpenClaim := { program := "ythfhbddnkgfhaaadoor", sum := "2360daf03c2e02093746981d783487d0d6ae1c710d7b36266ce9bfab4a5bfc3f", func := "spoondrift/spoondriftlaw09.PebbleBack", spec := "pebbleBack", inPlace := ["slices.overlaps[int]"], unfollowed := true, recurses := true, named := ["spoondrift/pebble.asks"], apart := false, laid := [("spoondrift/pebble.asks", laid_spoondrift_pebble_asks)] }
def PebbleBackSaid : Prop := pebbleBackRow.holds Tryd.pinned (OpenSpec.ofChange pebbleBackSpec)

/-- ITS FALSE NEIGHBOUR: 'it returns false'. Refute it at one input. -/
def pebbleBackWrong : ChangeSpec := { name := "pebbleBack", fn := fun _ => fun
  | [d1, d2] => { results := [.lit (.bool false)], args := [d1, d2] }
  | _ => none }
def PebbleBackWrongFalsely : Prop := pebbleBackRow.holds Tryd.pinned (OpenSpec.ofChange pebbleBackWrong)

/-- 'spoondriftlaw09.PebbleTrade': WHATEVER THE INPUT: true; the input reads as it did. -/
def pebbleTradeSpec : ChangeSpec := { name := "pebbleTrade", fn := fun _ => fun
  | [d] => { results := [.lit (.bool true)], args := [d] }
  | _ => none }
def pebbleTradeRow : OpenClaim := { program := "ythfhbddnkgfhaaadoor", sum := "2360daf03c2e02093746981d783487d0d6ae1c710d7b36266ce9bfab4a5bfc3f", func := "spoondrift/spoondriftlaw09.PebbleTrade", spec := "pebbleTrade", inPlace := ["slices.overlaps[int]"], unfollowed := true, recurses := true, named := ["spoondrift/pebble.asks"], apart := false, laid := [("spoondrift/pebble.asks", laid_spoondrift_pebble_asks)] }
def PebbleTradeSaid : Prop := pebbleTradeRow.holds Tryd.pinned (OpenSpec.ofChange pebbleTradeSpec)

/-- ITS FALSE NEIGHBOUR: 'it returns false'. Refute it at one input. -/
def pebbleTradeWrong : ChangeSpec := { name := "pebbleTrade", fn := fun _ => fun
  | [d] => { results := [.lit (.bool false)], args := [d] }
  | _ => none }
def PebbleTradeWrongFalsely : Prop := pebbleTradeRow.holds Tryd.pinned (OpenSpec.ofChange pebbleTradeWrong)

/-- 'spoondriftlaw09.PebbleReached': WHATEVER THE INPUT: true; the input reads as it did. -/
def pebbleReachedSpec : ChangeSpec := { name := "pebbleReached", fn := fun _ => fun
  | [d1, d2] => { results := [.lit (.bool true)], args := [d1, d2] }
  | _ => none }
def pebbleReachedRow : OpenClaim := { program := "ythfhbddnkgfhaaadoor", sum := "2360daf03c2e02093746981d783487d0d6ae1c710d7b36266ce9bfab4a5bfc3f", func := "spoondrift/spoondriftlaw09.PebbleReached", spec := "pebbleReached", inPlace := ["slices.overlaps[int]"], unfollowed := true, recurses := true, named := ["spoondrift/pebble.asks"], apart := false, laid := [("spoondrift/pebble.asks", laid_spoondrift_pebble_asks)] }
def PebbleReachedSaid : Prop := pebbleReachedRow.holds Tryd.pinned (OpenSpec.ofChange pebbleReachedSpec)

/-- ITS FALSE NEIGHBOUR: 'it returns false'. Refute it at one input. -/
def pebbleReachedWrong : ChangeSpec := { name := "pebbleReached", fn := fun _ => fun
  | [d1, d2] => { results := [.lit (.bool false)], args := [d1, d2] }
  | _ => none }
def PebbleReachedWrongFalsely : Prop := pebbleReachedRow.holds Tryd.pinned (OpenSpec.ofChange pebbleReachedWrong)

/- THE SECOND FORM. 'bulk': how many values and letters a reading holds, each counted each time it is reached (what is shared counts as often as it is met; a slice's spare places count too). A statement '..UptoSaid' is the law's where the arguments, and the package variables that the reading takes, are together of bulk at most 1048576: NARROWER than '..Said'. Prove '..Said' where nothing that the law and all that it calls make is longer than what came in: it says more and counts as full. Else prove '..UptoSaid'. A law counts once. -/
mutual
def uptoBulk {H : Type} : DataW H → Nat
  | .lit (.string bytes) => bytes.length + 1
  | .lit _ => 1
  | .nil => 1
  | .ptr d => uptoBulk d + 1
  | .slice elems spare => uptoBulkAll elems + uptoBulkAll spare + 1
  | .agg parts => uptoBulkAll parts + 1
  | .iface _ d => uptoBulk d + 1
  | .map entries => uptoBulkEntries entries + 1
  | .held _ => 1
def uptoBulkAll {H : Type} : List (DataW H) → Nat
  | [] => 0
  | d :: r => uptoBulk d + uptoBulkAll r
def uptoBulkEntries {H : Type} : List (Lit × DataW H) → Nat
  | [] => 0
  | x :: r => uptoBulkEntry x + uptoBulkEntries r
def uptoBulkEntry {H : Type} : Lit × DataW H → Nat
  | (.string bytes, d) => bytes.length + uptoBulk d + 1
  | (_, d) => uptoBulk d + 1
 end
def uptoSmall : (H : Type) → List (DataW H) → Bool := fun _ ds => decide (uptoBulkAll ds ≤ 1048576)
def OpenSpec.upto (s : _root_.Go.ChangeSpec) : _root_.Go.OpenSpec := { _root_.Go.OpenSpec.ofChange s with cond := some uptoSmall }

/-- 'spoondriftlaw09.PebbleLeast', WHERE WHAT IT READS IS OF BULK AT MOST 1048576: true; the input reads as it did. -/
def pebbleLeastUptoRow : OpenClaim := { program := "ythfhbddnkgfhaaadoor", sum := "2360daf03c2e02093746981d783487d0d6ae1c710d7b36266ce9bfab4a5bfc3f", func := "spoondrift/spoondriftlaw09.PebbleLeast", spec := "pebbleLeast", unfollowed := true, recurses := true, named := ["spoondrift/pebble.asks"], apart := false, laid := [("spoondrift/pebble.asks", laid_spoondrift_pebble_asks)], narrowed := true }
def PebbleLeastUptoSaid : Prop := pebbleLeastUptoRow.holds Tryd.pinned (OpenSpec.upto pebbleLeastSpec)

/-- 'spoondriftlaw09.PebbleShows', WHERE WHAT IT READS IS OF BULK AT MOST 1048576: true; the input reads as it did. -/
def pebbleShowsUptoRow : OpenClaim := { program := "ythfhbddnkgfhaaadoor", sum := "2360daf03c2e02093746981d783487d0d6ae1c710d7b36266ce9bfab4a5bfc3f", func := "spoondrift/spoondriftlaw09.PebbleShows", spec := "pebbleShows", unfollowed := true, recurses := true, named := ["spoondrift/pebble.asks"], apart := false, laid := [("spoondrift/pebble.asks", laid_spoondrift_pebble_asks)], narrowed := true }
def PebbleShowsUptoSaid : Prop := pebbleShowsUptoRow.holds Tryd.pinned (OpenSpec.upto pebbleShowsSpec)

/-- 'spoondriftlaw09.PebbleGiven', WHERE WHAT IT READS IS OF BULK AT MOST 1048576: true; the input reads as it did. -/
def pebbleGivenUptoRow : OpenClaim := { program := "ythfhbddnkgfhaaadoor", sum := "2360daf03c2e02093746981d783487d0d6ae1c710d7b36266ce9bfab4a5bfc3f", func := "spoondrift/spoondriftlaw09.PebbleGiven", spec := "pebbleGiven", unfollowed := true, recurses := true, named := ["spoondrift/pebble.asks"], apart := false, laid := [("spoondrift/pebble.asks", laid_spoondrift_pebble_asks)], narrowed := true }
def PebbleGivenUptoSaid : Prop := pebbleGivenUptoRow.holds Tryd.pinned (OpenSpec.upto pebbleGivenSpec)

/-- 'spoondriftlaw09.PebbleGraphs', WHERE WHAT IT READS IS OF BULK AT MOST 1048576: true; the input reads as it did. -/
def pebbleGraphsUptoRow : OpenClaim := { program := "ythfhbddnkgfhaaadoor", sum := "2360daf03c2e02093746981d783487d0d6ae1c710d7b36266ce9bfab4a5bfc3f", func := "spoondrift/spoondriftlaw09.PebbleGraphs", spec := "pebbleGraphs", unfollowed := true, recurses := true, named := ["spoondrift/pebble.asks"], apart := false, laid := [("spoondrift/pebble.asks", laid_spoondrift_pebble_asks)], narrowed := true }
def PebbleGraphsUptoSaid : Prop := pebbleGraphsUptoRow.holds Tryd.pinned (OpenSpec.upto pebbleGraphsSpec)

/-- 'spoondriftlaw09.PebblePlays', WHERE WHAT IT READS IS OF BULK AT MOST 1048576: true; the input reads as it did. -/
def pebblePlaysUptoRow : OpenClaim := { program := "ythfhbddnkgfhaaadoor", sum := "2360daf03c2e02093746981d783487d0d6ae1c710d7b36266ce9bfab4a5bfc3f", func := "spoondrift/spoondriftlaw09.PebblePlays", spec := "pebblePlays", unfollowed := true, recurses := true, named := ["spoondrift/pebble.asks"], apart := false, laid := [("spoondrift/pebble.asks", laid_spoondrift_pebble_asks)], narrowed := true }
def PebblePlaysUptoSaid : Prop := pebblePlaysUptoRow.holds Tryd.pinned (OpenSpec.upto pebblePlaysSpec)

/-- 'spoondriftlaw09.PebbleBennett', WHERE WHAT IT READS IS OF BULK AT MOST 1048576: true; the input reads as it did. -/
def pebbleBennettUptoRow : OpenClaim := { program := "ythfhbddnkgfhaaadoor", sum := "2360daf03c2e02093746981d783487d0d6ae1c710d7b36266ce9bfab4a5bfc3f", func := "spoondrift/spoondriftlaw09.PebbleBennett", spec := "pebbleBennett", unfollowed := true, recurses := true, named := ["spoondrift/pebble.asks"], apart := false, laid := [("spoondrift/pebble.asks", laid_spoondrift_pebble_asks)], narrowed := true }
def PebbleBennettUptoSaid : Prop := pebbleBennettUptoRow.holds Tryd.pinned (OpenSpec.upto pebbleBennettSpec)

/-- 'spoondriftlaw09.PebbleBack', WHERE WHAT IT READS IS OF BULK AT MOST 1048576: true; the input reads as it did. -/
def pebbleBackUptoRow : OpenClaim := { program := "ythfhbddnkgfhaaadoor", sum := "2360daf03c2e02093746981d783487d0d6ae1c710d7b36266ce9bfab4a5bfc3f", func := "spoondrift/spoondriftlaw09.PebbleBack", spec := "pebbleBack", inPlace := ["slices.overlaps[int]"], unfollowed := true, recurses := true, named := ["spoondrift/pebble.asks"], apart := false, laid := [("spoondrift/pebble.asks", laid_spoondrift_pebble_asks)], narrowed := true }
def PebbleBackUptoSaid : Prop := pebbleBackUptoRow.holds Tryd.pinned (OpenSpec.upto pebbleBackSpec)

/-- 'spoondriftlaw09.PebbleTrade', WHERE WHAT IT READS IS OF BULK AT MOST 1048576: true; the input reads as it did. -/
def pebbleTradeUptoRow : OpenClaim := { program := "ythfhbddnkgfhaaadoor", sum := "2360daf03c2e02093746981d783487d0d6ae1c710d7b36266ce9bfab4a5bfc3f", func := "spoondrift/spoondriftlaw09.PebbleTrade", spec := "pebbleTrade", inPlace := ["slices.overlaps[int]"], unfollowed := true, recurses := true, named := ["spoondrift/pebble.asks"], apart := false, laid := [("spoondrift/pebble.asks", laid_spoondrift_pebble_asks)], narrowed := true }
def PebbleTradeUptoSaid : Prop := pebbleTradeUptoRow.holds Tryd.pinned (OpenSpec.upto pebbleTradeSpec)

/-- 'spoondriftlaw09.PebbleReached', WHERE WHAT IT READS IS OF BULK AT MOST 1048576: true; the input reads as it did. -/
def pebbleReachedUptoRow : OpenClaim := { program := "ythfhbddnkgfhaaadoor", sum := "2360daf03c2e02093746981d783487d0d6ae1c710d7b36266ce9bfab4a5bfc3f", func := "spoondrift/spoondriftlaw09.PebbleReached", spec := "pebbleReached", inPlace := ["slices.overlaps[int]"], unfollowed := true, recurses := true, named := ["spoondrift/pebble.asks"], apart := false, laid := [("spoondrift/pebble.asks", laid_spoondrift_pebble_asks)], narrowed := true }
def PebbleReachedUptoSaid : Prop := pebbleReachedUptoRow.holds Tryd.pinned (OpenSpec.upto pebbleReachedSpec)

end Rows
end Go.Proofs.YthfhbddnkgfhaaaDoor
