/-
  NARROWER THAN 'FOR EVERY INPUT', by the rows' own cells (each row's printed sentence says how): PebbleCircuits: laid.
  DERIVED. THE GIVEN ROWS OF THIS SEAT. 1 by the template 'for every input the law returns true; each argument reads behind the call as it read before'; 0 by the template 'total and deterministic' (their statements: YthfhbddnkgfhaaaGreatDoorTotals.lean).
  GIVEN WITH THE SEED: the statements are not yours to turn. If you find one false, say at which input.
  Laid BY PROGRAM, IN A SANDBOX (cutbox-rows.mjs): the forced cells as the released guide's own fill.sh prints them over the translation 3d71772f5012d4e4… (all of the seat's roots in one cut). By AI agents, Wed Nov 11 2026. No macro, syntax, notation, axiom, sorry.
-/
import Derived.Test.YthfhbddnkgfhaaaGreatDoorChecked
import GoSem.Claim
import GoSem.ClaimJoined
import GoSem.ClaimMapViews
import Derived.JoinedTies
import Derived.KernelRfl
namespace Go.Proofs.YthfhbddnkgfhaaaGreatDoor
/- THE CELL 'sum', in the pinned program and in every row, IS THE sha256 OF THE DUMP (.gsa) THAT YthfhbddnkgfhaaaGreatDoorProg.lean LOADS. Nothing in Lean hashes anything: it is a label: what it is worth is what the hold of that sum in a sandbox is worth. -/
noncomputable def Tryz.pinned : Pinned := { name := "ythfhbddnkgfhaaagreatdoor", sum := "3d71772f5012d4e47926a85f56f5a804c4a2e1353c7ffccd9662b8d14c8a0bbc", checked := Tryz.checked }
namespace Rows
def none {H : Type} : Left H := { results := [], args := [] }

/- WHAT THE LISTED PACKAGE-LEVEL VARIABLES READ AS WHEN THE CALL BEGINS. Each datum BY PROGRAM (the guide's laid-datum.mjs) off the statement by which the dump's own 'gosem.cut.vars' lays the variable. In a bare row this is a premise. The card (YthfhbddnkgfhaaaGreatDoorCards.lean) ties it to the program's text. -/
def laid_spoondrift_pebble_asks {H : Type} : DataW H := .iface "func table" (.agg [.agg [.iface "func" (.lit (.string [115, 112, 111, 111, 110, 100, 114, 105, 102, 116, 47, 112, 101, 98, 98, 108, 101, 46, 97, 115, 107, 115, 36, 49]))], .agg [.iface "func" (.lit (.string [115, 112, 111, 111, 110, 100, 114, 105, 102, 116, 47, 112, 101, 98, 98, 108, 101, 46, 97, 115, 107, 115, 36, 50]))], .agg [.iface "func" (.lit (.string [115, 112, 111, 111, 110, 100, 114, 105, 102, 116, 47, 112, 101, 98, 98, 108, 101, 46, 97, 115, 107, 115, 36, 51]))]])
def laid_spoondrift_rev_classical {H : Type} : DataW H := .iface "func table" (.map [(.int .i64 1, .agg [.lit (.int .i64 0), .iface "func" (.lit (.string [115, 112, 111, 111, 110, 100, 114, 105, 102, 116, 47, 114, 101, 118, 46, 116, 117, 114, 110, 101, 100]))]), (.int .i64 9, .agg [.lit (.int .i64 1), .iface "func" (.lit (.string [115, 112, 111, 111, 110, 100, 114, 105, 102, 116, 47, 114, 101, 118, 46, 116, 117, 114, 110, 101, 100]))]), (.int .i64 11, .agg [.lit (.int .i64 0), .iface "func" (.lit (.string [115, 112, 111, 111, 110, 100, 114, 105, 102, 116, 47, 114, 101, 118, 46, 115, 119, 97, 112, 112, 101, 100]))]), (.int .i64 12, .agg [.lit (.int .i64 2), .iface "func" (.lit (.string [115, 112, 111, 111, 110, 100, 114, 105, 102, 116, 47, 114, 101, 118, 46, 116, 117, 114, 110, 101, 100]))])])

/-- 'spoondriftlaw09.PebbleCircuits': WHATEVER THE INPUT: true; the input reads as it did. -/
def pebbleCircuitsSpec : ChangeSpec := { name := "pebbleCircuits", fn := fun _ => fun
  | [d1, d2, d3] => { results := [.lit (.bool true)], args := [d1, d2, d3] }
  | _ => none }
def pebbleCircuitsRow : OpenClaim := { program := "ythfhbddnkgfhaaagreatdoor", sum := "3d71772f5012d4e47926a85f56f5a804c4a2e1353c7ffccd9662b8d14c8a0bbc", func := "spoondrift/spoondriftlaw09.PebbleCircuits", spec := "pebbleCircuits", inPlace := ["slices.overlaps[int]"], unfollowed := true, recurses := true, named := ["spoondrift/rev.classical", "spoondrift/pebble.asks"], apart := false, laid := [("spoondrift/pebble.asks", laid_spoondrift_pebble_asks), ("spoondrift/rev.classical", laid_spoondrift_rev_classical)] }
def PebbleCircuitsSaid : Prop := pebbleCircuitsRow.holds Tryz.pinned (OpenSpec.ofChange pebbleCircuitsSpec)

/-- ITS FALSE NEIGHBOUR: 'it returns false'. Refute it at one input. -/
def pebbleCircuitsWrong : ChangeSpec := { name := "pebbleCircuits", fn := fun _ => fun
  | [d1, d2, d3] => { results := [.lit (.bool false)], args := [d1, d2, d3] }
  | _ => none }
def PebbleCircuitsWrongFalsely : Prop := pebbleCircuitsRow.holds Tryz.pinned (OpenSpec.ofChange pebbleCircuitsWrong)

/- THE SECOND FORM. 'bulk': how many values and letters a reading holds, each counted each time it is reached (what is shared counts as often as it is met; a slice's spare places count too). A statement '..UptoSaid' is the law's where the arguments, and the package variables that the reading takes, are together of bulk at most 1048576: NARROWER than '..Said'. Prove '..Said' where nothing that the law and all that it calls make is longer than what came in: it says more and counts as full. Else prove '..UptoSaid'. A law counts once. -/
mutual
def uptoBulk {H : Type} : DataW H → Nat
  | .lit (.string bytes) => bytes.length + 1
  | .lit _ => 1
  | .nil => 1
  | .ptr d => uptoBulk d + 1
  | .slice elems spare => uptoBulkAll elems + uptoBulkAll spare + 1
  | .agg parts => uptoBulkAll parts + 1
  | .iface _ d => uptoBulk d + 1
  | .map entries => uptoBulkEntries entries + 1
  | .held _ => 1
def uptoBulkAll {H : Type} : List (DataW H) → Nat
  | [] => 0
  | d :: r => uptoBulk d + uptoBulkAll r
def uptoBulkEntries {H : Type} : List (Lit × DataW H) → Nat
  | [] => 0
  | x :: r => uptoBulkEntry x + uptoBulkEntries r
def uptoBulkEntry {H : Type} : Lit × DataW H → Nat
  | (.string bytes, d) => bytes.length + uptoBulk d + 1
  | (_, d) => uptoBulk d + 1
 end
def uptoSmall : (H : Type) → List (DataW H) → Bool := fun _ ds => decide (uptoBulkAll ds ≤ 1048576)
def OpenSpec.upto (s : _root_.Go.ChangeSpec) : _root_.Go.OpenSpec := { _root_.Go.OpenSpec.ofChange s with cond := some uptoSmall }

/-- 'spoondriftlaw09.PebbleCircuits', WHERE WHAT IT READS IS OF BULK AT MOST 1048576: true; the input reads as it did. -/
def pebbleCircuitsUptoRow : OpenClaim := { program := "ythfhbddnkgfhaaagreatdoor", sum := "3d71772f5012d4e47926a85f56f5a804c4a2e1353c7ffccd9662b8d14c8a0bbc", func := "spoondrift/spoondriftlaw09.PebbleCircuits", spec := "pebbleCircuits", inPlace := ["slices.overlaps[int]"], unfollowed := true, recurses := true, named := ["spoondrift/rev.classical", "spoondrift/pebble.asks"], apart := false, laid := [("spoondrift/pebble.asks", laid_spoondrift_pebble_asks), ("spoondrift/rev.classical", laid_spoondrift_rev_classical)], narrowed := true }
def PebbleCircuitsUptoSaid : Prop := pebbleCircuitsUptoRow.holds Tryz.pinned (OpenSpec.upto pebbleCircuitsSpec)

end Rows
end Go.Proofs.YthfhbddnkgfhaaaGreatDoor
