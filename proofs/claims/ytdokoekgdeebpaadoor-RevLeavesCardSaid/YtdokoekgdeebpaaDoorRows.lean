/-
  NARROWER THAN 'FOR EVERY INPUT', by the rows' own cells (each row's printed sentence says how): RevPermutes: laid · RevShortest: laid · RevCounts: laid · RevDoes: laid · RevLeaves: laid · RevExpresses: loops, laid · RevValues: laid · RevFew: laid · RevMakes: laid.
  DERIVED. THE GIVEN ROWS OF THIS SEAT. 9 by the template 'for every input the law returns true; each argument reads behind the call as it read before'; 0 by the template 'total and deterministic' (their statements: YtdokoekgdeebpaaDoorTotals.lean).
  GIVEN WITH THE SEED: the statements are not yours to turn. If you find one false, say at which input.
  Laid BY PROGRAM, IN A SANDBOX (cutbox-rows.mjs): the forced cells as the released guide's own fill.sh prints them over the translation a4c157ed59af0210… (all of the seat's roots in one cut). By AI agents, Wed Nov 11 2026. No macro, syntax, notation, axiom, sorry.
-/
import Derived.Test.YtdokoekgdeebpaaDoorChecked
import GoSem.Claim
import GoSem.ClaimJoined
import GoSem.ClaimMapViews
import Derived.JoinedTies
import Derived.KernelRfl
namespace Go.Proofs.YtdokoekgdeebpaaDoor
/- THE CELL 'sum', in the pinned program and in every row, IS THE sha256 OF THE DUMP (.gsa) THAT YtdokoekgdeebpaaDoorProg.lean LOADS. Nothing in Lean hashes anything: it is a label: what it is worth is what the hold of that sum in a sandbox is worth. -/
noncomputable def Tryd.pinned : Pinned := { name := "ytdokoekgdeebpaadoor", sum := "a4c157ed59af02100b634ff567ae47b96b312dd6f45a92bc32997f3d4ad149c1", checked := Tryd.checked }
namespace Rows
def none {H : Type} : Left H := { results := [], args := [] }

/- WHAT THE LISTED PACKAGE-LEVEL VARIABLES READ AS WHEN THE CALL BEGINS. Each datum BY PROGRAM (the guide's laid-datum.mjs) off the statement by which the dump's own 'gosem.cut.vars' lays the variable. In a bare row this is a premise. The card (YtdokoekgdeebpaaDoorCards.lean) ties it to the program's text. -/
def laid_spoondrift_rev_classical {H : Type} : DataW H := .iface "func table" (.map [(.int .i64 1, .agg [.lit (.int .i64 0), .iface "func" (.lit (.string [115, 112, 111, 111, 110, 100, 114, 105, 102, 116, 47, 114, 101, 118, 46, 116, 117, 114, 110, 101, 100]))]), (.int .i64 9, .agg [.lit (.int .i64 1), .iface "func" (.lit (.string [115, 112, 111, 111, 110, 100, 114, 105, 102, 116, 47, 114, 101, 118, 46, 116, 117, 114, 110, 101, 100]))]), (.int .i64 11, .agg [.lit (.int .i64 0), .iface "func" (.lit (.string [115, 112, 111, 111, 110, 100, 114, 105, 102, 116, 47, 114, 101, 118, 46, 115, 119, 97, 112, 112, 101, 100]))]), (.int .i64 12, .agg [.lit (.int .i64 2), .iface "func" (.lit (.string [115, 112, 111, 111, 110, 100, 114, 105, 102, 116, 47, 114, 101, 118, 46, 116, 117, 114, 110, 101, 100]))])])
def laid_spoondrift_rev_wants {H : Type} : DataW H := .agg [.lit (.int .i64 0), .lit (.int .i64 0), .lit (.int .i64 1), .lit (.int .i64 2), .lit (.int .i64 2), .lit (.int .i64 2), .lit (.int .i64 0), .lit (.int .i64 0)]

/-- 'spoondriftlaw08.RevPermutes': WHATEVER THE INPUT: true; the input reads as it did. -/
def revPermutesSpec : ChangeSpec := { name := "revPermutes", fn := fun _ => fun
  | [d] => { results := [.lit (.bool true)], args := [d] }
  | _ => none }
def revPermutesRow : OpenClaim := { program := "ytdokoekgdeebpaadoor", sum := "a4c157ed59af02100b634ff567ae47b96b312dd6f45a92bc32997f3d4ad149c1", func := "spoondrift/spoondriftlaw08.RevPermutes", spec := "revPermutes", unfollowed := true, recurses := true, named := ["spoondrift/rev.classical", "spoondrift/rev.wants"], plainKeys := false, apart := false, laid := [("spoondrift/rev.classical", laid_spoondrift_rev_classical), ("spoondrift/rev.wants", laid_spoondrift_rev_wants)] }
def RevPermutesSaid : Prop := revPermutesRow.holds Tryd.pinned (OpenSpec.ofChange revPermutesSpec)

/-- ITS FALSE NEIGHBOUR: 'it returns false'. Refute it at one input. -/
def revPermutesWrong : ChangeSpec := { name := "revPermutes", fn := fun _ => fun
  | [d] => { results := [.lit (.bool false)], args := [d] }
  | _ => none }
def RevPermutesWrongFalsely : Prop := revPermutesRow.holds Tryd.pinned (OpenSpec.ofChange revPermutesWrong)

/-- 'spoondriftlaw08.RevShortest': WHATEVER THE INPUT: true; the input reads as it did. -/
def revShortestSpec : ChangeSpec := { name := "revShortest", fn := fun _ => fun
  | [d1, d2] => { results := [.lit (.bool true)], args := [d1, d2] }
  | _ => none }
def revShortestRow : OpenClaim := { program := "ytdokoekgdeebpaadoor", sum := "a4c157ed59af02100b634ff567ae47b96b312dd6f45a92bc32997f3d4ad149c1", func := "spoondrift/spoondriftlaw08.RevShortest", spec := "revShortest", unfollowed := true, recurses := true, named := ["spoondrift/rev.classical", "spoondrift/rev.wants"], plainKeys := false, apart := false, laid := [("spoondrift/rev.classical", laid_spoondrift_rev_classical), ("spoondrift/rev.wants", laid_spoondrift_rev_wants)] }
def RevShortestSaid : Prop := revShortestRow.holds Tryd.pinned (OpenSpec.ofChange revShortestSpec)

/-- ITS FALSE NEIGHBOUR: 'it returns false'. Refute it at one input. -/
def revShortestWrong : ChangeSpec := { name := "revShortest", fn := fun _ => fun
  | [d1, d2] => { results := [.lit (.bool false)], args := [d1, d2] }
  | _ => none }
def RevShortestWrongFalsely : Prop := revShortestRow.holds Tryd.pinned (OpenSpec.ofChange revShortestWrong)

/-- 'spoondriftlaw08.RevCounts': WHATEVER THE INPUT: true; the input reads as it did. -/
def revCountsSpec : ChangeSpec := { name := "revCounts", fn := fun _ => fun
  | [] => { results := [.lit (.bool true)], args := [] }
  | _ => none }
def revCountsRow : OpenClaim := { program := "ytdokoekgdeebpaadoor", sum := "a4c157ed59af02100b634ff567ae47b96b312dd6f45a92bc32997f3d4ad149c1", func := "spoondrift/spoondriftlaw08.RevCounts", spec := "revCounts", unfollowed := true, recurses := true, named := ["spoondrift/rev.classical", "spoondrift/rev.wants"], plainKeys := false, apart := false, laid := [("spoondrift/rev.classical", laid_spoondrift_rev_classical), ("spoondrift/rev.wants", laid_spoondrift_rev_wants)] }
def RevCountsSaid : Prop := revCountsRow.holds Tryd.pinned (OpenSpec.ofChange revCountsSpec)

/-- ITS FALSE NEIGHBOUR: 'it returns false'. Refute it at one input. -/
def revCountsWrong : ChangeSpec := { name := "revCounts", fn := fun _ => fun
  | [] => { results := [.lit (.bool false)], args := [] }
  | _ => none }
def RevCountsWrongFalsely : Prop := revCountsRow.holds Tryd.pinned (OpenSpec.ofChange revCountsWrong)

/-- 'spoondriftlaw08.RevDoes': WHATEVER THE INPUT: true; the input reads as it did. -/
def revDoesSpec : ChangeSpec := { name := "revDoes", fn := fun _ => fun
  | [d1, d2, d3] => { results := [.lit (.bool true)], args := [d1, d2, d3] }
  | _ => none }
def revDoesRow : OpenClaim := { program := "ytdokoekgdeebpaadoor", sum := "a4c157ed59af02100b634ff567ae47b96b312dd6f45a92bc32997f3d4ad149c1", func := "spoondrift/spoondriftlaw08.RevDoes", spec := "revDoes", unfollowed := true, recurses := true, named := ["spoondrift/rev.classical", "spoondrift/rev.wants"], plainKeys := false, apart := false, laid := [("spoondrift/rev.classical", laid_spoondrift_rev_classical), ("spoondrift/rev.wants", laid_spoondrift_rev_wants)] }
def RevDoesSaid : Prop := revDoesRow.holds Tryd.pinned (OpenSpec.ofChange revDoesSpec)

/-- ITS FALSE NEIGHBOUR: 'it returns false'. Refute it at one input. -/
def revDoesWrong : ChangeSpec := { name := "revDoes", fn := fun _ => fun
  | [d1, d2, d3] => { results := [.lit (.bool false)], args := [d1, d2, d3] }
  | _ => none }
def RevDoesWrongFalsely : Prop := revDoesRow.holds Tryd.pinned (OpenSpec.ofChange revDoesWrong)

/-- 'spoondriftlaw08.RevLeaves': WHATEVER THE INPUT: true; the input reads as it did. -/
def revLeavesSpec : ChangeSpec := { name := "revLeaves", fn := fun _ => fun
  | [d1, d2] => { results := [.lit (.bool true)], args := [d1, d2] }
  | _ => none }
def revLeavesRow : OpenClaim := { program := "ytdokoekgdeebpaadoor", sum := "a4c157ed59af02100b634ff567ae47b96b312dd6f45a92bc32997f3d4ad149c1", func := "spoondrift/spoondriftlaw08.RevLeaves", spec := "revLeaves", unfollowed := true, recurses := true, named := ["spoondrift/rev.classical", "spoondrift/rev.wants"], plainKeys := false, apart := false, laid := [("spoondrift/rev.classical", laid_spoondrift_rev_classical), ("spoondrift/rev.wants", laid_spoondrift_rev_wants)] }
def RevLeavesSaid : Prop := revLeavesRow.holds Tryd.pinned (OpenSpec.ofChange revLeavesSpec)

/-- ITS FALSE NEIGHBOUR: 'it returns false'. Refute it at one input. -/
def revLeavesWrong : ChangeSpec := { name := "revLeaves", fn := fun _ => fun
  | [d1, d2] => { results := [.lit (.bool false)], args := [d1, d2] }
  | _ => none }
def RevLeavesWrongFalsely : Prop := revLeavesRow.holds Tryd.pinned (OpenSpec.ofChange revLeavesWrong)

/-- 'spoondriftlaw08.RevExpresses': WHATEVER THE INPUT: true; the input reads as it did. -/
def revExpressesSpec : ChangeSpec := { name := "revExpresses", fn := fun _ => fun
  | [d1, d2, d3] => { results := [.lit (.bool true)], args := [d1, d2, d3] }
  | _ => none }
def revExpressesRow : OpenClaim := { program := "ytdokoekgdeebpaadoor", sum := "a4c157ed59af02100b634ff567ae47b96b312dd6f45a92bc32997f3d4ad149c1", func := "spoondrift/spoondriftlaw08.RevExpresses", spec := "revExpresses", unfollowed := true, recurses := true, named := ["spoondrift/rev.classical", "spoondrift/rev.wants"], loops := true, plainKeys := false, apart := false, laid := [("spoondrift/rev.classical", laid_spoondrift_rev_classical), ("spoondrift/rev.wants", laid_spoondrift_rev_wants)] }
def RevExpressesSaid : Prop := revExpressesRow.holds Tryd.pinned (OpenSpec.ofChange revExpressesSpec)

/-- ITS FALSE NEIGHBOUR: 'it returns false'. Refute it at one input. -/
def revExpressesWrong : ChangeSpec := { name := "revExpresses", fn := fun _ => fun
  | [d1, d2, d3] => { results := [.lit (.bool false)], args := [d1, d2, d3] }
  | _ => none }
def RevExpressesWrongFalsely : Prop := revExpressesRow.holds Tryd.pinned (OpenSpec.ofChange revExpressesWrong)

/-- 'spoondriftlaw08.RevValues': WHATEVER THE INPUT: true; the input reads as it did. -/
def revValuesSpec : ChangeSpec := { name := "revValues", fn := fun _ => fun
  | [d1, d2] => { results := [.lit (.bool true)], args := [d1, d2] }
  | _ => none }
def revValuesRow : OpenClaim := { program := "ytdokoekgdeebpaadoor", sum := "a4c157ed59af02100b634ff567ae47b96b312dd6f45a92bc32997f3d4ad149c1", func := "spoondrift/spoondriftlaw08.RevValues", spec := "revValues", unfollowed := true, recurses := true, named := ["spoondrift/rev.wants", "spoondrift/rev.classical"], plainKeys := false, apart := false, laid := [("spoondrift/rev.classical", laid_spoondrift_rev_classical), ("spoondrift/rev.wants", laid_spoondrift_rev_wants)] }
def RevValuesSaid : Prop := revValuesRow.holds Tryd.pinned (OpenSpec.ofChange revValuesSpec)

/-- ITS FALSE NEIGHBOUR: 'it returns false'. Refute it at one input. -/
def revValuesWrong : ChangeSpec := { name := "revValues", fn := fun _ => fun
  | [d1, d2] => { results := [.lit (.bool false)], args := [d1, d2] }
  | _ => none }
def RevValuesWrongFalsely : Prop := revValuesRow.holds Tryd.pinned (OpenSpec.ofChange revValuesWrong)

/-- 'spoondriftlaw08.RevFew': WHATEVER THE INPUT: true; the input reads as it did. -/
def revFewSpec : ChangeSpec := { name := "revFew", fn := fun _ => fun
  | [d1, d2, d3] => { results := [.lit (.bool true)], args := [d1, d2, d3] }
  | _ => none }
def revFewRow : OpenClaim := { program := "ytdokoekgdeebpaadoor", sum := "a4c157ed59af02100b634ff567ae47b96b312dd6f45a92bc32997f3d4ad149c1", func := "spoondrift/spoondriftlaw08.RevFew", spec := "revFew", inPlace := ["slices.overlaps[int]"], unfollowed := true, recurses := true, named := ["spoondrift/rev.classical", "spoondrift/rev.wants"], plainKeys := false, apart := false, laid := [("spoondrift/rev.classical", laid_spoondrift_rev_classical), ("spoondrift/rev.wants", laid_spoondrift_rev_wants)] }
def RevFewSaid : Prop := revFewRow.holds Tryd.pinned (OpenSpec.ofChange revFewSpec)

/-- ITS FALSE NEIGHBOUR: 'it returns false'. Refute it at one input. -/
def revFewWrong : ChangeSpec := { name := "revFew", fn := fun _ => fun
  | [d1, d2, d3] => { results := [.lit (.bool false)], args := [d1, d2, d3] }
  | _ => none }
def RevFewWrongFalsely : Prop := revFewRow.holds Tryd.pinned (OpenSpec.ofChange revFewWrong)

/-- 'spoondriftlaw08.RevMakes': WHATEVER THE INPUT: true; the input reads as it did. -/
def revMakesSpec : ChangeSpec := { name := "revMakes", fn := fun _ => fun
  | [d] => { results := [.lit (.bool true)], args := [d] }
  | _ => none }
def revMakesRow : OpenClaim := { program := "ytdokoekgdeebpaadoor", sum := "a4c157ed59af02100b634ff567ae47b96b312dd6f45a92bc32997f3d4ad149c1", func := "spoondrift/spoondriftlaw08.RevMakes", spec := "revMakes", inPlace := ["slices.overlaps[int]"], unfollowed := true, recurses := true, named := ["spoondrift/rev.classical", "spoondrift/rev.wants"], plainKeys := false, apart := false, laid := [("spoondrift/rev.classical", laid_spoondrift_rev_classical), ("spoondrift/rev.wants", laid_spoondrift_rev_wants)] }
def RevMakesSaid : Prop := revMakesRow.holds Tryd.pinned (OpenSpec.ofChange revMakesSpec)

/-- ITS FALSE NEIGHBOUR: 'it returns false'. Refute it at one input. -/
def revMakesWrong : ChangeSpec := { name := "revMakes", fn := fun _ => fun
  | [d] => { results := [.lit (.bool false)], args := [d] }
  | _ => none }
def RevMakesWrongFalsely : Prop := revMakesRow.holds Tryd.pinned (OpenSpec.ofChange revMakesWrong)

/- THE SECOND FORM. 'bulk': how many values and letters a reading holds, each counted each time it is reached (what is shared counts as often as it is met; a slice's spare places count too). A statement '..UptoSaid' is the law's where the arguments, and the package variables that the reading takes, are together of bulk at most 1048576: NARROWER than '..Said'. Prove '..Said' where nothing that the law and all that it calls make is longer than what came in: it says more and counts as full. Else prove '..UptoSaid'. A law counts once. -/
mutual
def uptoBulk {H : Type} : DataW H → Nat
  | .lit (.string bytes) => bytes.length + 1
  | .lit _ => 1
  | .nil => 1
  | .ptr d => uptoBulk d + 1
  | .slice elems spare => uptoBulkAll elems + uptoBulkAll spare + 1
  | .agg parts => uptoBulkAll parts + 1
  | .iface _ d => uptoBulk d + 1
  | .map entries => uptoBulkEntries entries + 1
  | .held _ => 1
def uptoBulkAll {H : Type} : List (DataW H) → Nat
  | [] => 0
  | d :: r => uptoBulk d + uptoBulkAll r
def uptoBulkEntries {H : Type} : List (Lit × DataW H) → Nat
  | [] => 0
  | x :: r => uptoBulkEntry x + uptoBulkEntries r
def uptoBulkEntry {H : Type} : Lit × DataW H → Nat
  | (.string bytes, d) => bytes.length + uptoBulk d + 1
  | (_, d) => uptoBulk d + 1
 end
def uptoSmall : (H : Type) → List (DataW H) → Bool := fun _ ds => decide (uptoBulkAll ds ≤ 1048576)
def OpenSpec.upto (s : _root_.Go.ChangeSpec) : _root_.Go.OpenSpec := { _root_.Go.OpenSpec.ofChange s with cond := some uptoSmall }

/-- 'spoondriftlaw08.RevPermutes', WHERE WHAT IT READS IS OF BULK AT MOST 1048576: true; the input reads as it did. -/
def revPermutesUptoRow : OpenClaim := { program := "ytdokoekgdeebpaadoor", sum := "a4c157ed59af02100b634ff567ae47b96b312dd6f45a92bc32997f3d4ad149c1", func := "spoondrift/spoondriftlaw08.RevPermutes", spec := "revPermutes", unfollowed := true, recurses := true, named := ["spoondrift/rev.classical", "spoondrift/rev.wants"], plainKeys := false, apart := false, laid := [("spoondrift/rev.classical", laid_spoondrift_rev_classical), ("spoondrift/rev.wants", laid_spoondrift_rev_wants)], narrowed := true }
def RevPermutesUptoSaid : Prop := revPermutesUptoRow.holds Tryd.pinned (OpenSpec.upto revPermutesSpec)

/-- 'spoondriftlaw08.RevShortest', WHERE WHAT IT READS IS OF BULK AT MOST 1048576: true; the input reads as it did. -/
def revShortestUptoRow : OpenClaim := { program := "ytdokoekgdeebpaadoor", sum := "a4c157ed59af02100b634ff567ae47b96b312dd6f45a92bc32997f3d4ad149c1", func := "spoondrift/spoondriftlaw08.RevShortest", spec := "revShortest", unfollowed := true, recurses := true, named := ["spoondrift/rev.classical", "spoondrift/rev.wants"], plainKeys := false, apart := false, laid := [("spoondrift/rev.classical", laid_spoondrift_rev_classical), ("spoondrift/rev.wants", laid_spoondrift_rev_wants)], narrowed := true }
def RevShortestUptoSaid : Prop := revShortestUptoRow.holds Tryd.pinned (OpenSpec.upto revShortestSpec)

/-- 'spoondriftlaw08.RevCounts', WHERE WHAT IT READS IS OF BULK AT MOST 1048576: true; the input reads as it did. -/
def revCountsUptoRow : OpenClaim := { program := "ytdokoekgdeebpaadoor", sum := "a4c157ed59af02100b634ff567ae47b96b312dd6f45a92bc32997f3d4ad149c1", func := "spoondrift/spoondriftlaw08.RevCounts", spec := "revCounts", unfollowed := true, recurses := true, named := ["spoondrift/rev.classical", "spoondrift/rev.wants"], plainKeys := false, apart := false, laid := [("spoondrift/rev.classical", laid_spoondrift_rev_classical), ("spoondrift/rev.wants", laid_spoondrift_rev_wants)], narrowed := true }
def RevCountsUptoSaid : Prop := revCountsUptoRow.holds Tryd.pinned (OpenSpec.upto revCountsSpec)

/-- 'spoondriftlaw08.RevDoes', WHERE WHAT IT READS IS OF BULK AT MOST 1048576: true; the input reads as it did. -/
def revDoesUptoRow : OpenClaim := { program := "ytdokoekgdeebpaadoor", sum := "a4c157ed59af02100b634ff567ae47b96b312dd6f45a92bc32997f3d4ad149c1", func := "spoondrift/spoondriftlaw08.RevDoes", spec := "revDoes", unfollowed := true, recurses := true, named := ["spoondrift/rev.classical", "spoondrift/rev.wants"], plainKeys := false, apart := false, laid := [("spoondrift/rev.classical", laid_spoondrift_rev_classical), ("spoondrift/rev.wants", laid_spoondrift_rev_wants)], narrowed := true }
def RevDoesUptoSaid : Prop := revDoesUptoRow.holds Tryd.pinned (OpenSpec.upto revDoesSpec)

/-- 'spoondriftlaw08.RevLeaves', WHERE WHAT IT READS IS OF BULK AT MOST 1048576: true; the input reads as it did. -/
def revLeavesUptoRow : OpenClaim := { program := "ytdokoekgdeebpaadoor", sum := "a4c157ed59af02100b634ff567ae47b96b312dd6f45a92bc32997f3d4ad149c1", func := "spoondrift/spoondriftlaw08.RevLeaves", spec := "revLeaves", unfollowed := true, recurses := true, named := ["spoondrift/rev.classical", "spoondrift/rev.wants"], plainKeys := false, apart := false, laid := [("spoondrift/rev.classical", laid_spoondrift_rev_classical), ("spoondrift/rev.wants", laid_spoondrift_rev_wants)], narrowed := true }
def RevLeavesUptoSaid : Prop := revLeavesUptoRow.holds Tryd.pinned (OpenSpec.upto revLeavesSpec)

/-- 'spoondriftlaw08.RevExpresses', WHERE WHAT IT READS IS OF BULK AT MOST 1048576: true; the input reads as it did. -/
def revExpressesUptoRow : OpenClaim := { program := "ytdokoekgdeebpaadoor", sum := "a4c157ed59af02100b634ff567ae47b96b312dd6f45a92bc32997f3d4ad149c1", func := "spoondrift/spoondriftlaw08.RevExpresses", spec := "revExpresses", unfollowed := true, recurses := true, named := ["spoondrift/rev.classical", "spoondrift/rev.wants"], loops := true, plainKeys := false, apart := false, laid := [("spoondrift/rev.classical", laid_spoondrift_rev_classical), ("spoondrift/rev.wants", laid_spoondrift_rev_wants)], narrowed := true }
def RevExpressesUptoSaid : Prop := revExpressesUptoRow.holds Tryd.pinned (OpenSpec.upto revExpressesSpec)

/-- 'spoondriftlaw08.RevValues', WHERE WHAT IT READS IS OF BULK AT MOST 1048576: true; the input reads as it did. -/
def revValuesUptoRow : OpenClaim := { program := "ytdokoekgdeebpaadoor", sum := "a4c157ed59af02100b634ff567ae47b96b312dd6f45a92bc32997f3d4ad149c1", func := "spoondrift/spoondriftlaw08.RevValues", spec := "revValues", unfollowed := true, recurses := true, named := ["spoondrift/rev.wants", "spoondrift/rev.classical"], plainKeys := false, apart := false, laid := [("spoondrift/rev.classical", laid_spoondrift_rev_classical), ("spoondrift/rev.wants", laid_spoondrift_rev_wants)], narrowed := true }
def RevValuesUptoSaid : Prop := revValuesUptoRow.holds Tryd.pinned (OpenSpec.upto revValuesSpec)

/-- 'spoondriftlaw08.RevFew', WHERE WHAT IT READS IS OF BULK AT MOST 1048576: true; the input reads as it did. -/
def revFewUptoRow : OpenClaim := { program := "ytdokoekgdeebpaadoor", sum := "a4c157ed59af02100b634ff567ae47b96b312dd6f45a92bc32997f3d4ad149c1", func := "spoondrift/spoondriftlaw08.RevFew", spec := "revFew", inPlace := ["slices.overlaps[int]"], unfollowed := true, recurses := true, named := ["spoondrift/rev.classical", "spoondrift/rev.wants"], plainKeys := false, apart := false, laid := [("spoondrift/rev.classical", laid_spoondrift_rev_classical), ("spoondrift/rev.wants", laid_spoondrift_rev_wants)], narrowed := true }
def RevFewUptoSaid : Prop := revFewUptoRow.holds Tryd.pinned (OpenSpec.upto revFewSpec)

/-- 'spoondriftlaw08.RevMakes', WHERE WHAT IT READS IS OF BULK AT MOST 1048576: true; the input reads as it did. -/
def revMakesUptoRow : OpenClaim := { program := "ytdokoekgdeebpaadoor", sum := "a4c157ed59af02100b634ff567ae47b96b312dd6f45a92bc32997f3d4ad149c1", func := "spoondrift/spoondriftlaw08.RevMakes", spec := "revMakes", inPlace := ["slices.overlaps[int]"], unfollowed := true, recurses := true, named := ["spoondrift/rev.classical", "spoondrift/rev.wants"], plainKeys := false, apart := false, laid := [("spoondrift/rev.classical", laid_spoondrift_rev_classical), ("spoondrift/rev.wants", laid_spoondrift_rev_wants)], narrowed := true }
def RevMakesUptoSaid : Prop := revMakesUptoRow.holds Tryd.pinned (OpenSpec.upto revMakesSpec)

end Rows
end Go.Proofs.YtdokoekgdeebpaaDoor
