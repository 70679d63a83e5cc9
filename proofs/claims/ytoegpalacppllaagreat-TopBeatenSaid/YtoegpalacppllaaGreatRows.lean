/-
  No cell of these rows narrows 'for every input' (looked for: loops, veiled, ifaces, maps, wideKeys, modest, calm, conditions, laid).
  DERIVED. THE GIVEN ROWS OF THIS SEAT. 13 by the template 'for every input the law returns true; each argument reads behind the call as it read before'; 0 by the template 'total and deterministic' (their statements: YtoegpalacppllaaGreatTotals.lean).
  GIVEN WITH THE SEED: the statements are not yours to turn. If you find one false, say at which input.
  Laid BY PROGRAM, IN A SANDBOX (cutbox-rows.mjs): the forced cells as the released guide's own fill.sh prints them over the translation 58668021dfd54949… (all of the seat's roots in one cut). By AI agents, Wed Nov 11 2026. No macro, syntax, notation, axiom, sorry.
-/
import Derived.Test.YtoegpalacppllaaGreatChecked
import GoSem.Claim
import GoSem.ClaimJoined
import GoSem.ClaimMapViews
import Derived.JoinedTies
import Derived.KernelRfl
namespace Go.Proofs.YtoegpalacppllaaGreat
/- THE CELL 'sum', in the pinned program and in every row, IS THE sha256 OF THE DUMP (.gsa) THAT YtoegpalacppllaaGreatProg.lean LOADS. Nothing in Lean hashes anything: it is a label: what it is worth is what the hold of that sum in a sandbox is worth. -/
noncomputable def Tryz.pinned : Pinned := { name := "ytoegpalacppllaagreat", sum := "58668021dfd54949a08020202f9d050c8fe1c5d10f010f414f3417cc59d80795", checked := Tryz.checked }
namespace Rows
def none {H : Type} : Left H := { results := [], args := [] }

/-- 'headendtop.TopBeaten': WHATEVER THE INPUT: true; the input reads as it did. -/
def topBeatenSpec : ChangeSpec := { name := "topBeaten", fn := fun _ => fun
  | [d1, d2, d3, d4, d5, d6] => { results := [.lit (.bool true)], args := [d1, d2, d3, d4, d5, d6] }
  | _ => none }
def topBeatenRow : OpenClaim := { program := "ytoegpalacppllaagreat", sum := "58668021dfd54949a08020202f9d050c8fe1c5d10f010f414f3417cc59d80795", func := "headend/headendtop.TopBeaten", spec := "topBeaten", inPlace := ["slices.overlaps[headend/api.Subset]"], unfollowed := true, recurses := true, apart := false }
def TopBeatenSaid : Prop := topBeatenRow.holds Tryz.pinned (OpenSpec.ofChange topBeatenSpec)

/-- ITS FALSE NEIGHBOUR: 'it returns false'. Refute it at one input. -/
def topBeatenWrong : ChangeSpec := { name := "topBeaten", fn := fun _ => fun
  | [d1, d2, d3, d4, d5, d6] => { results := [.lit (.bool false)], args := [d1, d2, d3, d4, d5, d6] }
  | _ => none }
def TopBeatenWrongFalsely : Prop := topBeatenRow.holds Tryz.pinned (OpenSpec.ofChange topBeatenWrong)

/-- 'headendlaw08.TraceFinds': WHATEVER THE INPUT: true; the input reads as it did. -/
def traceFindsSpec : ChangeSpec := { name := "traceFinds", fn := fun _ => fun
  | [d1, d2, d3] => { results := [.lit (.bool true)], args := [d1, d2, d3] }
  | _ => none }
def traceFindsRow : OpenClaim := { program := "ytoegpalacppllaagreat", sum := "58668021dfd54949a08020202f9d050c8fe1c5d10f010f414f3417cc59d80795", func := "headend/headendlaw08.TraceFinds", spec := "traceFinds", inPlace := ["slices.overlaps[headend/api.Subset]"], unfollowed := true, recurses := true, apart := false }
def TraceFindsSaid : Prop := traceFindsRow.holds Tryz.pinned (OpenSpec.ofChange traceFindsSpec)

/-- ITS FALSE NEIGHBOUR: 'it returns false'. Refute it at one input. -/
def traceFindsWrong : ChangeSpec := { name := "traceFinds", fn := fun _ => fun
  | [d1, d2, d3] => { results := [.lit (.bool false)], args := [d1, d2, d3] }
  | _ => none }
def TraceFindsWrongFalsely : Prop := traceFindsRow.holds Tryz.pinned (OpenSpec.ofChange traceFindsWrong)

/-- 'headendlaw08.TraceExamples': WHATEVER THE INPUT: true; the input reads as it did. -/
def traceExamplesSpec : ChangeSpec := { name := "traceExamples", fn := fun _ => fun
  | [] => { results := [.lit (.bool true)], args := [] }
  | _ => none }
def traceExamplesRow : OpenClaim := { program := "ytoegpalacppllaagreat", sum := "58668021dfd54949a08020202f9d050c8fe1c5d10f010f414f3417cc59d80795", func := "headend/headendlaw08.TraceExamples", spec := "traceExamples", inPlace := ["slices.overlaps[headend/api.Subset]"], unfollowed := true, recurses := true, apart := false }
def TraceExamplesSaid : Prop := traceExamplesRow.holds Tryz.pinned (OpenSpec.ofChange traceExamplesSpec)

/-- ITS FALSE NEIGHBOUR: 'it returns false'. Refute it at one input. -/
def traceExamplesWrong : ChangeSpec := { name := "traceExamples", fn := fun _ => fun
  | [] => { results := [.lit (.bool false)], args := [] }
  | _ => none }
def TraceExamplesWrongFalsely : Prop := traceExamplesRow.holds Tryz.pinned (OpenSpec.ofChange traceExamplesWrong)

/-- 'headendlaw08.TraceWhole': WHATEVER THE INPUT: true; the input reads as it did. -/
def traceWholeSpec : ChangeSpec := { name := "traceWhole", fn := fun _ => fun
  | [d1, d2] => { results := [.lit (.bool true)], args := [d1, d2] }
  | _ => none }
def traceWholeRow : OpenClaim := { program := "ytoegpalacppllaagreat", sum := "58668021dfd54949a08020202f9d050c8fe1c5d10f010f414f3417cc59d80795", func := "headend/headendlaw08.TraceWhole", spec := "traceWhole", inPlace := ["slices.overlaps[headend/api.Subset]"], unfollowed := true, recurses := true, apart := false }
def TraceWholeSaid : Prop := traceWholeRow.holds Tryz.pinned (OpenSpec.ofChange traceWholeSpec)

/-- ITS FALSE NEIGHBOUR: 'it returns false'. Refute it at one input. -/
def traceWholeWrong : ChangeSpec := { name := "traceWhole", fn := fun _ => fun
  | [d1, d2] => { results := [.lit (.bool false)], args := [d1, d2] }
  | _ => none }
def TraceWholeWrongFalsely : Prop := traceWholeRow.holds Tryz.pinned (OpenSpec.ofChange traceWholeWrong)

/-- 'headendlaw08.TraceHalves': WHATEVER THE INPUT: true; the input reads as it did. -/
def traceHalvesSpec : ChangeSpec := { name := "traceHalves", fn := fun _ => fun
  | [d1, d2] => { results := [.lit (.bool true)], args := [d1, d2] }
  | _ => none }
def traceHalvesRow : OpenClaim := { program := "ytoegpalacppllaagreat", sum := "58668021dfd54949a08020202f9d050c8fe1c5d10f010f414f3417cc59d80795", func := "headend/headendlaw08.TraceHalves", spec := "traceHalves", inPlace := ["slices.overlaps[headend/api.Subset]"], unfollowed := true, recurses := true, apart := false }
def TraceHalvesSaid : Prop := traceHalvesRow.holds Tryz.pinned (OpenSpec.ofChange traceHalvesSpec)

/-- ITS FALSE NEIGHBOUR: 'it returns false'. Refute it at one input. -/
def traceHalvesWrong : ChangeSpec := { name := "traceHalves", fn := fun _ => fun
  | [d1, d2] => { results := [.lit (.bool false)], args := [d1, d2] }
  | _ => none }
def TraceHalvesWrongFalsely : Prop := traceHalvesRow.holds Tryz.pinned (OpenSpec.ofChange traceHalvesWrong)

/-- 'headendlaw08.TraceNames': WHATEVER THE INPUT: true; the input reads as it did. -/
def traceNamesSpec : ChangeSpec := { name := "traceNames", fn := fun _ => fun
  | [d1, d2, d3] => { results := [.lit (.bool true)], args := [d1, d2, d3] }
  | _ => none }
def traceNamesRow : OpenClaim := { program := "ytoegpalacppllaagreat", sum := "58668021dfd54949a08020202f9d050c8fe1c5d10f010f414f3417cc59d80795", func := "headend/headendlaw08.TraceNames", spec := "traceNames", inPlace := ["slices.overlaps[headend/api.Subset]"], unfollowed := true, recurses := true, apart := false }
def TraceNamesSaid : Prop := traceNamesRow.holds Tryz.pinned (OpenSpec.ofChange traceNamesSpec)

/-- ITS FALSE NEIGHBOUR: 'it returns false'. Refute it at one input. -/
def traceNamesWrong : ChangeSpec := { name := "traceNames", fn := fun _ => fun
  | [d1, d2, d3] => { results := [.lit (.bool false)], args := [d1, d2, d3] }
  | _ => none }
def TraceNamesWrongFalsely : Prop := traceNamesRow.holds Tryz.pinned (OpenSpec.ofChange traceNamesWrong)

/-- 'headendlaw08.TraceKnown': WHATEVER THE INPUT: true; the input reads as it did. -/
def traceKnownSpec : ChangeSpec := { name := "traceKnown", fn := fun _ => fun
  | [d1, d2] => { results := [.lit (.bool true)], args := [d1, d2] }
  | _ => none }
def traceKnownRow : OpenClaim := { program := "ytoegpalacppllaagreat", sum := "58668021dfd54949a08020202f9d050c8fe1c5d10f010f414f3417cc59d80795", func := "headend/headendlaw08.TraceKnown", spec := "traceKnown", inPlace := ["slices.overlaps[headend/api.Subset]"], unfollowed := true, recurses := true, apart := false }
def TraceKnownSaid : Prop := traceKnownRow.holds Tryz.pinned (OpenSpec.ofChange traceKnownSpec)

/-- ITS FALSE NEIGHBOUR: 'it returns false'. Refute it at one input. -/
def traceKnownWrong : ChangeSpec := { name := "traceKnown", fn := fun _ => fun
  | [d1, d2] => { results := [.lit (.bool false)], args := [d1, d2] }
  | _ => none }
def TraceKnownWrongFalsely : Prop := traceKnownRow.holds Tryz.pinned (OpenSpec.ofChange traceKnownWrong)

/-- 'headendlaw08.TraceBlind': WHATEVER THE INPUT: true; the input reads as it did. -/
def traceBlindSpec : ChangeSpec := { name := "traceBlind", fn := fun _ => fun
  | [d1, d2, d3, d4, d5] => { results := [.lit (.bool true)], args := [d1, d2, d3, d4, d5] }
  | _ => none }
def traceBlindRow : OpenClaim := { program := "ytoegpalacppllaagreat", sum := "58668021dfd54949a08020202f9d050c8fe1c5d10f010f414f3417cc59d80795", func := "headend/headendlaw08.TraceBlind", spec := "traceBlind", inPlace := ["slices.overlaps[headend/api.Subset]"], unfollowed := true, recurses := true, apart := false }
def TraceBlindSaid : Prop := traceBlindRow.holds Tryz.pinned (OpenSpec.ofChange traceBlindSpec)

/-- ITS FALSE NEIGHBOUR: 'it returns false'. Refute it at one input. -/
def traceBlindWrong : ChangeSpec := { name := "traceBlind", fn := fun _ => fun
  | [d1, d2, d3, d4, d5] => { results := [.lit (.bool false)], args := [d1, d2, d3, d4, d5] }
  | _ => none }
def TraceBlindWrongFalsely : Prop := traceBlindRow.holds Tryz.pinned (OpenSpec.ofChange traceBlindWrong)

/-- 'headendlaw08.TraceTraces': WHATEVER THE INPUT: true; the input reads as it did. -/
def traceTracesSpec : ChangeSpec := { name := "traceTraces", fn := fun _ => fun
  | [d1, d2, d3] => { results := [.lit (.bool true)], args := [d1, d2, d3] }
  | _ => none }
def traceTracesRow : OpenClaim := { program := "ytoegpalacppllaagreat", sum := "58668021dfd54949a08020202f9d050c8fe1c5d10f010f414f3417cc59d80795", func := "headend/headendlaw08.TraceTraces", spec := "traceTraces", inPlace := ["slices.overlaps[headend/api.Subset]"], unfollowed := true, recurses := true, apart := false }
def TraceTracesSaid : Prop := traceTracesRow.holds Tryz.pinned (OpenSpec.ofChange traceTracesSpec)

/-- ITS FALSE NEIGHBOUR: 'it returns false'. Refute it at one input. -/
def traceTracesWrong : ChangeSpec := { name := "traceTraces", fn := fun _ => fun
  | [d1, d2, d3] => { results := [.lit (.bool false)], args := [d1, d2, d3] }
  | _ => none }
def TraceTracesWrongFalsely : Prop := traceTracesRow.holds Tryz.pinned (OpenSpec.ofChange traceTracesWrong)

/-- 'headendlaw08.TraceAll': WHATEVER THE INPUT: true; the input reads as it did. -/
def traceAllSpec : ChangeSpec := { name := "traceAll", fn := fun _ => fun
  | [d1, d2, d3] => { results := [.lit (.bool true)], args := [d1, d2, d3] }
  | _ => none }
def traceAllRow : OpenClaim := { program := "ytoegpalacppllaagreat", sum := "58668021dfd54949a08020202f9d050c8fe1c5d10f010f414f3417cc59d80795", func := "headend/headendlaw08.TraceAll", spec := "traceAll", inPlace := ["slices.overlaps[headend/api.Subset]"], unfollowed := true, recurses := true, apart := false }
def TraceAllSaid : Prop := traceAllRow.holds Tryz.pinned (OpenSpec.ofChange traceAllSpec)

/-- ITS FALSE NEIGHBOUR: 'it returns false'. Refute it at one input. -/
def traceAllWrong : ChangeSpec := { name := "traceAll", fn := fun _ => fun
  | [d1, d2, d3] => { results := [.lit (.bool false)], args := [d1, d2, d3] }
  | _ => none }
def TraceAllWrongFalsely : Prop := traceAllRow.holds Tryz.pinned (OpenSpec.ofChange traceAllWrong)

/-- 'headendlaw08.TraceAgain': WHATEVER THE INPUT: true; the input reads as it did. -/
def traceAgainSpec : ChangeSpec := { name := "traceAgain", fn := fun _ => fun
  | [d1, d2, d3] => { results := [.lit (.bool true)], args := [d1, d2, d3] }
  | _ => none }
def traceAgainRow : OpenClaim := { program := "ytoegpalacppllaagreat", sum := "58668021dfd54949a08020202f9d050c8fe1c5d10f010f414f3417cc59d80795", func := "headend/headendlaw08.TraceAgain", spec := "traceAgain", inPlace := ["slices.overlaps[headend/api.Subset]"], unfollowed := true, recurses := true, apart := false }
def TraceAgainSaid : Prop := traceAgainRow.holds Tryz.pinned (OpenSpec.ofChange traceAgainSpec)

/-- ITS FALSE NEIGHBOUR: 'it returns false'. Refute it at one input. -/
def traceAgainWrong : ChangeSpec := { name := "traceAgain", fn := fun _ => fun
  | [d1, d2, d3] => { results := [.lit (.bool false)], args := [d1, d2, d3] }
  | _ => none }
def TraceAgainWrongFalsely : Prop := traceAgainRow.holds Tryz.pinned (OpenSpec.ofChange traceAgainWrong)

/-- 'headendlaw08.TraceQuiet': WHATEVER THE INPUT: true; the input reads as it did. -/
def traceQuietSpec : ChangeSpec := { name := "traceQuiet", fn := fun _ => fun
  | [d1, d2] => { results := [.lit (.bool true)], args := [d1, d2] }
  | _ => none }
def traceQuietRow : OpenClaim := { program := "ytoegpalacppllaagreat", sum := "58668021dfd54949a08020202f9d050c8fe1c5d10f010f414f3417cc59d80795", func := "headend/headendlaw08.TraceQuiet", spec := "traceQuiet", inPlace := ["slices.overlaps[headend/api.Subset]"], unfollowed := true, recurses := true, apart := false }
def TraceQuietSaid : Prop := traceQuietRow.holds Tryz.pinned (OpenSpec.ofChange traceQuietSpec)

/-- ITS FALSE NEIGHBOUR: 'it returns false'. Refute it at one input. -/
def traceQuietWrong : ChangeSpec := { name := "traceQuiet", fn := fun _ => fun
  | [d1, d2] => { results := [.lit (.bool false)], args := [d1, d2] }
  | _ => none }
def TraceQuietWrongFalsely : Prop := traceQuietRow.holds Tryz.pinned (OpenSpec.ofChange traceQuietWrong)

/-- 'headendlaw08.TraceHybrids': WHATEVER THE INPUT: true; the input reads as it did. -/
def traceHybridsSpec : ChangeSpec := { name := "traceHybrids", fn := fun _ => fun
  | [d1, d2, d3, d4, d5] => { results := [.lit (.bool true)], args := [d1, d2, d3, d4, d5] }
  | _ => none }
def traceHybridsRow : OpenClaim := { program := "ytoegpalacppllaagreat", sum := "58668021dfd54949a08020202f9d050c8fe1c5d10f010f414f3417cc59d80795", func := "headend/headendlaw08.TraceHybrids", spec := "traceHybrids", inPlace := ["slices.overlaps[headend/api.Subset]"], unfollowed := true, recurses := true, apart := false }
def TraceHybridsSaid : Prop := traceHybridsRow.holds Tryz.pinned (OpenSpec.ofChange traceHybridsSpec)

/-- ITS FALSE NEIGHBOUR: 'it returns false'. Refute it at one input. -/
def traceHybridsWrong : ChangeSpec := { name := "traceHybrids", fn := fun _ => fun
  | [d1, d2, d3, d4, d5] => { results := [.lit (.bool false)], args := [d1, d2, d3, d4, d5] }
  | _ => none }
def TraceHybridsWrongFalsely : Prop := traceHybridsRow.holds Tryz.pinned (OpenSpec.ofChange traceHybridsWrong)

/- THE SECOND FORM. 'bulk': how many values and letters a reading holds, each counted each time it is reached (what is shared counts as often as it is met; a slice's spare places count too). A statement '..UptoSaid' is the law's where the arguments, and the package variables that the reading takes, are together of bulk at most 1048576: NARROWER than '..Said'. Prove '..Said' where nothing that the law and all that it calls make is longer than what came in: it says more and counts as full. Else prove '..UptoSaid'. A law counts once. -/
mutual
def uptoBulk {H : Type} : DataW H → Nat
  | .lit (.string bytes) => bytes.length + 1
  | .lit _ => 1
  | .nil => 1
  | .ptr d => uptoBulk d + 1
  | .slice elems spare => uptoBulkAll elems + uptoBulkAll spare + 1
  | .agg parts => uptoBulkAll parts + 1
  | .iface _ d => uptoBulk d + 1
  | .map entries => uptoBulkEntries entries + 1
  | .held _ => 1
def uptoBulkAll {H : Type} : List (DataW H) → Nat
  | [] => 0
  | d :: r => uptoBulk d + uptoBulkAll r
def uptoBulkEntries {H : Type} : List (Lit × DataW H) → Nat
  | [] => 0
  | x :: r => uptoBulkEntry x + uptoBulkEntries r
def uptoBulkEntry {H : Type} : Lit × DataW H → Nat
  | (.string bytes, d) => bytes.length + uptoBulk d + 1
  | (_, d) => uptoBulk d + 1
 end
def uptoSmall : (H : Type) → List (DataW H) → Bool := fun _ ds => decide (uptoBulkAll ds ≤ 1048576)
def OpenSpec.upto (s : _root_.Go.ChangeSpec) : _root_.Go.OpenSpec := { _root_.Go.OpenSpec.ofChange s with cond := some uptoSmall }

/-- 'headendtop.TopBeaten', WHERE WHAT IT READS IS OF BULK AT MOST 1048576: true; the input reads as it did. -/
def topBeatenUptoRow : OpenClaim := { program := "ytoegpalacppllaagreat", sum := "58668021dfd54949a08020202f9d050c8fe1c5d10f010f414f3417cc59d80795", func := "headend/headendtop.TopBeaten", spec := "topBeaten", inPlace := ["slices.overlaps[headend/api.Subset]"], unfollowed := true, recurses := true, apart := false, narrowed := true }
def TopBeatenUptoSaid : Prop := topBeatenUptoRow.holds Tryz.pinned (OpenSpec.upto topBeatenSpec)

/-- 'headendlaw08.TraceFinds', WHERE WHAT IT READS IS OF BULK AT MOST 1048576: true; the input reads as it did. -/
def traceFindsUptoRow : OpenClaim := { program := "ytoegpalacppllaagreat", sum := "58668021dfd54949a08020202f9d050c8fe1c5d10f010f414f3417cc59d80795", func := "headend/headendlaw08.TraceFinds", spec := "traceFinds", inPlace := ["slices.overlaps[headend/api.Subset]"], unfollowed := true, recurses := true, apart := false, narrowed := true }
def TraceFindsUptoSaid : Prop := traceFindsUptoRow.holds Tryz.pinned (OpenSpec.upto traceFindsSpec)

/-- 'headendlaw08.TraceExamples', WHERE WHAT IT READS IS OF BULK AT MOST 1048576: true; the input reads as it did. -/
def traceExamplesUptoRow : OpenClaim := { program := "ytoegpalacppllaagreat", sum := "58668021dfd54949a08020202f9d050c8fe1c5d10f010f414f3417cc59d80795", func := "headend/headendlaw08.TraceExamples", spec := "traceExamples", inPlace := ["slices.overlaps[headend/api.Subset]"], unfollowed := true, recurses := true, apart := false, narrowed := true }
def TraceExamplesUptoSaid : Prop := traceExamplesUptoRow.holds Tryz.pinned (OpenSpec.upto traceExamplesSpec)

/-- 'headendlaw08.TraceWhole', WHERE WHAT IT READS IS OF BULK AT MOST 1048576: true; the input reads as it did. -/
def traceWholeUptoRow : OpenClaim := { program := "ytoegpalacppllaagreat", sum := "58668021dfd54949a08020202f9d050c8fe1c5d10f010f414f3417cc59d80795", func := "headend/headendlaw08.TraceWhole", spec := "traceWhole", inPlace := ["slices.overlaps[headend/api.Subset]"], unfollowed := true, recurses := true, apart := false, narrowed := true }
def TraceWholeUptoSaid : Prop := traceWholeUptoRow.holds Tryz.pinned (OpenSpec.upto traceWholeSpec)

/-- 'headendlaw08.TraceHalves', WHERE WHAT IT READS IS OF BULK AT MOST 1048576: true; the input reads as it did. -/
def traceHalvesUptoRow : OpenClaim := { program := "ytoegpalacppllaagreat", sum := "58668021dfd54949a08020202f9d050c8fe1c5d10f010f414f3417cc59d80795", func := "headend/headendlaw08.TraceHalves", spec := "traceHalves", inPlace := ["slices.overlaps[headend/api.Subset]"], unfollowed := true, recurses := true, apart := false, narrowed := true }
def TraceHalvesUptoSaid : Prop := traceHalvesUptoRow.holds Tryz.pinned (OpenSpec.upto traceHalvesSpec)

/-- 'headendlaw08.TraceNames', WHERE WHAT IT READS IS OF BULK AT MOST 1048576: true; the input reads as it did. -/
def traceNamesUptoRow : OpenClaim := { program := "ytoegpalacppllaagreat", sum := "58668021dfd54949a08020202f9d050c8fe1c5d10f010f414f3417cc59d80795", func := "headend/headendlaw08.TraceNames", spec := "traceNames", inPlace := ["slices.overlaps[headend/api.Subset]"], unfollowed := true, recurses := true, apart := false, narrowed := true }
def TraceNamesUptoSaid : Prop := traceNamesUptoRow.holds Tryz.pinned (OpenSpec.upto traceNamesSpec)

/-- 'headendlaw08.TraceKnown', WHERE WHAT IT READS IS OF BULK AT MOST 1048576: true; the input reads as it did. -/
def traceKnownUptoRow : OpenClaim := { program := "ytoegpalacppllaagreat", sum := "58668021dfd54949a08020202f9d050c8fe1c5d10f010f414f3417cc59d80795", func := "headend/headendlaw08.TraceKnown", spec := "traceKnown", inPlace := ["slices.overlaps[headend/api.Subset]"], unfollowed := true, recurses := true, apart := false, narrowed := true }
def TraceKnownUptoSaid : Prop := traceKnownUptoRow.holds Tryz.pinned (OpenSpec.upto traceKnownSpec)

/-- 'headendlaw08.TraceBlind', WHERE WHAT IT READS IS OF BULK AT MOST 1048576: true; the input reads as it did. -/
def traceBlindUptoRow : OpenClaim := { program := "ytoegpalacppllaagreat", sum := "58668021dfd54949a08020202f9d050c8fe1c5d10f010f414f3417cc59d80795", func := "headend/headendlaw08.TraceBlind", spec := "traceBlind", inPlace := ["slices.overlaps[headend/api.Subset]"], unfollowed := true, recurses := true, apart := false, narrowed := true }
def TraceBlindUptoSaid : Prop := traceBlindUptoRow.holds Tryz.pinned (OpenSpec.upto traceBlindSpec)

/-- 'headendlaw08.TraceTraces', WHERE WHAT IT READS IS OF BULK AT MOST 1048576: true; the input reads as it did. -/
def traceTracesUptoRow : OpenClaim := { program := "ytoegpalacppllaagreat", sum := "58668021dfd54949a08020202f9d050c8fe1c5d10f010f414f3417cc59d80795", func := "headend/headendlaw08.TraceTraces", spec := "traceTraces", inPlace := ["slices.overlaps[headend/api.Subset]"], unfollowed := true, recurses := true, apart := false, narrowed := true }
def TraceTracesUptoSaid : Prop := traceTracesUptoRow.holds Tryz.pinned (OpenSpec.upto traceTracesSpec)

/-- 'headendlaw08.TraceAll', WHERE WHAT IT READS IS OF BULK AT MOST 1048576: true; the input reads as it did. -/
def traceAllUptoRow : OpenClaim := { program := "ytoegpalacppllaagreat", sum := "58668021dfd54949a08020202f9d050c8fe1c5d10f010f414f3417cc59d80795", func := "headend/headendlaw08.TraceAll", spec := "traceAll", inPlace := ["slices.overlaps[headend/api.Subset]"], unfollowed := true, recurses := true, apart := false, narrowed := true }
def TraceAllUptoSaid : Prop := traceAllUptoRow.holds Tryz.pinned (OpenSpec.upto traceAllSpec)

/-- 'headendlaw08.TraceAgain', WHERE WHAT IT READS IS OF BULK AT MOST 1048576: true; the input reads as it did. -/
def traceAgainUptoRow : OpenClaim := { program := "ytoegpalacppllaagreat", sum := "58668021dfd54949a08020202f9d050c8fe1c5d10f010f414f3417cc59d80795", func := "headend/headendlaw08.TraceAgain", spec := "traceAgain", inPlace := ["slices.overlaps[headend/api.Subset]"], unfollowed := true, recurses := true, apart := false, narrowed := true }
def TraceAgainUptoSaid : Prop := traceAgainUptoRow.holds Tryz.pinned (OpenSpec.upto traceAgainSpec)

/-- 'headendlaw08.TraceQuiet', WHERE WHAT IT READS IS OF BULK AT MOST 1048576: true; the input reads as it did. -/
def traceQuietUptoRow : OpenClaim := { program := "ytoegpalacppllaagreat", sum := "58668021dfd54949a08020202f9d050c8fe1c5d10f010f414f3417cc59d80795", func := "headend/headendlaw08.TraceQuiet", spec := "traceQuiet", inPlace := ["slices.overlaps[headend/api.Subset]"], unfollowed := true, recurses := true, apart := false, narrowed := true }
def TraceQuietUptoSaid : Prop := traceQuietUptoRow.holds Tryz.pinned (OpenSpec.upto traceQuietSpec)

/-- 'headendlaw08.TraceHybrids', WHERE WHAT IT READS IS OF BULK AT MOST 1048576: true; the input reads as it did. -/
def traceHybridsUptoRow : OpenClaim := { program := "ytoegpalacppllaagreat", sum := "58668021dfd54949a08020202f9d050c8fe1c5d10f010f414f3417cc59d80795", func := "headend/headendlaw08.TraceHybrids", spec := "traceHybrids", inPlace := ["slices.overlaps[headend/api.Subset]"], unfollowed := true, recurses := true, apart := false, narrowed := true }
def TraceHybridsUptoSaid : Prop := traceHybridsUptoRow.holds Tryz.pinned (OpenSpec.upto traceHybridsSpec)

end Rows
end Go.Proofs.YtoegpalacppllaaGreat
