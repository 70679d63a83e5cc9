/-
  No cell of these rows narrows 'for every input' (looked for: loops, veiled, ifaces, maps, wideKeys, modest, calm, conditions, laid).
  DERIVED. THE GIVEN ROWS OF THIS SEAT. 16 by the template 'for every input the law returns true; each argument reads behind the call as it read before'; 0 by the template 'total and deterministic' (their statements: YtlabfinhdidmaaaTotals.lean).
  GIVEN WITH THE SEED: the statements are not yours to turn. If you find one false, say at which input.
  Laid BY PROGRAM, IN A SANDBOX (cutbox-rows.mjs): the forced cells as the released guide's own fill.sh prints them over the translation 2aa85adc53c49b23… (all of the seat's roots in one cut). By AI agents, Wed Nov 11 2026. No macro, syntax, notation, axiom, sorry.
-/
import Derived.Test.YtlabfinhdidmaaaChecked
import GoSem.Claim
import GoSem.ClaimJoined
import GoSem.ClaimMapViews
import Derived.JoinedTies
import Derived.KernelRfl
namespace Go.Proofs.Ytlabfinhdidmaaa
/- THE CELL 'sum', in the pinned program and in every row, IS THE sha256 OF THE DUMP (.gsa) THAT YtlabfinhdidmaaaProg.lean LOADS. Nothing in Lean hashes anything: it is a label: what it is worth is what the hold of that sum in a sandbox is worth. -/
noncomputable def Try.pinned : Pinned := { name := "ytlabfinhdidmaaa", sum := "2aa85adc53c49b23c12c08be5826ec299fa8394e6b1b517a21ffd6bcb3bf5839", checked := Try.checked }
namespace Rows
def none {H : Type} : Left H := { results := [], args := [] }

/-- 'headendlaw02.CipherTexts': WHATEVER THE INPUT: true; the input reads as it did. -/
def cipherTextsSpec : ChangeSpec := { name := "cipherTexts", fn := fun _ => fun
  | [d1, d2] => { results := [.lit (.bool true)], args := [d1, d2] }
  | _ => none }
def cipherTextsRow : OpenClaim := { program := "ytlabfinhdidmaaa", sum := "2aa85adc53c49b23c12c08be5826ec299fa8394e6b1b517a21ffd6bcb3bf5839", func := "headend/headendlaw02.CipherTexts", spec := "cipherTexts", inPlace := ["internal/bytealg.IndexByteString"], apart := false }
def CipherTextsSaid : Prop := cipherTextsRow.holds Try.pinned (OpenSpec.ofChange cipherTextsSpec)

/-- ITS FALSE NEIGHBOUR: 'it returns false'. Refute it at one input. -/
def cipherTextsWrong : ChangeSpec := { name := "cipherTexts", fn := fun _ => fun
  | [d1, d2] => { results := [.lit (.bool false)], args := [d1, d2] }
  | _ => none }
def CipherTextsWrongFalsely : Prop := cipherTextsRow.holds Try.pinned (OpenSpec.ofChange cipherTextsWrong)

/-- 'headendlaw02.CipherDerives': WHATEVER THE INPUT: true; the input reads as it did. -/
def cipherDerivesSpec : ChangeSpec := { name := "cipherDerives", fn := fun _ => fun
  | [d1, d2, d3, d4] => { results := [.lit (.bool true)], args := [d1, d2, d3, d4] }
  | _ => none }
def cipherDerivesRow : OpenClaim := { program := "ytlabfinhdidmaaa", sum := "2aa85adc53c49b23c12c08be5826ec299fa8394e6b1b517a21ffd6bcb3bf5839", func := "headend/headendlaw02.CipherDerives", spec := "cipherDerives", unfollowed := true, recurses := true, apart := false }
def CipherDerivesSaid : Prop := cipherDerivesRow.holds Try.pinned (OpenSpec.ofChange cipherDerivesSpec)

/-- ITS FALSE NEIGHBOUR: 'it returns false'. Refute it at one input. -/
def cipherDerivesWrong : ChangeSpec := { name := "cipherDerives", fn := fun _ => fun
  | [d1, d2, d3, d4] => { results := [.lit (.bool false)], args := [d1, d2, d3, d4] }
  | _ => none }
def CipherDerivesWrongFalsely : Prop := cipherDerivesRow.holds Try.pinned (OpenSpec.ofChange cipherDerivesWrong)

/-- 'headendlaw02.CipherBlocks': WHATEVER THE INPUT: true; the input reads as it did. -/
def cipherBlocksSpec : ChangeSpec := { name := "cipherBlocks", fn := fun _ => fun
  | [d1, d2] => { results := [.lit (.bool true)], args := [d1, d2] }
  | _ => none }
def cipherBlocksRow : OpenClaim := { program := "ytlabfinhdidmaaa", sum := "2aa85adc53c49b23c12c08be5826ec299fa8394e6b1b517a21ffd6bcb3bf5839", func := "headend/headendlaw02.CipherBlocks", spec := "cipherBlocks", unfollowed := true, recurses := true, apart := false }
def CipherBlocksSaid : Prop := cipherBlocksRow.holds Try.pinned (OpenSpec.ofChange cipherBlocksSpec)

/-- ITS FALSE NEIGHBOUR: 'it returns false'. Refute it at one input. -/
def cipherBlocksWrong : ChangeSpec := { name := "cipherBlocks", fn := fun _ => fun
  | [d1, d2] => { results := [.lit (.bool false)], args := [d1, d2] }
  | _ => none }
def CipherBlocksWrongFalsely : Prop := cipherBlocksRow.holds Try.pinned (OpenSpec.ofChange cipherBlocksWrong)

/-- 'headendlaw02.CipherStreams': WHATEVER THE INPUT: true; the input reads as it did. -/
def cipherStreamsSpec : ChangeSpec := { name := "cipherStreams", fn := fun _ => fun
  | [d1, d2, d3] => { results := [.lit (.bool true)], args := [d1, d2, d3] }
  | _ => none }
def cipherStreamsRow : OpenClaim := { program := "ytlabfinhdidmaaa", sum := "2aa85adc53c49b23c12c08be5826ec299fa8394e6b1b517a21ffd6bcb3bf5839", func := "headend/headendlaw02.CipherStreams", spec := "cipherStreams", unfollowed := true, recurses := true, apart := false }
def CipherStreamsSaid : Prop := cipherStreamsRow.holds Try.pinned (OpenSpec.ofChange cipherStreamsSpec)

/-- ITS FALSE NEIGHBOUR: 'it returns false'. Refute it at one input. -/
def cipherStreamsWrong : ChangeSpec := { name := "cipherStreams", fn := fun _ => fun
  | [d1, d2, d3] => { results := [.lit (.bool false)], args := [d1, d2, d3] }
  | _ => none }
def CipherStreamsWrongFalsely : Prop := cipherStreamsRow.holds Try.pinned (OpenSpec.ofChange cipherStreamsWrong)

/-- 'headendlaw02.CipherMacs': WHATEVER THE INPUT: true; the input reads as it did. -/
def cipherMacsSpec : ChangeSpec := { name := "cipherMacs", fn := fun _ => fun
  | [d1, d2] => { results := [.lit (.bool true)], args := [d1, d2] }
  | _ => none }
def cipherMacsRow : OpenClaim := { program := "ytlabfinhdidmaaa", sum := "2aa85adc53c49b23c12c08be5826ec299fa8394e6b1b517a21ffd6bcb3bf5839", func := "headend/headendlaw02.CipherMacs", spec := "cipherMacs", unfollowed := true, recurses := true, apart := false }
def CipherMacsSaid : Prop := cipherMacsRow.holds Try.pinned (OpenSpec.ofChange cipherMacsSpec)

/-- ITS FALSE NEIGHBOUR: 'it returns false'. Refute it at one input. -/
def cipherMacsWrong : ChangeSpec := { name := "cipherMacs", fn := fun _ => fun
  | [d1, d2] => { results := [.lit (.bool false)], args := [d1, d2] }
  | _ => none }
def CipherMacsWrongFalsely : Prop := cipherMacsRow.holds Try.pinned (OpenSpec.ofChange cipherMacsWrong)

/-- 'headendlaw02.CipherHashes': WHATEVER THE INPUT: true; the input reads as it did. -/
def cipherHashesSpec : ChangeSpec := { name := "cipherHashes", fn := fun _ => fun
  | [d] => { results := [.lit (.bool true)], args := [d] }
  | _ => none }
def cipherHashesRow : OpenClaim := { program := "ytlabfinhdidmaaa", sum := "2aa85adc53c49b23c12c08be5826ec299fa8394e6b1b517a21ffd6bcb3bf5839", func := "headend/headendlaw02.CipherHashes", spec := "cipherHashes", unfollowed := true, recurses := true, apart := false }
def CipherHashesSaid : Prop := cipherHashesRow.holds Try.pinned (OpenSpec.ofChange cipherHashesSpec)

/-- ITS FALSE NEIGHBOUR: 'it returns false'. Refute it at one input. -/
def cipherHashesWrong : ChangeSpec := { name := "cipherHashes", fn := fun _ => fun
  | [d] => { results := [.lit (.bool false)], args := [d] }
  | _ => none }
def CipherHashesWrongFalsely : Prop := cipherHashesRow.holds Try.pinned (OpenSpec.ofChange cipherHashesWrong)

/-- 'headendlaw02.CipherInverse': WHATEVER THE INPUT: true; the input reads as it did. -/
def cipherInverseSpec : ChangeSpec := { name := "cipherInverse", fn := fun _ => fun
  | [d1, d2, d3] => { results := [.lit (.bool true)], args := [d1, d2, d3] }
  | _ => none }
def cipherInverseRow : OpenClaim := { program := "ytlabfinhdidmaaa", sum := "2aa85adc53c49b23c12c08be5826ec299fa8394e6b1b517a21ffd6bcb3bf5839", func := "headend/headendlaw02.CipherInverse", spec := "cipherInverse", inPlace := ["internal/bytealg.IndexByteString"], unfollowed := true, recurses := true, apart := false }
def CipherInverseSaid : Prop := cipherInverseRow.holds Try.pinned (OpenSpec.ofChange cipherInverseSpec)

/-- ITS FALSE NEIGHBOUR: 'it returns false'. Refute it at one input. -/
def cipherInverseWrong : ChangeSpec := { name := "cipherInverse", fn := fun _ => fun
  | [d1, d2, d3] => { results := [.lit (.bool false)], args := [d1, d2, d3] }
  | _ => none }
def CipherInverseWrongFalsely : Prop := cipherInverseRow.holds Try.pinned (OpenSpec.ofChange cipherInverseWrong)

/-- 'headendlaw02.CipherApart': WHATEVER THE INPUT: true; the input reads as it did. -/
def cipherApartSpec : ChangeSpec := { name := "cipherApart", fn := fun _ => fun
  | [d1, d2, d3, d4, d5] => { results := [.lit (.bool true)], args := [d1, d2, d3, d4, d5] }
  | _ => none }
def cipherApartRow : OpenClaim := { program := "ytlabfinhdidmaaa", sum := "2aa85adc53c49b23c12c08be5826ec299fa8394e6b1b517a21ffd6bcb3bf5839", func := "headend/headendlaw02.CipherApart", spec := "cipherApart", inPlace := ["internal/bytealg.IndexByteString"], unfollowed := true, recurses := true, apart := false }
def CipherApartSaid : Prop := cipherApartRow.holds Try.pinned (OpenSpec.ofChange cipherApartSpec)

/-- ITS FALSE NEIGHBOUR: 'it returns false'. Refute it at one input. -/
def cipherApartWrong : ChangeSpec := { name := "cipherApart", fn := fun _ => fun
  | [d1, d2, d3, d4, d5] => { results := [.lit (.bool false)], args := [d1, d2, d3, d4, d5] }
  | _ => none }
def CipherApartWrongFalsely : Prop := cipherApartRow.holds Try.pinned (OpenSpec.ofChange cipherApartWrong)

/-- 'headendlaw02.CipherChain': WHATEVER THE INPUT: true; the input reads as it did. -/
def cipherChainSpec : ChangeSpec := { name := "cipherChain", fn := fun _ => fun
  | [d1, d2] => { results := [.lit (.bool true)], args := [d1, d2] }
  | _ => none }
def cipherChainRow : OpenClaim := { program := "ytlabfinhdidmaaa", sum := "2aa85adc53c49b23c12c08be5826ec299fa8394e6b1b517a21ffd6bcb3bf5839", func := "headend/headendlaw02.CipherChain", spec := "cipherChain", inPlace := ["internal/bytealg.IndexByteString"], unfollowed := true, recurses := true, apart := false }
def CipherChainSaid : Prop := cipherChainRow.holds Try.pinned (OpenSpec.ofChange cipherChainSpec)

/-- ITS FALSE NEIGHBOUR: 'it returns false'. Refute it at one input. -/
def cipherChainWrong : ChangeSpec := { name := "cipherChain", fn := fun _ => fun
  | [d1, d2] => { results := [.lit (.bool false)], args := [d1, d2] }
  | _ => none }
def CipherChainWrongFalsely : Prop := cipherChainRow.holds Try.pinned (OpenSpec.ofChange cipherChainWrong)

/-- 'headendlaw02.CipherPortion': WHATEVER THE INPUT: true; the input reads as it did. -/
def cipherPortionSpec : ChangeSpec := { name := "cipherPortion", fn := fun _ => fun
  | [d1, d2, d3, d4] => { results := [.lit (.bool true)], args := [d1, d2, d3, d4] }
  | _ => none }
def cipherPortionRow : OpenClaim := { program := "ytlabfinhdidmaaa", sum := "2aa85adc53c49b23c12c08be5826ec299fa8394e6b1b517a21ffd6bcb3bf5839", func := "headend/headendlaw02.CipherPortion", spec := "cipherPortion", inPlace := ["internal/bytealg.IndexByteString"], unfollowed := true, recurses := true, apart := false }
def CipherPortionSaid : Prop := cipherPortionRow.holds Try.pinned (OpenSpec.ofChange cipherPortionSpec)

/-- ITS FALSE NEIGHBOUR: 'it returns false'. Refute it at one input. -/
def cipherPortionWrong : ChangeSpec := { name := "cipherPortion", fn := fun _ => fun
  | [d1, d2, d3, d4] => { results := [.lit (.bool false)], args := [d1, d2, d3, d4] }
  | _ => none }
def CipherPortionWrongFalsely : Prop := cipherPortionRow.holds Try.pinned (OpenSpec.ofChange cipherPortionWrong)

/-- 'headendlaw02.CipherTextBack': WHATEVER THE INPUT: true; the input reads as it did. -/
def cipherTextBackSpec : ChangeSpec := { name := "cipherTextBack", fn := fun _ => fun
  | [d1, d2] => { results := [.lit (.bool true)], args := [d1, d2] }
  | _ => none }
def cipherTextBackRow : OpenClaim := { program := "ytlabfinhdidmaaa", sum := "2aa85adc53c49b23c12c08be5826ec299fa8394e6b1b517a21ffd6bcb3bf5839", func := "headend/headendlaw02.CipherTextBack", spec := "cipherTextBack", inPlace := ["internal/bytealg.IndexByteString"], unfollowed := true, recurses := true, apart := false }
def CipherTextBackSaid : Prop := cipherTextBackRow.holds Try.pinned (OpenSpec.ofChange cipherTextBackSpec)

/-- ITS FALSE NEIGHBOUR: 'it returns false'. Refute it at one input. -/
def cipherTextBackWrong : ChangeSpec := { name := "cipherTextBack", fn := fun _ => fun
  | [d1, d2] => { results := [.lit (.bool false)], args := [d1, d2] }
  | _ => none }
def CipherTextBackWrongFalsely : Prop := cipherTextBackRow.holds Try.pinned (OpenSpec.ofChange cipherTextBackWrong)

/-- 'headendlaw02.CipherBelow': WHATEVER THE INPUT: true; the input reads as it did. -/
def cipherBelowSpec : ChangeSpec := { name := "cipherBelow", fn := fun _ => fun
  | [d1, d2, d3] => { results := [.lit (.bool true)], args := [d1, d2, d3] }
  | _ => none }
def cipherBelowRow : OpenClaim := { program := "ytlabfinhdidmaaa", sum := "2aa85adc53c49b23c12c08be5826ec299fa8394e6b1b517a21ffd6bcb3bf5839", func := "headend/headendlaw02.CipherBelow", spec := "cipherBelow", inPlace := ["internal/bytealg.IndexByteString"], unfollowed := true, recurses := true, apart := false }
def CipherBelowSaid : Prop := cipherBelowRow.holds Try.pinned (OpenSpec.ofChange cipherBelowSpec)

/-- ITS FALSE NEIGHBOUR: 'it returns false'. Refute it at one input. -/
def cipherBelowWrong : ChangeSpec := { name := "cipherBelow", fn := fun _ => fun
  | [d1, d2, d3] => { results := [.lit (.bool false)], args := [d1, d2, d3] }
  | _ => none }
def CipherBelowWrongFalsely : Prop := cipherBelowRow.holds Try.pinned (OpenSpec.ofChange cipherBelowWrong)

/-- 'headendlaw02.CipherTwice': WHATEVER THE INPUT: true; the input reads as it did. -/
def cipherTwiceSpec : ChangeSpec := { name := "cipherTwice", fn := fun _ => fun
  | [d1, d2, d3, d4] => { results := [.lit (.bool true)], args := [d1, d2, d3, d4] }
  | _ => none }
def cipherTwiceRow : OpenClaim := { program := "ytlabfinhdidmaaa", sum := "2aa85adc53c49b23c12c08be5826ec299fa8394e6b1b517a21ffd6bcb3bf5839", func := "headend/headendlaw02.CipherTwice", spec := "cipherTwice", inPlace := ["internal/bytealg.IndexByteString"], unfollowed := true, recurses := true, apart := false }
def CipherTwiceSaid : Prop := cipherTwiceRow.holds Try.pinned (OpenSpec.ofChange cipherTwiceSpec)

/-- ITS FALSE NEIGHBOUR: 'it returns false'. Refute it at one input. -/
def cipherTwiceWrong : ChangeSpec := { name := "cipherTwice", fn := fun _ => fun
  | [d1, d2, d3, d4] => { results := [.lit (.bool false)], args := [d1, d2, d3, d4] }
  | _ => none }
def CipherTwiceWrongFalsely : Prop := cipherTwiceRow.holds Try.pinned (OpenSpec.ofChange cipherTwiceWrong)

/-- 'headendlaw02.CipherMask': WHATEVER THE INPUT: true; the input reads as it did. -/
def cipherMaskSpec : ChangeSpec := { name := "cipherMask", fn := fun _ => fun
  | [d1, d2, d3, d4, d5] => { results := [.lit (.bool true)], args := [d1, d2, d3, d4, d5] }
  | _ => none }
def cipherMaskRow : OpenClaim := { program := "ytlabfinhdidmaaa", sum := "2aa85adc53c49b23c12c08be5826ec299fa8394e6b1b517a21ffd6bcb3bf5839", func := "headend/headendlaw02.CipherMask", spec := "cipherMask", inPlace := ["internal/bytealg.IndexByteString"], unfollowed := true, recurses := true, apart := false }
def CipherMaskSaid : Prop := cipherMaskRow.holds Try.pinned (OpenSpec.ofChange cipherMaskSpec)

/-- ITS FALSE NEIGHBOUR: 'it returns false'. Refute it at one input. -/
def cipherMaskWrong : ChangeSpec := { name := "cipherMask", fn := fun _ => fun
  | [d1, d2, d3, d4, d5] => { results := [.lit (.bool false)], args := [d1, d2, d3, d4, d5] }
  | _ => none }
def CipherMaskWrongFalsely : Prop := cipherMaskRow.holds Try.pinned (OpenSpec.ofChange cipherMaskWrong)

/-- 'headendlaw02.CipherDigest': WHATEVER THE INPUT: true; the input reads as it did. -/
def cipherDigestSpec : ChangeSpec := { name := "cipherDigest", fn := fun _ => fun
  | [d] => { results := [.lit (.bool true)], args := [d] }
  | _ => none }
def cipherDigestRow : OpenClaim := { program := "ytlabfinhdidmaaa", sum := "2aa85adc53c49b23c12c08be5826ec299fa8394e6b1b517a21ffd6bcb3bf5839", func := "headend/headendlaw02.CipherDigest", spec := "cipherDigest", inPlace := ["internal/bytealg.IndexByteString"], unfollowed := true, recurses := true, apart := false }
def CipherDigestSaid : Prop := cipherDigestRow.holds Try.pinned (OpenSpec.ofChange cipherDigestSpec)

/-- ITS FALSE NEIGHBOUR: 'it returns false'. Refute it at one input. -/
def cipherDigestWrong : ChangeSpec := { name := "cipherDigest", fn := fun _ => fun
  | [d] => { results := [.lit (.bool false)], args := [d] }
  | _ => none }
def CipherDigestWrongFalsely : Prop := cipherDigestRow.holds Try.pinned (OpenSpec.ofChange cipherDigestWrong)

/-- 'headendlaw02.CipherExamples': WHATEVER THE INPUT: true; the input reads as it did. -/
def cipherExamplesSpec : ChangeSpec := { name := "cipherExamples", fn := fun _ => fun
  | [] => { results := [.lit (.bool true)], args := [] }
  | _ => none }
def cipherExamplesRow : OpenClaim := { program := "ytlabfinhdidmaaa", sum := "2aa85adc53c49b23c12c08be5826ec299fa8394e6b1b517a21ffd6bcb3bf5839", func := "headend/headendlaw02.CipherExamples", spec := "cipherExamples", inPlace := ["internal/bytealg.IndexByteString"], unfollowed := true, recurses := true, apart := false }
def CipherExamplesSaid : Prop := cipherExamplesRow.holds Try.pinned (OpenSpec.ofChange cipherExamplesSpec)

/-- ITS FALSE NEIGHBOUR: 'it returns false'. Refute it at one input. -/
def cipherExamplesWrong : ChangeSpec := { name := "cipherExamples", fn := fun _ => fun
  | [] => { results := [.lit (.bool false)], args := [] }
  | _ => none }
def CipherExamplesWrongFalsely : Prop := cipherExamplesRow.holds Try.pinned (OpenSpec.ofChange cipherExamplesWrong)

/- THE SECOND FORM. 'bulk': how many values and letters a reading holds, each counted each time it is reached (what is shared counts as often as it is met; a slice's spare places count too). A statement '..UptoSaid' is the law's where the arguments, and the package variables that the reading takes, are together of bulk at most 1048576: NARROWER than '..Said'. Prove '..Said' where nothing that the law and all that it calls make is longer than what came in: it says more and counts as full. Else prove '..UptoSaid'. A law counts once. -/
mutual
def uptoBulk {H : Type} : DataW H → Nat
  | .lit (.string bytes) => bytes.length + 1
  | .lit _ => 1
  | .nil => 1
  | .ptr d => uptoBulk d + 1
  | .slice elems spare => uptoBulkAll elems + uptoBulkAll spare + 1
  | .agg parts => uptoBulkAll parts + 1
  | .iface _ d => uptoBulk d + 1
  | .map entries => uptoBulkEntries entries + 1
  | .held _ => 1
def uptoBulkAll {H : Type} : List (DataW H) → Nat
  | [] => 0
  | d :: r => uptoBulk d + uptoBulkAll r
def uptoBulkEntries {H : Type} : List (Lit × DataW H) → Nat
  | [] => 0
  | x :: r => uptoBulkEntry x + uptoBulkEntries r
def uptoBulkEntry {H : Type} : Lit × DataW H → Nat
  | (.string bytes, d) => bytes.length + uptoBulk d + 1
  | (_, d) => uptoBulk d + 1
 end
def uptoSmall : (H : Type) → List (DataW H) → Bool := fun _ ds => decide (uptoBulkAll ds ≤ 1048576)
def OpenSpec.upto (s : _root_.Go.ChangeSpec) : _root_.Go.OpenSpec := { _root_.Go.OpenSpec.ofChange s with cond := some uptoSmall }

/-- 'headendlaw02.CipherTexts', WHERE WHAT IT READS IS OF BULK AT MOST 1048576: true; the input reads as it did. -/
def cipherTextsUptoRow : OpenClaim := { program := "ytlabfinhdidmaaa", sum := "2aa85adc53c49b23c12c08be5826ec299fa8394e6b1b517a21ffd6bcb3bf5839", func := "headend/headendlaw02.CipherTexts", spec := "cipherTexts", inPlace := ["internal/bytealg.IndexByteString"], apart := false, narrowed := true }
def CipherTextsUptoSaid : Prop := cipherTextsUptoRow.holds Try.pinned (OpenSpec.upto cipherTextsSpec)

/-- 'headendlaw02.CipherDerives', WHERE WHAT IT READS IS OF BULK AT MOST 1048576: true; the input reads as it did. -/
def cipherDerivesUptoRow : OpenClaim := { program := "ytlabfinhdidmaaa", sum := "2aa85adc53c49b23c12c08be5826ec299fa8394e6b1b517a21ffd6bcb3bf5839", func := "headend/headendlaw02.CipherDerives", spec := "cipherDerives", unfollowed := true, recurses := true, apart := false, narrowed := true }
def CipherDerivesUptoSaid : Prop := cipherDerivesUptoRow.holds Try.pinned (OpenSpec.upto cipherDerivesSpec)

/-- 'headendlaw02.CipherBlocks', WHERE WHAT IT READS IS OF BULK AT MOST 1048576: true; the input reads as it did. -/
def cipherBlocksUptoRow : OpenClaim := { program := "ytlabfinhdidmaaa", sum := "2aa85adc53c49b23c12c08be5826ec299fa8394e6b1b517a21ffd6bcb3bf5839", func := "headend/headendlaw02.CipherBlocks", spec := "cipherBlocks", unfollowed := true, recurses := true, apart := false, narrowed := true }
def CipherBlocksUptoSaid : Prop := cipherBlocksUptoRow.holds Try.pinned (OpenSpec.upto cipherBlocksSpec)

/-- 'headendlaw02.CipherStreams', WHERE WHAT IT READS IS OF BULK AT MOST 1048576: true; the input reads as it did. -/
def cipherStreamsUptoRow : OpenClaim := { program := "ytlabfinhdidmaaa", sum := "2aa85adc53c49b23c12c08be5826ec299fa8394e6b1b517a21ffd6bcb3bf5839", func := "headend/headendlaw02.CipherStreams", spec := "cipherStreams", unfollowed := true, recurses := true, apart := false, narrowed := true }
def CipherStreamsUptoSaid : Prop := cipherStreamsUptoRow.holds Try.pinned (OpenSpec.upto cipherStreamsSpec)

/-- 'headendlaw02.CipherMacs', WHERE WHAT IT READS IS OF BULK AT MOST 1048576: true; the input reads as it did. -/
def cipherMacsUptoRow : OpenClaim := { program := "ytlabfinhdidmaaa", sum := "2aa85adc53c49b23c12c08be5826ec299fa8394e6b1b517a21ffd6bcb3bf5839", func := "headend/headendlaw02.CipherMacs", spec := "cipherMacs", unfollowed := true, recurses := true, apart := false, narrowed := true }
def CipherMacsUptoSaid : Prop := cipherMacsUptoRow.holds Try.pinned (OpenSpec.upto cipherMacsSpec)

/-- 'headendlaw02.CipherHashes', WHERE WHAT IT READS IS OF BULK AT MOST 1048576: true; the input reads as it did. -/
def cipherHashesUptoRow : OpenClaim := { program := "ytlabfinhdidmaaa", sum := "2aa85adc53c49b23c12c08be5826ec299fa8394e6b1b517a21ffd6bcb3bf5839", func := "headend/headendlaw02.CipherHashes", spec := "cipherHashes", unfollowed := true, recurses := true, apart := false, narrowed := true }
def CipherHashesUptoSaid : Prop := cipherHashesUptoRow.holds Try.pinned (OpenSpec.upto cipherHashesSpec)

/-- 'headendlaw02.CipherInverse', WHERE WHAT IT READS IS OF BULK AT MOST 1048576: true; the input reads as it did. -/
def cipherInverseUptoRow : OpenClaim := { program := "ytlabfinhdidmaaa", sum := "2aa85adc53c49b23c12c08be5826ec299fa8394e6b1b517a21ffd6bcb3bf5839", func := "headend/headendlaw02.CipherInverse", spec := "cipherInverse", inPlace := ["internal/bytealg.IndexByteString"], unfollowed := true, recurses := true, apart := false, narrowed := true }
def CipherInverseUptoSaid : Prop := cipherInverseUptoRow.holds Try.pinned (OpenSpec.upto cipherInverseSpec)

/-- 'headendlaw02.CipherApart', WHERE WHAT IT READS IS OF BULK AT MOST 1048576: true; the input reads as it did. -/
def cipherApartUptoRow : OpenClaim := { program := "ytlabfinhdidmaaa", sum := "2aa85adc53c49b23c12c08be5826ec299fa8394e6b1b517a21ffd6bcb3bf5839", func := "headend/headendlaw02.CipherApart", spec := "cipherApart", inPlace := ["internal/bytealg.IndexByteString"], unfollowed := true, recurses := true, apart := false, narrowed := true }
def CipherApartUptoSaid : Prop := cipherApartUptoRow.holds Try.pinned (OpenSpec.upto cipherApartSpec)

/-- 'headendlaw02.CipherChain', WHERE WHAT IT READS IS OF BULK AT MOST 1048576: true; the input reads as it did. -/
def cipherChainUptoRow : OpenClaim := { program := "ytlabfinhdidmaaa", sum := "2aa85adc53c49b23c12c08be5826ec299fa8394e6b1b517a21ffd6bcb3bf5839", func := "headend/headendlaw02.CipherChain", spec := "cipherChain", inPlace := ["internal/bytealg.IndexByteString"], unfollowed := true, recurses := true, apart := false, narrowed := true }
def CipherChainUptoSaid : Prop := cipherChainUptoRow.holds Try.pinned (OpenSpec.upto cipherChainSpec)

/-- 'headendlaw02.CipherPortion', WHERE WHAT IT READS IS OF BULK AT MOST 1048576: true; the input reads as it did. -/
def cipherPortionUptoRow : OpenClaim := { program := "ytlabfinhdidmaaa", sum := "2aa85adc53c49b23c12c08be5826ec299fa8394e6b1b517a21ffd6bcb3bf5839", func := "headend/headendlaw02.CipherPortion", spec := "cipherPortion", inPlace := ["internal/bytealg.IndexByteString"], unfollowed := true, recurses := true, apart := false, narrowed := true }
def CipherPortionUptoSaid : Prop := cipherPortionUptoRow.holds Try.pinned (OpenSpec.upto cipherPortionSpec)

/-- 'headendlaw02.CipherTextBack', WHERE WHAT IT READS IS OF BULK AT MOST 1048576: true; the input reads as it did. -/
def cipherTextBackUptoRow : OpenClaim := { program := "ytlabfinhdidmaaa", sum := "2aa85adc53c49b23c12c08be5826ec299fa8394e6b1b517a21ffd6bcb3bf5839", func := "headend/headendlaw02.CipherTextBack", spec := "cipherTextBack", inPlace := ["internal/bytealg.IndexByteString"], unfollowed := true, recurses := true, apart := false, narrowed := true }
def CipherTextBackUptoSaid : Prop := cipherTextBackUptoRow.holds Try.pinned (OpenSpec.upto cipherTextBackSpec)

/-- 'headendlaw02.CipherBelow', WHERE WHAT IT READS IS OF BULK AT MOST 1048576: true; the input reads as it did. -/
def cipherBelowUptoRow : OpenClaim := { program := "ytlabfinhdidmaaa", sum := "2aa85adc53c49b23c12c08be5826ec299fa8394e6b1b517a21ffd6bcb3bf5839", func := "headend/headendlaw02.CipherBelow", spec := "cipherBelow", inPlace := ["internal/bytealg.IndexByteString"], unfollowed := true, recurses := true, apart := false, narrowed := true }
def CipherBelowUptoSaid : Prop := cipherBelowUptoRow.holds Try.pinned (OpenSpec.upto cipherBelowSpec)

/-- 'headendlaw02.CipherTwice', WHERE WHAT IT READS IS OF BULK AT MOST 1048576: true; the input reads as it did. -/
def cipherTwiceUptoRow : OpenClaim := { program := "ytlabfinhdidmaaa", sum := "2aa85adc53c49b23c12c08be5826ec299fa8394e6b1b517a21ffd6bcb3bf5839", func := "headend/headendlaw02.CipherTwice", spec := "cipherTwice", inPlace := ["internal/bytealg.IndexByteString"], unfollowed := true, recurses := true, apart := false, narrowed := true }
def CipherTwiceUptoSaid : Prop := cipherTwiceUptoRow.holds Try.pinned (OpenSpec.upto cipherTwiceSpec)

/-- 'headendlaw02.CipherMask', WHERE WHAT IT READS IS OF BULK AT MOST 1048576: true; the input reads as it did. -/
def cipherMaskUptoRow : OpenClaim := { program := "ytlabfinhdidmaaa", sum := "2aa85adc53c49b23c12c08be5826ec299fa8394e6b1b517a21ffd6bcb3bf5839", func := "headend/headendlaw02.CipherMask", spec := "cipherMask", inPlace := ["internal/bytealg.IndexByteString"], unfollowed := true, recurses := true, apart := false, narrowed := true }
def CipherMaskUptoSaid : Prop := cipherMaskUptoRow.holds Try.pinned (OpenSpec.upto cipherMaskSpec)

/-- 'headendlaw02.CipherDigest', WHERE WHAT IT READS IS OF BULK AT MOST 1048576: true; the input reads as it did. -/
def cipherDigestUptoRow : OpenClaim := { program := "ytlabfinhdidmaaa", sum := "2aa85adc53c49b23c12c08be5826ec299fa8394e6b1b517a21ffd6bcb3bf5839", func := "headend/headendlaw02.CipherDigest", spec := "cipherDigest", inPlace := ["internal/bytealg.IndexByteString"], unfollowed := true, recurses := true, apart := false, narrowed := true }
def CipherDigestUptoSaid : Prop := cipherDigestUptoRow.holds Try.pinned (OpenSpec.upto cipherDigestSpec)

/-- 'headendlaw02.CipherExamples', WHERE WHAT IT READS IS OF BULK AT MOST 1048576: true; the input reads as it did. -/
def cipherExamplesUptoRow : OpenClaim := { program := "ytlabfinhdidmaaa", sum := "2aa85adc53c49b23c12c08be5826ec299fa8394e6b1b517a21ffd6bcb3bf5839", func := "headend/headendlaw02.CipherExamples", spec := "cipherExamples", inPlace := ["internal/bytealg.IndexByteString"], unfollowed := true, recurses := true, apart := false, narrowed := true }
def CipherExamplesUptoSaid : Prop := cipherExamplesUptoRow.holds Try.pinned (OpenSpec.upto cipherExamplesSpec)

end Rows
end Go.Proofs.Ytlabfinhdidmaaa
