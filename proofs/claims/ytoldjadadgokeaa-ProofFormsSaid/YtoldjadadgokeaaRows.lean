/-
  No cell of these rows narrows 'for every input' (looked for: loops, veiled, ifaces, maps, wideKeys, modest, calm, conditions, laid).
  DERIVED. THE GIVEN ROWS OF THIS SEAT. 15 by the template 'for every input the law returns true; each argument reads behind the call as it read before'; 0 by the template 'total and deterministic' (their statements: YtoldjadadgokeaaTotals.lean).
  GIVEN WITH THE SEED: the statements are not yours to turn. If you find one false, say at which input.
  Laid BY PROGRAM, IN A SANDBOX (cutbox-rows.mjs): the forced cells as the released guide's own fill.sh prints them over the translation 3c61af05d12095d2… (all of the seat's roots in one cut). By AI agents, Wed Nov 11 2026. No macro, syntax, notation, axiom, sorry.
-/
import Derived.Test.YtoldjadadgokeaaChecked
import GoSem.Claim
import GoSem.ClaimJoined
import GoSem.ClaimMapViews
import Derived.JoinedTies
import Derived.KernelRfl
namespace Go.Proofs.Ytoldjadadgokeaa
/- THE CELL 'sum', in the pinned program and in every row, IS THE sha256 OF THE DUMP (.gsa) THAT YtoldjadadgokeaaProg.lean LOADS. Nothing in Lean hashes anything: it is a label: what it is worth is what the hold of that sum in a sandbox is worth. -/
noncomputable def Try.pinned : Pinned := { name := "ytoldjadadgokeaa", sum := "3c61af05d12095d26aa149471203d7a7b2504fd9144f32b937827c503ff1fe08", checked := Try.checked }
namespace Rows
def none {H : Type} : Left H := { results := [], args := [] }

/-- 'withylaw6.Chaps': WHATEVER THE INPUT: true; the input reads as it did. -/
def chapsSpec : ChangeSpec := { name := "chaps", fn := fun _ => fun
  | [d1, d2] => { results := [.lit (.bool true)], args := [d1, d2] }
  | _ => none }
def chapsRow : OpenClaim := { program := "ytoldjadadgokeaa", sum := "3c61af05d12095d26aa149471203d7a7b2504fd9144f32b937827c503ff1fe08", func := "withy/withylaw6.Chaps", spec := "chaps", apart := false }
def ChapsSaid : Prop := chapsRow.holds Try.pinned (OpenSpec.ofChange chapsSpec)

/-- ITS FALSE NEIGHBOUR: 'it returns false'. Refute it at one input. -/
def chapsWrong : ChangeSpec := { name := "chaps", fn := fun _ => fun
  | [d1, d2] => { results := [.lit (.bool false)], args := [d1, d2] }
  | _ => none }
def ChapsWrongFalsely : Prop := chapsRow.holds Try.pinned (OpenSpec.ofChange chapsWrong)

/-- 'withylaw6.ChapBack': WHATEVER THE INPUT: true; the input reads as it did. -/
def chapBackSpec : ChangeSpec := { name := "chapBack", fn := fun _ => fun
  | [d1, d2] => { results := [.lit (.bool true)], args := [d1, d2] }
  | _ => none }
def chapBackRow : OpenClaim := { program := "ytoldjadadgokeaa", sum := "3c61af05d12095d26aa149471203d7a7b2504fd9144f32b937827c503ff1fe08", func := "withy/withylaw6.ChapBack", spec := "chapBack", apart := false }
def ChapBackSaid : Prop := chapBackRow.holds Try.pinned (OpenSpec.ofChange chapBackSpec)

/-- ITS FALSE NEIGHBOUR: 'it returns false'. Refute it at one input. -/
def chapBackWrong : ChangeSpec := { name := "chapBack", fn := fun _ => fun
  | [d1, d2] => { results := [.lit (.bool false)], args := [d1, d2] }
  | _ => none }
def ChapBackWrongFalsely : Prop := chapBackRow.holds Try.pinned (OpenSpec.ofChange chapBackWrong)

/-- 'withylaw6.ChapValues': WHATEVER THE INPUT: true; the input reads as it did. -/
def chapValuesSpec : ChangeSpec := { name := "chapValues", fn := fun _ => fun
  | [d1, d2, d3] => { results := [.lit (.bool true)], args := [d1, d2, d3] }
  | _ => none }
def chapValuesRow : OpenClaim := { program := "ytoldjadadgokeaa", sum := "3c61af05d12095d26aa149471203d7a7b2504fd9144f32b937827c503ff1fe08", func := "withy/withylaw6.ChapValues", spec := "chapValues", apart := false }
def ChapValuesSaid : Prop := chapValuesRow.holds Try.pinned (OpenSpec.ofChange chapValuesSpec)

/-- ITS FALSE NEIGHBOUR: 'it returns false'. Refute it at one input. -/
def chapValuesWrong : ChangeSpec := { name := "chapValues", fn := fun _ => fun
  | [d1, d2, d3] => { results := [.lit (.bool false)], args := [d1, d2, d3] }
  | _ => none }
def ChapValuesWrongFalsely : Prop := chapValuesRow.holds Try.pinned (OpenSpec.ofChange chapValuesWrong)

/-- 'withylaw16.ProofActs': WHATEVER THE INPUT: true; the input reads as it did. -/
def proofActsSpec : ChangeSpec := { name := "proofActs", fn := fun _ => fun
  | [d1, d2, d3, d4, d5] => { results := [.lit (.bool true)], args := [d1, d2, d3, d4, d5] }
  | _ => none }
def proofActsRow : OpenClaim := { program := "ytoldjadadgokeaa", sum := "3c61af05d12095d26aa149471203d7a7b2504fd9144f32b937827c503ff1fe08", func := "withy/withylaw16.ProofActs", spec := "proofActs", apart := false }
def ProofActsSaid : Prop := proofActsRow.holds Try.pinned (OpenSpec.ofChange proofActsSpec)

/-- ITS FALSE NEIGHBOUR: 'it returns false'. Refute it at one input. -/
def proofActsWrong : ChangeSpec := { name := "proofActs", fn := fun _ => fun
  | [d1, d2, d3, d4, d5] => { results := [.lit (.bool false)], args := [d1, d2, d3, d4, d5] }
  | _ => none }
def ProofActsWrongFalsely : Prop := proofActsRow.holds Try.pinned (OpenSpec.ofChange proofActsWrong)

/-- 'withylaw16.ProofTries': WHATEVER THE INPUT: true; the input reads as it did. -/
def proofTriesSpec : ChangeSpec := { name := "proofTries", fn := fun _ => fun
  | [d1, d2] => { results := [.lit (.bool true)], args := [d1, d2] }
  | _ => none }
def proofTriesRow : OpenClaim := { program := "ytoldjadadgokeaa", sum := "3c61af05d12095d26aa149471203d7a7b2504fd9144f32b937827c503ff1fe08", func := "withy/withylaw16.ProofTries", spec := "proofTries", apart := false }
def ProofTriesSaid : Prop := proofTriesRow.holds Try.pinned (OpenSpec.ofChange proofTriesSpec)

/-- ITS FALSE NEIGHBOUR: 'it returns false'. Refute it at one input. -/
def proofTriesWrong : ChangeSpec := { name := "proofTries", fn := fun _ => fun
  | [d1, d2] => { results := [.lit (.bool false)], args := [d1, d2] }
  | _ => none }
def ProofTriesWrongFalsely : Prop := proofTriesRow.holds Try.pinned (OpenSpec.ofChange proofTriesWrong)

/-- 'withylaw6.ChapCuts': WHATEVER THE INPUT: true; the input reads as it did. -/
def chapCutsSpec : ChangeSpec := { name := "chapCuts", fn := fun _ => fun
  | [d1, d2, d3] => { results := [.lit (.bool true)], args := [d1, d2, d3] }
  | _ => none }
def chapCutsRow : OpenClaim := { program := "ytoldjadadgokeaa", sum := "3c61af05d12095d26aa149471203d7a7b2504fd9144f32b937827c503ff1fe08", func := "withy/withylaw6.ChapCuts", spec := "chapCuts", apart := false }
def ChapCutsSaid : Prop := chapCutsRow.holds Try.pinned (OpenSpec.ofChange chapCutsSpec)

/-- ITS FALSE NEIGHBOUR: 'it returns false'. Refute it at one input. -/
def chapCutsWrong : ChangeSpec := { name := "chapCuts", fn := fun _ => fun
  | [d1, d2, d3] => { results := [.lit (.bool false)], args := [d1, d2, d3] }
  | _ => none }
def ChapCutsWrongFalsely : Prop := chapCutsRow.holds Try.pinned (OpenSpec.ofChange chapCutsWrong)

/-- 'withylaw6.ChapNames': WHATEVER THE INPUT: true; the input reads as it did. -/
def chapNamesSpec : ChangeSpec := { name := "chapNames", fn := fun _ => fun
  | [d1, d2] => { results := [.lit (.bool true)], args := [d1, d2] }
  | _ => none }
def chapNamesRow : OpenClaim := { program := "ytoldjadadgokeaa", sum := "3c61af05d12095d26aa149471203d7a7b2504fd9144f32b937827c503ff1fe08", func := "withy/withylaw6.ChapNames", spec := "chapNames", apart := false }
def ChapNamesSaid : Prop := chapNamesRow.holds Try.pinned (OpenSpec.ofChange chapNamesSpec)

/-- ITS FALSE NEIGHBOUR: 'it returns false'. Refute it at one input. -/
def chapNamesWrong : ChangeSpec := { name := "chapNames", fn := fun _ => fun
  | [d1, d2] => { results := [.lit (.bool false)], args := [d1, d2] }
  | _ => none }
def ChapNamesWrongFalsely : Prop := chapNamesRow.holds Try.pinned (OpenSpec.ofChange chapNamesWrong)

/-- 'withylaw13.DigestKnown': WHATEVER THE INPUT: true; the input reads as it did. -/
def digestKnownSpec : ChangeSpec := { name := "digestKnown", fn := fun _ => fun
  | [] => { results := [.lit (.bool true)], args := [] }
  | _ => none }
def digestKnownRow : OpenClaim := { program := "ytoldjadadgokeaa", sum := "3c61af05d12095d26aa149471203d7a7b2504fd9144f32b937827c503ff1fe08", func := "withy/withylaw13.DigestKnown", spec := "digestKnown", apart := false }
def DigestKnownSaid : Prop := digestKnownRow.holds Try.pinned (OpenSpec.ofChange digestKnownSpec)

/-- ITS FALSE NEIGHBOUR: 'it returns false'. Refute it at one input. -/
def digestKnownWrong : ChangeSpec := { name := "digestKnown", fn := fun _ => fun
  | [] => { results := [.lit (.bool false)], args := [] }
  | _ => none }
def DigestKnownWrongFalsely : Prop := digestKnownRow.holds Try.pinned (OpenSpec.ofChange digestKnownWrong)

/-- 'withylaw13.Digests': WHATEVER THE INPUT: true; the input reads as it did. -/
def digestsSpec : ChangeSpec := { name := "digests", fn := fun _ => fun
  | [d1, d2, d3, d4] => { results := [.lit (.bool true)], args := [d1, d2, d3, d4] }
  | _ => none }
def digestsRow : OpenClaim := { program := "ytoldjadadgokeaa", sum := "3c61af05d12095d26aa149471203d7a7b2504fd9144f32b937827c503ff1fe08", func := "withy/withylaw13.Digests", spec := "digests", apart := false }
def DigestsSaid : Prop := digestsRow.holds Try.pinned (OpenSpec.ofChange digestsSpec)

/-- ITS FALSE NEIGHBOUR: 'it returns false'. Refute it at one input. -/
def digestsWrong : ChangeSpec := { name := "digests", fn := fun _ => fun
  | [d1, d2, d3, d4] => { results := [.lit (.bool false)], args := [d1, d2, d3, d4] }
  | _ => none }
def DigestsWrongFalsely : Prop := digestsRow.holds Try.pinned (OpenSpec.ofChange digestsWrong)

/-- 'withylaw13.DigestChaps': WHATEVER THE INPUT: true; the input reads as it did. -/
def digestChapsSpec : ChangeSpec := { name := "digestChaps", fn := fun _ => fun
  | [d1, d2, d3] => { results := [.lit (.bool true)], args := [d1, d2, d3] }
  | _ => none }
def digestChapsRow : OpenClaim := { program := "ytoldjadadgokeaa", sum := "3c61af05d12095d26aa149471203d7a7b2504fd9144f32b937827c503ff1fe08", func := "withy/withylaw13.DigestChaps", spec := "digestChaps", apart := false }
def DigestChapsSaid : Prop := digestChapsRow.holds Try.pinned (OpenSpec.ofChange digestChapsSpec)

/-- ITS FALSE NEIGHBOUR: 'it returns false'. Refute it at one input. -/
def digestChapsWrong : ChangeSpec := { name := "digestChaps", fn := fun _ => fun
  | [d1, d2, d3] => { results := [.lit (.bool false)], args := [d1, d2, d3] }
  | _ => none }
def DigestChapsWrongFalsely : Prop := digestChapsRow.holds Try.pinned (OpenSpec.ofChange digestChapsWrong)

/-- 'withylaw13.DigestEnds': WHATEVER THE INPUT: true; the input reads as it did. -/
def digestEndsSpec : ChangeSpec := { name := "digestEnds", fn := fun _ => fun
  | [d1, d2] => { results := [.lit (.bool true)], args := [d1, d2] }
  | _ => none }
def digestEndsRow : OpenClaim := { program := "ytoldjadadgokeaa", sum := "3c61af05d12095d26aa149471203d7a7b2504fd9144f32b937827c503ff1fe08", func := "withy/withylaw13.DigestEnds", spec := "digestEnds", apart := false }
def DigestEndsSaid : Prop := digestEndsRow.holds Try.pinned (OpenSpec.ofChange digestEndsSpec)

/-- ITS FALSE NEIGHBOUR: 'it returns false'. Refute it at one input. -/
def digestEndsWrong : ChangeSpec := { name := "digestEnds", fn := fun _ => fun
  | [d1, d2] => { results := [.lit (.bool false)], args := [d1, d2] }
  | _ => none }
def DigestEndsWrongFalsely : Prop := digestEndsRow.holds Try.pinned (OpenSpec.ofChange digestEndsWrong)

/-- 'withylaw13.DigestParts': WHATEVER THE INPUT: true; the input reads as it did. -/
def digestPartsSpec : ChangeSpec := { name := "digestParts", fn := fun _ => fun
  | [d1, d2, d3] => { results := [.lit (.bool true)], args := [d1, d2, d3] }
  | _ => none }
def digestPartsRow : OpenClaim := { program := "ytoldjadadgokeaa", sum := "3c61af05d12095d26aa149471203d7a7b2504fd9144f32b937827c503ff1fe08", func := "withy/withylaw13.DigestParts", spec := "digestParts", apart := false }
def DigestPartsSaid : Prop := digestPartsRow.holds Try.pinned (OpenSpec.ofChange digestPartsSpec)

/-- ITS FALSE NEIGHBOUR: 'it returns false'. Refute it at one input. -/
def digestPartsWrong : ChangeSpec := { name := "digestParts", fn := fun _ => fun
  | [d1, d2, d3] => { results := [.lit (.bool false)], args := [d1, d2, d3] }
  | _ => none }
def DigestPartsWrongFalsely : Prop := digestPartsRow.holds Try.pinned (OpenSpec.ofChange digestPartsWrong)

/-- 'withylaw16.ProofAnswers': WHATEVER THE INPUT: true; the input reads as it did. -/
def proofAnswersSpec : ChangeSpec := { name := "proofAnswers", fn := fun _ => fun
  | [d1, d2, d3] => { results := [.lit (.bool true)], args := [d1, d2, d3] }
  | _ => none }
def proofAnswersRow : OpenClaim := { program := "ytoldjadadgokeaa", sum := "3c61af05d12095d26aa149471203d7a7b2504fd9144f32b937827c503ff1fe08", func := "withy/withylaw16.ProofAnswers", spec := "proofAnswers", apart := false }
def ProofAnswersSaid : Prop := proofAnswersRow.holds Try.pinned (OpenSpec.ofChange proofAnswersSpec)

/-- ITS FALSE NEIGHBOUR: 'it returns false'. Refute it at one input. -/
def proofAnswersWrong : ChangeSpec := { name := "proofAnswers", fn := fun _ => fun
  | [d1, d2, d3] => { results := [.lit (.bool false)], args := [d1, d2, d3] }
  | _ => none }
def ProofAnswersWrongFalsely : Prop := proofAnswersRow.holds Try.pinned (OpenSpec.ofChange proofAnswersWrong)

/-- 'withylaw16.ProofWrong': WHATEVER THE INPUT: true; the input reads as it did. -/
def proofWrongSpec : ChangeSpec := { name := "proofWrong", fn := fun _ => fun
  | [d1, d2] => { results := [.lit (.bool true)], args := [d1, d2] }
  | _ => none }
def proofWrongRow : OpenClaim := { program := "ytoldjadadgokeaa", sum := "3c61af05d12095d26aa149471203d7a7b2504fd9144f32b937827c503ff1fe08", func := "withy/withylaw16.ProofWrong", spec := "proofWrong", apart := false }
def ProofWrongSaid : Prop := proofWrongRow.holds Try.pinned (OpenSpec.ofChange proofWrongSpec)

/-- ITS FALSE NEIGHBOUR: 'it returns false'. Refute it at one input. -/
def proofWrongWrong : ChangeSpec := { name := "proofWrong", fn := fun _ => fun
  | [d1, d2] => { results := [.lit (.bool false)], args := [d1, d2] }
  | _ => none }
def ProofWrongWrongFalsely : Prop := proofWrongRow.holds Try.pinned (OpenSpec.ofChange proofWrongWrong)

/-- 'withylaw16.ProofForms': WHATEVER THE INPUT: true; the input reads as it did. -/
def proofFormsSpec : ChangeSpec := { name := "proofForms", fn := fun _ => fun
  | [d1, d2, d3, d4, d5] => { results := [.lit (.bool true)], args := [d1, d2, d3, d4, d5] }
  | _ => none }
def proofFormsRow : OpenClaim := { program := "ytoldjadadgokeaa", sum := "3c61af05d12095d26aa149471203d7a7b2504fd9144f32b937827c503ff1fe08", func := "withy/withylaw16.ProofForms", spec := "proofForms", apart := false }
def ProofFormsSaid : Prop := proofFormsRow.holds Try.pinned (OpenSpec.ofChange proofFormsSpec)

/-- ITS FALSE NEIGHBOUR: 'it returns false'. Refute it at one input. -/
def proofFormsWrong : ChangeSpec := { name := "proofForms", fn := fun _ => fun
  | [d1, d2, d3, d4, d5] => { results := [.lit (.bool false)], args := [d1, d2, d3, d4, d5] }
  | _ => none }
def ProofFormsWrongFalsely : Prop := proofFormsRow.holds Try.pinned (OpenSpec.ofChange proofFormsWrong)

/- THE SECOND FORM. 'bulk': how many values and letters a reading holds, each counted each time it is reached (what is shared counts as often as it is met; a slice's spare places count too). A statement '..UptoSaid' is the law's where the arguments, and the package variables that the reading takes, are together of bulk at most 1048576: NARROWER than '..Said'. Prove '..Said' where nothing that the law and all that it calls make is longer than what came in: it says more and counts as full. Else prove '..UptoSaid'. A law counts once. -/
mutual
def uptoBulk {H : Type} : DataW H → Nat
  | .lit (.string bytes) => bytes.length + 1
  | .lit _ => 1
  | .nil => 1
  | .ptr d => uptoBulk d + 1
  | .slice elems spare => uptoBulkAll elems + uptoBulkAll spare + 1
  | .agg parts => uptoBulkAll parts + 1
  | .iface _ d => uptoBulk d + 1
  | .map entries => uptoBulkEntries entries + 1
  | .held _ => 1
def uptoBulkAll {H : Type} : List (DataW H) → Nat
  | [] => 0
  | d :: r => uptoBulk d + uptoBulkAll r
def uptoBulkEntries {H : Type} : List (Lit × DataW H) → Nat
  | [] => 0
  | x :: r => uptoBulkEntry x + uptoBulkEntries r
def uptoBulkEntry {H : Type} : Lit × DataW H → Nat
  | (.string bytes, d) => bytes.length + uptoBulk d + 1
  | (_, d) => uptoBulk d + 1
 end
def uptoSmall : (H : Type) → List (DataW H) → Bool := fun _ ds => decide (uptoBulkAll ds ≤ 1048576)
def OpenSpec.upto (s : _root_.Go.ChangeSpec) : _root_.Go.OpenSpec := { _root_.Go.OpenSpec.ofChange s with cond := some uptoSmall }

/-- 'withylaw6.Chaps', WHERE WHAT IT READS IS OF BULK AT MOST 1048576: true; the input reads as it did. -/
def chapsUptoRow : OpenClaim := { program := "ytoldjadadgokeaa", sum := "3c61af05d12095d26aa149471203d7a7b2504fd9144f32b937827c503ff1fe08", func := "withy/withylaw6.Chaps", spec := "chaps", apart := false, narrowed := true }
def ChapsUptoSaid : Prop := chapsUptoRow.holds Try.pinned (OpenSpec.upto chapsSpec)

/-- 'withylaw6.ChapBack', WHERE WHAT IT READS IS OF BULK AT MOST 1048576: true; the input reads as it did. -/
def chapBackUptoRow : OpenClaim := { program := "ytoldjadadgokeaa", sum := "3c61af05d12095d26aa149471203d7a7b2504fd9144f32b937827c503ff1fe08", func := "withy/withylaw6.ChapBack", spec := "chapBack", apart := false, narrowed := true }
def ChapBackUptoSaid : Prop := chapBackUptoRow.holds Try.pinned (OpenSpec.upto chapBackSpec)

/-- 'withylaw6.ChapValues', WHERE WHAT IT READS IS OF BULK AT MOST 1048576: true; the input reads as it did. -/
def chapValuesUptoRow : OpenClaim := { program := "ytoldjadadgokeaa", sum := "3c61af05d12095d26aa149471203d7a7b2504fd9144f32b937827c503ff1fe08", func := "withy/withylaw6.ChapValues", spec := "chapValues", apart := false, narrowed := true }
def ChapValuesUptoSaid : Prop := chapValuesUptoRow.holds Try.pinned (OpenSpec.upto chapValuesSpec)

/-- 'withylaw16.ProofActs', WHERE WHAT IT READS IS OF BULK AT MOST 1048576: true; the input reads as it did. -/
def proofActsUptoRow : OpenClaim := { program := "ytoldjadadgokeaa", sum := "3c61af05d12095d26aa149471203d7a7b2504fd9144f32b937827c503ff1fe08", func := "withy/withylaw16.ProofActs", spec := "proofActs", apart := false, narrowed := true }
def ProofActsUptoSaid : Prop := proofActsUptoRow.holds Try.pinned (OpenSpec.upto proofActsSpec)

/-- 'withylaw16.ProofTries', WHERE WHAT IT READS IS OF BULK AT MOST 1048576: true; the input reads as it did. -/
def proofTriesUptoRow : OpenClaim := { program := "ytoldjadadgokeaa", sum := "3c61af05d12095d26aa149471203d7a7b2504fd9144f32b937827c503ff1fe08", func := "withy/withylaw16.ProofTries", spec := "proofTries", apart := false, narrowed := true }
def ProofTriesUptoSaid : Prop := proofTriesUptoRow.holds Try.pinned (OpenSpec.upto proofTriesSpec)

/-- 'withylaw6.ChapCuts', WHERE WHAT IT READS IS OF BULK AT MOST 1048576: true; the input reads as it did. -/
def chapCutsUptoRow : OpenClaim := { program := "ytoldjadadgokeaa", sum := "3c61af05d12095d26aa149471203d7a7b2504fd9144f32b937827c503ff1fe08", func := "withy/withylaw6.ChapCuts", spec := "chapCuts", apart := false, narrowed := true }
def ChapCutsUptoSaid : Prop := chapCutsUptoRow.holds Try.pinned (OpenSpec.upto chapCutsSpec)

/-- 'withylaw6.ChapNames', WHERE WHAT IT READS IS OF BULK AT MOST 1048576: true; the input reads as it did. -/
def chapNamesUptoRow : OpenClaim := { program := "ytoldjadadgokeaa", sum := "3c61af05d12095d26aa149471203d7a7b2504fd9144f32b937827c503ff1fe08", func := "withy/withylaw6.ChapNames", spec := "chapNames", apart := false, narrowed := true }
def ChapNamesUptoSaid : Prop := chapNamesUptoRow.holds Try.pinned (OpenSpec.upto chapNamesSpec)

/-- 'withylaw13.DigestKnown', WHERE WHAT IT READS IS OF BULK AT MOST 1048576: true; the input reads as it did. -/
def digestKnownUptoRow : OpenClaim := { program := "ytoldjadadgokeaa", sum := "3c61af05d12095d26aa149471203d7a7b2504fd9144f32b937827c503ff1fe08", func := "withy/withylaw13.DigestKnown", spec := "digestKnown", apart := false, narrowed := true }
def DigestKnownUptoSaid : Prop := digestKnownUptoRow.holds Try.pinned (OpenSpec.upto digestKnownSpec)

/-- 'withylaw13.Digests', WHERE WHAT IT READS IS OF BULK AT MOST 1048576: true; the input reads as it did. -/
def digestsUptoRow : OpenClaim := { program := "ytoldjadadgokeaa", sum := "3c61af05d12095d26aa149471203d7a7b2504fd9144f32b937827c503ff1fe08", func := "withy/withylaw13.Digests", spec := "digests", apart := false, narrowed := true }
def DigestsUptoSaid : Prop := digestsUptoRow.holds Try.pinned (OpenSpec.upto digestsSpec)

/-- 'withylaw13.DigestChaps', WHERE WHAT IT READS IS OF BULK AT MOST 1048576: true; the input reads as it did. -/
def digestChapsUptoRow : OpenClaim := { program := "ytoldjadadgokeaa", sum := "3c61af05d12095d26aa149471203d7a7b2504fd9144f32b937827c503ff1fe08", func := "withy/withylaw13.DigestChaps", spec := "digestChaps", apart := false, narrowed := true }
def DigestChapsUptoSaid : Prop := digestChapsUptoRow.holds Try.pinned (OpenSpec.upto digestChapsSpec)

/-- 'withylaw13.DigestEnds', WHERE WHAT IT READS IS OF BULK AT MOST 1048576: true; the input reads as it did. -/
def digestEndsUptoRow : OpenClaim := { program := "ytoldjadadgokeaa", sum := "3c61af05d12095d26aa149471203d7a7b2504fd9144f32b937827c503ff1fe08", func := "withy/withylaw13.DigestEnds", spec := "digestEnds", apart := false, narrowed := true }
def DigestEndsUptoSaid : Prop := digestEndsUptoRow.holds Try.pinned (OpenSpec.upto digestEndsSpec)

/-- 'withylaw13.DigestParts', WHERE WHAT IT READS IS OF BULK AT MOST 1048576: true; the input reads as it did. -/
def digestPartsUptoRow : OpenClaim := { program := "ytoldjadadgokeaa", sum := "3c61af05d12095d26aa149471203d7a7b2504fd9144f32b937827c503ff1fe08", func := "withy/withylaw13.DigestParts", spec := "digestParts", apart := false, narrowed := true }
def DigestPartsUptoSaid : Prop := digestPartsUptoRow.holds Try.pinned (OpenSpec.upto digestPartsSpec)

/-- 'withylaw16.ProofAnswers', WHERE WHAT IT READS IS OF BULK AT MOST 1048576: true; the input reads as it did. -/
def proofAnswersUptoRow : OpenClaim := { program := "ytoldjadadgokeaa", sum := "3c61af05d12095d26aa149471203d7a7b2504fd9144f32b937827c503ff1fe08", func := "withy/withylaw16.ProofAnswers", spec := "proofAnswers", apart := false, narrowed := true }
def ProofAnswersUptoSaid : Prop := proofAnswersUptoRow.holds Try.pinned (OpenSpec.upto proofAnswersSpec)

/-- 'withylaw16.ProofWrong', WHERE WHAT IT READS IS OF BULK AT MOST 1048576: true; the input reads as it did. -/
def proofWrongUptoRow : OpenClaim := { program := "ytoldjadadgokeaa", sum := "3c61af05d12095d26aa149471203d7a7b2504fd9144f32b937827c503ff1fe08", func := "withy/withylaw16.ProofWrong", spec := "proofWrong", apart := false, narrowed := true }
def ProofWrongUptoSaid : Prop := proofWrongUptoRow.holds Try.pinned (OpenSpec.upto proofWrongSpec)

/-- 'withylaw16.ProofForms', WHERE WHAT IT READS IS OF BULK AT MOST 1048576: true; the input reads as it did. -/
def proofFormsUptoRow : OpenClaim := { program := "ytoldjadadgokeaa", sum := "3c61af05d12095d26aa149471203d7a7b2504fd9144f32b937827c503ff1fe08", func := "withy/withylaw16.ProofForms", spec := "proofForms", apart := false, narrowed := true }
def ProofFormsUptoSaid : Prop := proofFormsUptoRow.holds Try.pinned (OpenSpec.upto proofFormsSpec)

end Rows
end Go.Proofs.Ytoldjadadgokeaa
