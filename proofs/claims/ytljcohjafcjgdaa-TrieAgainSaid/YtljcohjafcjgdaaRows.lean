/-
  No cell of these rows narrows 'for every input' (looked for: loops, veiled, ifaces, maps, wideKeys, modest, calm, conditions, laid).
  DERIVED. THE GIVEN ROWS OF THIS SEAT. 9 by the template 'for every input the law returns true; each argument reads behind the call as it read before'; 0 by the template 'total and deterministic' (their statements: YtljcohjafcjgdaaTotals.lean).
  GIVEN WITH THE SEED: the statements are not yours to turn. If you find one false, say at which input.
  Laid BY PROGRAM, IN A SANDBOX (cutbox-rows.mjs): the forced cells as the released guide's own fill.sh prints them over the translation ef4b23d7fd0b4a8c… (all of the seat's roots in one cut). By AI agents, Wed Nov 11 2026. No macro, syntax, notation, axiom, sorry.
-/
import Derived.Test.YtljcohjafcjgdaaChecked
import GoSem.Claim
import GoSem.ClaimJoined
import GoSem.ClaimMapViews
import Derived.JoinedTies
import Derived.KernelRfl
namespace Go.Proofs.Ytljcohjafcjgdaa
/- THE CELL 'sum', in the pinned program and in every row, IS THE sha256 OF THE DUMP (.gsa) THAT YtljcohjafcjgdaaProg.lean LOADS. Nothing in Lean hashes anything: it is a label: what it is worth is what the hold of that sum in a sandbox is worth. -/
noncomputable def Try.pinned : Pinned := { name := "ytljcohjafcjgdaa", sum := "ef4b23d7fd0b4a8c957e54a8bdf9377fd90fc81f7008e379842b563412e1d885", checked := Try.checked }
namespace Rows
def none {H : Type} : Left H := { results := [], args := [] }

/-- 'naskhlaw06.TrieBlocks': WHATEVER THE INPUT: true; the input reads as it did. -/
def trieBlocksSpec : ChangeSpec := { name := "trieBlocks", fn := fun _ => fun
  | [d1, d2] => { results := [.lit (.bool true)], args := [d1, d2] }
  | _ => none }
def trieBlocksRow : OpenClaim := { program := "ytljcohjafcjgdaa", sum := "ef4b23d7fd0b4a8c957e54a8bdf9377fd90fc81f7008e379842b563412e1d885", func := "naskh/naskhlaw06.TrieBlocks", spec := "trieBlocks", apart := false }
def TrieBlocksSaid : Prop := trieBlocksRow.holds Try.pinned (OpenSpec.ofChange trieBlocksSpec)

/-- ITS FALSE NEIGHBOUR: 'it returns false'. Refute it at one input. -/
def trieBlocksWrong : ChangeSpec := { name := "trieBlocks", fn := fun _ => fun
  | [d1, d2] => { results := [.lit (.bool false)], args := [d1, d2] }
  | _ => none }
def TrieBlocksWrongFalsely : Prop := trieBlocksRow.holds Try.pinned (OpenSpec.ofChange trieBlocksWrong)

/-- 'naskhlaw08.PairsTells': WHATEVER THE INPUT: true; the input reads as it did. -/
def pairsTellsSpec : ChangeSpec := { name := "pairsTells", fn := fun _ => fun
  | [d1, d2] => { results := [.lit (.bool true)], args := [d1, d2] }
  | _ => none }
def pairsTellsRow : OpenClaim := { program := "ytljcohjafcjgdaa", sum := "ef4b23d7fd0b4a8c957e54a8bdf9377fd90fc81f7008e379842b563412e1d885", func := "naskh/naskhlaw08.PairsTells", spec := "pairsTells", unfollowed := true, recurses := true, apart := false }
def PairsTellsSaid : Prop := pairsTellsRow.holds Try.pinned (OpenSpec.ofChange pairsTellsSpec)

/-- ITS FALSE NEIGHBOUR: 'it returns false'. Refute it at one input. -/
def pairsTellsWrong : ChangeSpec := { name := "pairsTells", fn := fun _ => fun
  | [d1, d2] => { results := [.lit (.bool false)], args := [d1, d2] }
  | _ => none }
def PairsTellsWrongFalsely : Prop := pairsTellsRow.holds Try.pinned (OpenSpec.ofChange pairsTellsWrong)

/-- 'naskhlaw08.PairsBack': WHATEVER THE INPUT: true; the input reads as it did. -/
def pairsBackSpec : ChangeSpec := { name := "pairsBack", fn := fun _ => fun
  | [d1, d2] => { results := [.lit (.bool true)], args := [d1, d2] }
  | _ => none }
def pairsBackRow : OpenClaim := { program := "ytljcohjafcjgdaa", sum := "ef4b23d7fd0b4a8c957e54a8bdf9377fd90fc81f7008e379842b563412e1d885", func := "naskh/naskhlaw08.PairsBack", spec := "pairsBack", unfollowed := true, recurses := true, apart := false }
def PairsBackSaid : Prop := pairsBackRow.holds Try.pinned (OpenSpec.ofChange pairsBackSpec)

/-- ITS FALSE NEIGHBOUR: 'it returns false'. Refute it at one input. -/
def pairsBackWrong : ChangeSpec := { name := "pairsBack", fn := fun _ => fun
  | [d1, d2] => { results := [.lit (.bool false)], args := [d1, d2] }
  | _ => none }
def PairsBackWrongFalsely : Prop := pairsBackRow.holds Try.pinned (OpenSpec.ofChange pairsBackWrong)

/-- 'naskhlaw06.TrieGets': WHATEVER THE INPUT: true; the input reads as it did. -/
def trieGetsSpec : ChangeSpec := { name := "trieGets", fn := fun _ => fun
  | [d1, d2, d3] => { results := [.lit (.bool true)], args := [d1, d2, d3] }
  | _ => none }
def trieGetsRow : OpenClaim := { program := "ytljcohjafcjgdaa", sum := "ef4b23d7fd0b4a8c957e54a8bdf9377fd90fc81f7008e379842b563412e1d885", func := "naskh/naskhlaw06.TrieGets", spec := "trieGets", apart := false }
def TrieGetsSaid : Prop := trieGetsRow.holds Try.pinned (OpenSpec.ofChange trieGetsSpec)

/-- ITS FALSE NEIGHBOUR: 'it returns false'. Refute it at one input. -/
def trieGetsWrong : ChangeSpec := { name := "trieGets", fn := fun _ => fun
  | [d1, d2, d3] => { results := [.lit (.bool false)], args := [d1, d2, d3] }
  | _ => none }
def TrieGetsWrongFalsely : Prop := trieGetsRow.holds Try.pinned (OpenSpec.ofChange trieGetsWrong)

/-- 'naskhlaw32.MirrorTells': WHATEVER THE INPUT: true; the input reads as it did. -/
def mirrorTellsSpec : ChangeSpec := { name := "mirrorTells", fn := fun _ => fun
  | [d1, d2] => { results := [.lit (.bool true)], args := [d1, d2] }
  | _ => none }
def mirrorTellsRow : OpenClaim := { program := "ytljcohjafcjgdaa", sum := "ef4b23d7fd0b4a8c957e54a8bdf9377fd90fc81f7008e379842b563412e1d885", func := "naskh/naskhlaw32.MirrorTells", spec := "mirrorTells", unfollowed := true, recurses := true, apart := false }
def MirrorTellsSaid : Prop := mirrorTellsRow.holds Try.pinned (OpenSpec.ofChange mirrorTellsSpec)

/-- ITS FALSE NEIGHBOUR: 'it returns false'. Refute it at one input. -/
def mirrorTellsWrong : ChangeSpec := { name := "mirrorTells", fn := fun _ => fun
  | [d1, d2] => { results := [.lit (.bool false)], args := [d1, d2] }
  | _ => none }
def MirrorTellsWrongFalsely : Prop := mirrorTellsRow.holds Try.pinned (OpenSpec.ofChange mirrorTellsWrong)

/-- 'naskhlaw32.MirrorBack': WHATEVER THE INPUT: true; the input reads as it did. -/
def mirrorBackSpec : ChangeSpec := { name := "mirrorBack", fn := fun _ => fun
  | [d1, d2] => { results := [.lit (.bool true)], args := [d1, d2] }
  | _ => none }
def mirrorBackRow : OpenClaim := { program := "ytljcohjafcjgdaa", sum := "ef4b23d7fd0b4a8c957e54a8bdf9377fd90fc81f7008e379842b563412e1d885", func := "naskh/naskhlaw32.MirrorBack", spec := "mirrorBack", unfollowed := true, recurses := true, apart := false }
def MirrorBackSaid : Prop := mirrorBackRow.holds Try.pinned (OpenSpec.ofChange mirrorBackSpec)

/-- ITS FALSE NEIGHBOUR: 'it returns false'. Refute it at one input. -/
def mirrorBackWrong : ChangeSpec := { name := "mirrorBack", fn := fun _ => fun
  | [d1, d2] => { results := [.lit (.bool false)], args := [d1, d2] }
  | _ => none }
def MirrorBackWrongFalsely : Prop := mirrorBackRow.holds Try.pinned (OpenSpec.ofChange mirrorBackWrong)

/-- 'naskhlaw06.TrieAgain': WHATEVER THE INPUT: true; the input reads as it did. -/
def trieAgainSpec : ChangeSpec := { name := "trieAgain", fn := fun _ => fun
  | [d1, d2, d3] => { results := [.lit (.bool true)], args := [d1, d2, d3] }
  | _ => none }
def trieAgainRow : OpenClaim := { program := "ytljcohjafcjgdaa", sum := "ef4b23d7fd0b4a8c957e54a8bdf9377fd90fc81f7008e379842b563412e1d885", func := "naskh/naskhlaw06.TrieAgain", spec := "trieAgain", unfollowed := true, recurses := true, apart := false }
def TrieAgainSaid : Prop := trieAgainRow.holds Try.pinned (OpenSpec.ofChange trieAgainSpec)

/-- ITS FALSE NEIGHBOUR: 'it returns false'. Refute it at one input. -/
def trieAgainWrong : ChangeSpec := { name := "trieAgain", fn := fun _ => fun
  | [d1, d2, d3] => { results := [.lit (.bool false)], args := [d1, d2, d3] }
  | _ => none }
def TrieAgainWrongFalsely : Prop := trieAgainRow.holds Try.pinned (OpenSpec.ofChange trieAgainWrong)

/-- 'naskhlaw06.TrieNobody': WHATEVER THE INPUT: true; the input reads as it did. -/
def trieNobodySpec : ChangeSpec := { name := "trieNobody", fn := fun _ => fun
  | [d] => { results := [.lit (.bool true)], args := [d] }
  | _ => none }
def trieNobodyRow : OpenClaim := { program := "ytljcohjafcjgdaa", sum := "ef4b23d7fd0b4a8c957e54a8bdf9377fd90fc81f7008e379842b563412e1d885", func := "naskh/naskhlaw06.TrieNobody", spec := "trieNobody", unfollowed := true, recurses := true, apart := false }
def TrieNobodySaid : Prop := trieNobodyRow.holds Try.pinned (OpenSpec.ofChange trieNobodySpec)

/-- ITS FALSE NEIGHBOUR: 'it returns false'. Refute it at one input. -/
def trieNobodyWrong : ChangeSpec := { name := "trieNobody", fn := fun _ => fun
  | [d] => { results := [.lit (.bool false)], args := [d] }
  | _ => none }
def TrieNobodyWrongFalsely : Prop := trieNobodyRow.holds Try.pinned (OpenSpec.ofChange trieNobodyWrong)

/-- 'naskhlaw06.TrieRanges': WHATEVER THE INPUT: true; the input reads as it did. -/
def trieRangesSpec : ChangeSpec := { name := "trieRanges", fn := fun _ => fun
  | [d1, d2, d3] => { results := [.lit (.bool true)], args := [d1, d2, d3] }
  | _ => none }
def trieRangesRow : OpenClaim := { program := "ytljcohjafcjgdaa", sum := "ef4b23d7fd0b4a8c957e54a8bdf9377fd90fc81f7008e379842b563412e1d885", func := "naskh/naskhlaw06.TrieRanges", spec := "trieRanges", unfollowed := true, recurses := true, apart := false }
def TrieRangesSaid : Prop := trieRangesRow.holds Try.pinned (OpenSpec.ofChange trieRangesSpec)

/-- ITS FALSE NEIGHBOUR: 'it returns false'. Refute it at one input. -/
def trieRangesWrong : ChangeSpec := { name := "trieRanges", fn := fun _ => fun
  | [d1, d2, d3] => { results := [.lit (.bool false)], args := [d1, d2, d3] }
  | _ => none }
def TrieRangesWrongFalsely : Prop := trieRangesRow.holds Try.pinned (OpenSpec.ofChange trieRangesWrong)

/- THE SECOND FORM. 'bulk': how many values and letters a reading holds, each counted each time it is reached (what is shared counts as often as it is met; a slice's spare places count too). A statement '..UptoSaid' is the law's where the arguments, and the package variables that the reading takes, are together of bulk at most 1048576: NARROWER than '..Said'. Prove '..Said' where nothing that the law and all that it calls make is longer than what came in: it says more and counts as full. Else prove '..UptoSaid'. A law counts once. -/
mutual
def uptoBulk {H : Type} : DataW H → Nat
  | .lit (.string bytes) => bytes.length + 1
  | .lit _ => 1
  | .nil => 1
  | .ptr d => uptoBulk d + 1
  | .slice elems spare => uptoBulkAll elems + uptoBulkAll spare + 1
  | .agg parts => uptoBulkAll parts + 1
  | .iface _ d => uptoBulk d + 1
  | .map entries => uptoBulkEntries entries + 1
  | .held _ => 1
def uptoBulkAll {H : Type} : List (DataW H) → Nat
  | [] => 0
  | d :: r => uptoBulk d + uptoBulkAll r
def uptoBulkEntries {H : Type} : List (Lit × DataW H) → Nat
  | [] => 0
  | x :: r => uptoBulkEntry x + uptoBulkEntries r
def uptoBulkEntry {H : Type} : Lit × DataW H → Nat
  | (.string bytes, d) => bytes.length + uptoBulk d + 1
  | (_, d) => uptoBulk d + 1
 end
def uptoSmall : (H : Type) → List (DataW H) → Bool := fun _ ds => decide (uptoBulkAll ds ≤ 1048576)
def OpenSpec.upto (s : _root_.Go.ChangeSpec) : _root_.Go.OpenSpec := { _root_.Go.OpenSpec.ofChange s with cond := some uptoSmall }

/-- 'naskhlaw06.TrieBlocks', WHERE WHAT IT READS IS OF BULK AT MOST 1048576: true; the input reads as it did. -/
def trieBlocksUptoRow : OpenClaim := { program := "ytljcohjafcjgdaa", sum := "ef4b23d7fd0b4a8c957e54a8bdf9377fd90fc81f7008e379842b563412e1d885", func := "naskh/naskhlaw06.TrieBlocks", spec := "trieBlocks", apart := false, narrowed := true }
def TrieBlocksUptoSaid : Prop := trieBlocksUptoRow.holds Try.pinned (OpenSpec.upto trieBlocksSpec)

/-- 'naskhlaw08.PairsTells', WHERE WHAT IT READS IS OF BULK AT MOST 1048576: true; the input reads as it did. -/
def pairsTellsUptoRow : OpenClaim := { program := "ytljcohjafcjgdaa", sum := "ef4b23d7fd0b4a8c957e54a8bdf9377fd90fc81f7008e379842b563412e1d885", func := "naskh/naskhlaw08.PairsTells", spec := "pairsTells", unfollowed := true, recurses := true, apart := false, narrowed := true }
def PairsTellsUptoSaid : Prop := pairsTellsUptoRow.holds Try.pinned (OpenSpec.upto pairsTellsSpec)

/-- 'naskhlaw08.PairsBack', WHERE WHAT IT READS IS OF BULK AT MOST 1048576: true; the input reads as it did. -/
def pairsBackUptoRow : OpenClaim := { program := "ytljcohjafcjgdaa", sum := "ef4b23d7fd0b4a8c957e54a8bdf9377fd90fc81f7008e379842b563412e1d885", func := "naskh/naskhlaw08.PairsBack", spec := "pairsBack", unfollowed := true, recurses := true, apart := false, narrowed := true }
def PairsBackUptoSaid : Prop := pairsBackUptoRow.holds Try.pinned (OpenSpec.upto pairsBackSpec)

/-- 'naskhlaw06.TrieGets', WHERE WHAT IT READS IS OF BULK AT MOST 1048576: true; the input reads as it did. -/
def trieGetsUptoRow : OpenClaim := { program := "ytljcohjafcjgdaa", sum := "ef4b23d7fd0b4a8c957e54a8bdf9377fd90fc81f7008e379842b563412e1d885", func := "naskh/naskhlaw06.TrieGets", spec := "trieGets", apart := false, narrowed := true }
def TrieGetsUptoSaid : Prop := trieGetsUptoRow.holds Try.pinned (OpenSpec.upto trieGetsSpec)

/-- 'naskhlaw32.MirrorTells', WHERE WHAT IT READS IS OF BULK AT MOST 1048576: true; the input reads as it did. -/
def mirrorTellsUptoRow : OpenClaim := { program := "ytljcohjafcjgdaa", sum := "ef4b23d7fd0b4a8c957e54a8bdf9377fd90fc81f7008e379842b563412e1d885", func := "naskh/naskhlaw32.MirrorTells", spec := "mirrorTells", unfollowed := true, recurses := true, apart := false, narrowed := true }
def MirrorTellsUptoSaid : Prop := mirrorTellsUptoRow.holds Try.pinned (OpenSpec.upto mirrorTellsSpec)

/-- 'naskhlaw32.MirrorBack', WHERE WHAT IT READS IS OF BULK AT MOST 1048576: true; the input reads as it did. -/
def mirrorBackUptoRow : OpenClaim := { program := "ytljcohjafcjgdaa", sum := "ef4b23d7fd0b4a8c957e54a8bdf9377fd90fc81f7008e379842b563412e1d885", func := "naskh/naskhlaw32.MirrorBack", spec := "mirrorBack", unfollowed := true, recurses := true, apart := false, narrowed := true }
def MirrorBackUptoSaid : Prop := mirrorBackUptoRow.holds Try.pinned (OpenSpec.upto mirrorBackSpec)

/-- 'naskhlaw06.TrieAgain', WHERE WHAT IT READS IS OF BULK AT MOST 1048576: true; the input reads as it did. -/
def trieAgainUptoRow : OpenClaim := { program := "ytljcohjafcjgdaa", sum := "ef4b23d7fd0b4a8c957e54a8bdf9377fd90fc81f7008e379842b563412e1d885", func := "naskh/naskhlaw06.TrieAgain", spec := "trieAgain", unfollowed := true, recurses := true, apart := false, narrowed := true }
def TrieAgainUptoSaid : Prop := trieAgainUptoRow.holds Try.pinned (OpenSpec.upto trieAgainSpec)

/-- 'naskhlaw06.TrieNobody', WHERE WHAT IT READS IS OF BULK AT MOST 1048576: true; the input reads as it did. -/
def trieNobodyUptoRow : OpenClaim := { program := "ytljcohjafcjgdaa", sum := "ef4b23d7fd0b4a8c957e54a8bdf9377fd90fc81f7008e379842b563412e1d885", func := "naskh/naskhlaw06.TrieNobody", spec := "trieNobody", unfollowed := true, recurses := true, apart := false, narrowed := true }
def TrieNobodyUptoSaid : Prop := trieNobodyUptoRow.holds Try.pinned (OpenSpec.upto trieNobodySpec)

/-- 'naskhlaw06.TrieRanges', WHERE WHAT IT READS IS OF BULK AT MOST 1048576: true; the input reads as it did. -/
def trieRangesUptoRow : OpenClaim := { program := "ytljcohjafcjgdaa", sum := "ef4b23d7fd0b4a8c957e54a8bdf9377fd90fc81f7008e379842b563412e1d885", func := "naskh/naskhlaw06.TrieRanges", spec := "trieRanges", unfollowed := true, recurses := true, apart := false, narrowed := true }
def TrieRangesUptoSaid : Prop := trieRangesUptoRow.holds Try.pinned (OpenSpec.upto trieRangesSpec)

end Rows
end Go.Proofs.Ytljcohjafcjgdaa
