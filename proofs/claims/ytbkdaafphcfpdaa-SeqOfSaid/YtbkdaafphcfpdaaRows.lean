/-
  No cell of these rows narrows 'for every input' (looked for: loops, veiled, ifaces, maps, wideKeys, modest, calm, conditions, laid).
  DERIVED. THE GIVEN ROWS OF THIS SEAT. 7 by the template 'for every input the law returns true; each argument reads behind the call as it read before'; 0 by the template 'total and deterministic' (their statements: YtbkdaafphcfpdaaTotals.lean).
  GIVEN WITH THE SEED: the statements are not yours to turn. If you find one false, say at which input.
  Laid BY PROGRAM, IN A SANDBOX (cutbox-rows.mjs): the forced cells as the released guide's own fill.sh prints them over the translation cd49aa79fb8f4d25… (all of the seat's roots in one cut). By AI agents, Wed Nov 11 2026. No macro, syntax, notation, axiom, sorry.
-/
import Derived.Test.YtbkdaafphcfpdaaChecked
import GoSem.Claim
import GoSem.ClaimJoined
import GoSem.ClaimMapViews
import Derived.JoinedTies
import Derived.KernelRfl
namespace Go.Proofs.Ytbkdaafphcfpdaa
/- THE CELL 'sum', in the pinned program and in every row, IS THE sha256 OF THE DUMP (.gsa) THAT YtbkdaafphcfpdaaProg.lean LOADS. Nothing in Lean hashes anything: it is a label: what it is worth is what the hold of that sum in a sandbox is worth. -/
noncomputable def Try.pinned : Pinned := { name := "ytbkdaafphcfpdaa", sum := "cd49aa79fb8f4d2551e99b4f08ee7067d6a3dd991a35f7da3b1b9e633b653485", checked := Try.checked }
namespace Rows
def none {H : Type} : Left H := { results := [], args := [] }

/-- 'naskhlaw23.SeqOf': WHATEVER THE INPUT: true; the input reads as it did. -/
def seqOfSpec : ChangeSpec := { name := "seqOf", fn := fun _ => fun
  | [d1, d2] => { results := [.lit (.bool true)], args := [d1, d2] }
  | _ => none }
def seqOfRow : OpenClaim := { program := "ytbkdaafphcfpdaa", sum := "cd49aa79fb8f4d2551e99b4f08ee7067d6a3dd991a35f7da3b1b9e633b653485", func := "naskh/naskhlaw23.SeqOf", spec := "seqOf", apart := false }
def SeqOfSaid : Prop := seqOfRow.holds Try.pinned (OpenSpec.ofChange seqOfSpec)

/-- ITS FALSE NEIGHBOUR: 'it returns false'. Refute it at one input. -/
def seqOfWrong : ChangeSpec := { name := "seqOf", fn := fun _ => fun
  | [d1, d2] => { results := [.lit (.bool false)], args := [d1, d2] }
  | _ => none }
def SeqOfWrongFalsely : Prop := seqOfRow.holds Try.pinned (OpenSpec.ofChange seqOfWrong)

/-- 'naskhlaw23.SeqTells': WHATEVER THE INPUT: true; the input reads as it did. -/
def seqTellsSpec : ChangeSpec := { name := "seqTells", fn := fun _ => fun
  | [d1, d2, d3, d4] => { results := [.lit (.bool true)], args := [d1, d2, d3, d4] }
  | _ => none }
def seqTellsRow : OpenClaim := { program := "ytbkdaafphcfpdaa", sum := "cd49aa79fb8f4d2551e99b4f08ee7067d6a3dd991a35f7da3b1b9e633b653485", func := "naskh/naskhlaw23.SeqTells", spec := "seqTells", unfollowed := true, recurses := true, apart := false }
def SeqTellsSaid : Prop := seqTellsRow.holds Try.pinned (OpenSpec.ofChange seqTellsSpec)

/-- ITS FALSE NEIGHBOUR: 'it returns false'. Refute it at one input. -/
def seqTellsWrong : ChangeSpec := { name := "seqTells", fn := fun _ => fun
  | [d1, d2, d3, d4] => { results := [.lit (.bool false)], args := [d1, d2, d3, d4] }
  | _ => none }
def SeqTellsWrongFalsely : Prop := seqTellsRow.holds Try.pinned (OpenSpec.ofChange seqTellsWrong)

/-- 'naskhlaw22.ExplicitLevels': WHATEVER THE INPUT: true; the input reads as it did. -/
def explicitLevelsSpec : ChangeSpec := { name := "explicitLevels", fn := fun _ => fun
  | [d1, d2] => { results := [.lit (.bool true)], args := [d1, d2] }
  | _ => none }
def explicitLevelsRow : OpenClaim := { program := "ytbkdaafphcfpdaa", sum := "cd49aa79fb8f4d2551e99b4f08ee7067d6a3dd991a35f7da3b1b9e633b653485", func := "naskh/naskhlaw22.ExplicitLevels", spec := "explicitLevels", apart := false }
def ExplicitLevelsSaid : Prop := explicitLevelsRow.holds Try.pinned (OpenSpec.ofChange explicitLevelsSpec)

/-- ITS FALSE NEIGHBOUR: 'it returns false'. Refute it at one input. -/
def explicitLevelsWrong : ChangeSpec := { name := "explicitLevels", fn := fun _ => fun
  | [d1, d2] => { results := [.lit (.bool false)], args := [d1, d2] }
  | _ => none }
def ExplicitLevelsWrongFalsely : Prop := explicitLevelsRow.holds Try.pinned (OpenSpec.ofChange explicitLevelsWrong)

/-- 'naskhlaw22.ExplicitBounds': WHATEVER THE INPUT: true; the input reads as it did. -/
def explicitBoundsSpec : ChangeSpec := { name := "explicitBounds", fn := fun _ => fun
  | [d1, d2] => { results := [.lit (.bool true)], args := [d1, d2] }
  | _ => none }
def explicitBoundsRow : OpenClaim := { program := "ytbkdaafphcfpdaa", sum := "cd49aa79fb8f4d2551e99b4f08ee7067d6a3dd991a35f7da3b1b9e633b653485", func := "naskh/naskhlaw22.ExplicitBounds", spec := "explicitBounds", apart := false }
def ExplicitBoundsSaid : Prop := explicitBoundsRow.holds Try.pinned (OpenSpec.ofChange explicitBoundsSpec)

/-- ITS FALSE NEIGHBOUR: 'it returns false'. Refute it at one input. -/
def explicitBoundsWrong : ChangeSpec := { name := "explicitBounds", fn := fun _ => fun
  | [d1, d2] => { results := [.lit (.bool false)], args := [d1, d2] }
  | _ => none }
def ExplicitBoundsWrongFalsely : Prop := explicitBoundsRow.holds Try.pinned (OpenSpec.ofChange explicitBoundsWrong)

/-- 'naskhlaw22.ExplicitDeep': WHATEVER THE INPUT: true; the input reads as it did. -/
def explicitDeepSpec : ChangeSpec := { name := "explicitDeep", fn := fun _ => fun
  | [d1, d2] => { results := [.lit (.bool true)], args := [d1, d2] }
  | _ => none }
def explicitDeepRow : OpenClaim := { program := "ytbkdaafphcfpdaa", sum := "cd49aa79fb8f4d2551e99b4f08ee7067d6a3dd991a35f7da3b1b9e633b653485", func := "naskh/naskhlaw22.ExplicitDeep", spec := "explicitDeep", apart := false }
def ExplicitDeepSaid : Prop := explicitDeepRow.holds Try.pinned (OpenSpec.ofChange explicitDeepSpec)

/-- ITS FALSE NEIGHBOUR: 'it returns false'. Refute it at one input. -/
def explicitDeepWrong : ChangeSpec := { name := "explicitDeep", fn := fun _ => fun
  | [d1, d2] => { results := [.lit (.bool false)], args := [d1, d2] }
  | _ => none }
def ExplicitDeepWrongFalsely : Prop := explicitDeepRow.holds Try.pinned (OpenSpec.ofChange explicitDeepWrong)

/-- 'naskhlaw22.ExplicitPlain': WHATEVER THE INPUT: true; the input reads as it did. -/
def explicitPlainSpec : ChangeSpec := { name := "explicitPlain", fn := fun _ => fun
  | [d1, d2] => { results := [.lit (.bool true)], args := [d1, d2] }
  | _ => none }
def explicitPlainRow : OpenClaim := { program := "ytbkdaafphcfpdaa", sum := "cd49aa79fb8f4d2551e99b4f08ee7067d6a3dd991a35f7da3b1b9e633b653485", func := "naskh/naskhlaw22.ExplicitPlain", spec := "explicitPlain", unfollowed := true, recurses := true, apart := false }
def ExplicitPlainSaid : Prop := explicitPlainRow.holds Try.pinned (OpenSpec.ofChange explicitPlainSpec)

/-- ITS FALSE NEIGHBOUR: 'it returns false'. Refute it at one input. -/
def explicitPlainWrong : ChangeSpec := { name := "explicitPlain", fn := fun _ => fun
  | [d1, d2] => { results := [.lit (.bool false)], args := [d1, d2] }
  | _ => none }
def ExplicitPlainWrongFalsely : Prop := explicitPlainRow.holds Try.pinned (OpenSpec.ofChange explicitPlainWrong)

/-- 'naskhlaw23.SeqOnce': WHATEVER THE INPUT: true; the input reads as it did. -/
def seqOnceSpec : ChangeSpec := { name := "seqOnce", fn := fun _ => fun
  | [d1, d2] => { results := [.lit (.bool true)], args := [d1, d2] }
  | _ => none }
def seqOnceRow : OpenClaim := { program := "ytbkdaafphcfpdaa", sum := "cd49aa79fb8f4d2551e99b4f08ee7067d6a3dd991a35f7da3b1b9e633b653485", func := "naskh/naskhlaw23.SeqOnce", spec := "seqOnce", apart := false }
def SeqOnceSaid : Prop := seqOnceRow.holds Try.pinned (OpenSpec.ofChange seqOnceSpec)

/-- ITS FALSE NEIGHBOUR: 'it returns false'. Refute it at one input. -/
def seqOnceWrong : ChangeSpec := { name := "seqOnce", fn := fun _ => fun
  | [d1, d2] => { results := [.lit (.bool false)], args := [d1, d2] }
  | _ => none }
def SeqOnceWrongFalsely : Prop := seqOnceRow.holds Try.pinned (OpenSpec.ofChange seqOnceWrong)

/- THE SECOND FORM. 'bulk': how many values and letters a reading holds, each counted each time it is reached (what is shared counts as often as it is met; a slice's spare places count too). A statement '..UptoSaid' is the law's where the arguments, and the package variables that the reading takes, are together of bulk at most 1048576: NARROWER than '..Said'. Prove '..Said' where nothing that the law and all that it calls make is longer than what came in: it says more and counts as full. Else prove '..UptoSaid'. A law counts once. -/
mutual
def uptoBulk {H : Type} : DataW H → Nat
  | .lit (.string bytes) => bytes.length + 1
  | .lit _ => 1
  | .nil => 1
  | .ptr d => uptoBulk d + 1
  | .slice elems spare => uptoBulkAll elems + uptoBulkAll spare + 1
  | .agg parts => uptoBulkAll parts + 1
  | .iface _ d => uptoBulk d + 1
  | .map entries => uptoBulkEntries entries + 1
  | .held _ => 1
def uptoBulkAll {H : Type} : List (DataW H) → Nat
  | [] => 0
  | d :: r => uptoBulk d + uptoBulkAll r
def uptoBulkEntries {H : Type} : List (Lit × DataW H) → Nat
  | [] => 0
  | x :: r => uptoBulkEntry x + uptoBulkEntries r
def uptoBulkEntry {H : Type} : Lit × DataW H → Nat
  | (.string bytes, d) => bytes.length + uptoBulk d + 1
  | (_, d) => uptoBulk d + 1
 end
def uptoSmall : (H : Type) → List (DataW H) → Bool := fun _ ds => decide (uptoBulkAll ds ≤ 1048576)
def OpenSpec.upto (s : _root_.Go.ChangeSpec) : _root_.Go.OpenSpec := { _root_.Go.OpenSpec.ofChange s with cond := some uptoSmall }

/-- 'naskhlaw23.SeqOf', WHERE WHAT IT READS IS OF BULK AT MOST 1048576: true; the input reads as it did. -/
def seqOfUptoRow : OpenClaim := { program := "ytbkdaafphcfpdaa", sum := "cd49aa79fb8f4d2551e99b4f08ee7067d6a3dd991a35f7da3b1b9e633b653485", func := "naskh/naskhlaw23.SeqOf", spec := "seqOf", apart := false, narrowed := true }
def SeqOfUptoSaid : Prop := seqOfUptoRow.holds Try.pinned (OpenSpec.upto seqOfSpec)

/-- 'naskhlaw23.SeqTells', WHERE WHAT IT READS IS OF BULK AT MOST 1048576: true; the input reads as it did. -/
def seqTellsUptoRow : OpenClaim := { program := "ytbkdaafphcfpdaa", sum := "cd49aa79fb8f4d2551e99b4f08ee7067d6a3dd991a35f7da3b1b9e633b653485", func := "naskh/naskhlaw23.SeqTells", spec := "seqTells", unfollowed := true, recurses := true, apart := false, narrowed := true }
def SeqTellsUptoSaid : Prop := seqTellsUptoRow.holds Try.pinned (OpenSpec.upto seqTellsSpec)

/-- 'naskhlaw22.ExplicitLevels', WHERE WHAT IT READS IS OF BULK AT MOST 1048576: true; the input reads as it did. -/
def explicitLevelsUptoRow : OpenClaim := { program := "ytbkdaafphcfpdaa", sum := "cd49aa79fb8f4d2551e99b4f08ee7067d6a3dd991a35f7da3b1b9e633b653485", func := "naskh/naskhlaw22.ExplicitLevels", spec := "explicitLevels", apart := false, narrowed := true }
def ExplicitLevelsUptoSaid : Prop := explicitLevelsUptoRow.holds Try.pinned (OpenSpec.upto explicitLevelsSpec)

/-- 'naskhlaw22.ExplicitBounds', WHERE WHAT IT READS IS OF BULK AT MOST 1048576: true; the input reads as it did. -/
def explicitBoundsUptoRow : OpenClaim := { program := "ytbkdaafphcfpdaa", sum := "cd49aa79fb8f4d2551e99b4f08ee7067d6a3dd991a35f7da3b1b9e633b653485", func := "naskh/naskhlaw22.ExplicitBounds", spec := "explicitBounds", apart := false, narrowed := true }
def ExplicitBoundsUptoSaid : Prop := explicitBoundsUptoRow.holds Try.pinned (OpenSpec.upto explicitBoundsSpec)

/-- 'naskhlaw22.ExplicitDeep', WHERE WHAT IT READS IS OF BULK AT MOST 1048576: true; the input reads as it did. -/
def explicitDeepUptoRow : OpenClaim := { program := "ytbkdaafphcfpdaa", sum := "cd49aa79fb8f4d2551e99b4f08ee7067d6a3dd991a35f7da3b1b9e633b653485", func := "naskh/naskhlaw22.ExplicitDeep", spec := "explicitDeep", apart := false, narrowed := true }
def ExplicitDeepUptoSaid : Prop := explicitDeepUptoRow.holds Try.pinned (OpenSpec.upto explicitDeepSpec)

/-- 'naskhlaw22.ExplicitPlain', WHERE WHAT IT READS IS OF BULK AT MOST 1048576: true; the input reads as it did. -/
def explicitPlainUptoRow : OpenClaim := { program := "ytbkdaafphcfpdaa", sum := "cd49aa79fb8f4d2551e99b4f08ee7067d6a3dd991a35f7da3b1b9e633b653485", func := "naskh/naskhlaw22.ExplicitPlain", spec := "explicitPlain", unfollowed := true, recurses := true, apart := false, narrowed := true }
def ExplicitPlainUptoSaid : Prop := explicitPlainUptoRow.holds Try.pinned (OpenSpec.upto explicitPlainSpec)

/-- 'naskhlaw23.SeqOnce', WHERE WHAT IT READS IS OF BULK AT MOST 1048576: true; the input reads as it did. -/
def seqOnceUptoRow : OpenClaim := { program := "ytbkdaafphcfpdaa", sum := "cd49aa79fb8f4d2551e99b4f08ee7067d6a3dd991a35f7da3b1b9e633b653485", func := "naskh/naskhlaw23.SeqOnce", spec := "seqOnce", apart := false, narrowed := true }
def SeqOnceUptoSaid : Prop := seqOnceUptoRow.holds Try.pinned (OpenSpec.upto seqOnceSpec)

end Rows
end Go.Proofs.Ytbkdaafphcfpdaa
