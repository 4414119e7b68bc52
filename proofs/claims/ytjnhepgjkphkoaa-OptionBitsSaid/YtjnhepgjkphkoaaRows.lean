/-
  No cell of these rows narrows 'for every input' (looked for: loops, veiled, ifaces, maps, wideKeys, modest, calm, conditions, laid).
  DERIVED. THE GIVEN ROWS OF THIS SEAT. 11 by the template 'for every input the law returns true; each argument reads behind the call as it read before'; 0 by the template 'total and deterministic' (their statements: YtjnhepgjkphkoaaTotals.lean).
  GIVEN WITH THE SEED: the statements are not yours to turn. If you find one false, say at which input.
  Laid BY PROGRAM, IN A SANDBOX (cutbox-rows.mjs): the forced cells as the released guide's own fill.sh prints them over the translation dd3abb79d8cd58bd… (all of the seat's roots in one cut). By AI agents, Wed Nov 11 2026. No macro, syntax, notation, axiom, sorry.
-/
import Derived.Test.YtjnhepgjkphkoaaChecked
import GoSem.Claim
import GoSem.ClaimJoined
import GoSem.ClaimMapViews
import Derived.JoinedTies
import Derived.KernelRfl
namespace Go.Proofs.Ytjnhepgjkphkoaa
/- THE CELL 'sum', in the pinned program and in every row, IS THE sha256 OF THE DUMP (.gsa) THAT YtjnhepgjkphkoaaProg.lean LOADS. Nothing in Lean hashes anything: it is a label: what it is worth is what the hold of that sum in a sandbox is worth. -/
noncomputable def Try.pinned : Pinned := { name := "ytjnhepgjkphkoaa", sum := "dd3abb79d8cd58bd3f017b5b294bb378bb84d12601d3b860661b3a0a1cb2908d", checked := Try.checked }
namespace Rows
def none {H : Type} : Left H := { results := [], args := [] }

/-- 'naskhlaw10.OptionChecks': WHATEVER THE INPUT: true; the input reads as it did. -/
def optionChecksSpec : ChangeSpec := { name := "optionChecks", fn := fun _ => fun
  | [d1, d2] => { results := [.lit (.bool true)], args := [d1, d2] }
  | _ => none }
def optionChecksRow : OpenClaim := { program := "ytjnhepgjkphkoaa", sum := "dd3abb79d8cd58bd3f017b5b294bb378bb84d12601d3b860661b3a0a1cb2908d", func := "naskh/naskhlaw10.OptionChecks", spec := "optionChecks", apart := false }
def OptionChecksSaid : Prop := optionChecksRow.holds Try.pinned (OpenSpec.ofChange optionChecksSpec)

/-- ITS FALSE NEIGHBOUR: 'it returns false'. Refute it at one input. -/
def optionChecksWrong : ChangeSpec := { name := "optionChecks", fn := fun _ => fun
  | [d1, d2] => { results := [.lit (.bool false)], args := [d1, d2] }
  | _ => none }
def OptionChecksWrongFalsely : Prop := optionChecksRow.holds Try.pinned (OpenSpec.ofChange optionChecksWrong)

/-- 'naskhlaw30.RunsParts': WHATEVER THE INPUT: true; the input reads as it did. -/
def runsPartsSpec : ChangeSpec := { name := "runsParts", fn := fun _ => fun
  | [d] => { results := [.lit (.bool true)], args := [d] }
  | _ => none }
def runsPartsRow : OpenClaim := { program := "ytjnhepgjkphkoaa", sum := "dd3abb79d8cd58bd3f017b5b294bb378bb84d12601d3b860661b3a0a1cb2908d", func := "naskh/naskhlaw30.RunsParts", spec := "runsParts", apart := false }
def RunsPartsSaid : Prop := runsPartsRow.holds Try.pinned (OpenSpec.ofChange runsPartsSpec)

/-- ITS FALSE NEIGHBOUR: 'it returns false'. Refute it at one input. -/
def runsPartsWrong : ChangeSpec := { name := "runsParts", fn := fun _ => fun
  | [d] => { results := [.lit (.bool false)], args := [d] }
  | _ => none }
def RunsPartsWrongFalsely : Prop := runsPartsRow.holds Try.pinned (OpenSpec.ofChange runsPartsWrong)

/-- 'naskhlaw01.WideOne': WHATEVER THE INPUT: true; the input reads as it did. -/
def wideOneSpec : ChangeSpec := { name := "wideOne", fn := fun _ => fun
  | [d] => { results := [.lit (.bool true)], args := [d] }
  | _ => none }
def wideOneRow : OpenClaim := { program := "ytjnhepgjkphkoaa", sum := "dd3abb79d8cd58bd3f017b5b294bb378bb84d12601d3b860661b3a0a1cb2908d", func := "naskh/naskhlaw01.WideOne", spec := "wideOne", apart := false }
def WideOneSaid : Prop := wideOneRow.holds Try.pinned (OpenSpec.ofChange wideOneSpec)

/-- ITS FALSE NEIGHBOUR: 'it returns false'. Refute it at one input. -/
def wideOneWrong : ChangeSpec := { name := "wideOne", fn := fun _ => fun
  | [d] => { results := [.lit (.bool false)], args := [d] }
  | _ => none }
def WideOneWrongFalsely : Prop := wideOneRow.holds Try.pinned (OpenSpec.ofChange wideOneWrong)

/-- 'naskhlaw01.WideReads': WHATEVER THE INPUT: true; the input reads as it did. -/
def wideReadsSpec : ChangeSpec := { name := "wideReads", fn := fun _ => fun
  | [d] => { results := [.lit (.bool true)], args := [d] }
  | _ => none }
def wideReadsRow : OpenClaim := { program := "ytjnhepgjkphkoaa", sum := "dd3abb79d8cd58bd3f017b5b294bb378bb84d12601d3b860661b3a0a1cb2908d", func := "naskh/naskhlaw01.WideReads", spec := "wideReads", apart := false }
def WideReadsSaid : Prop := wideReadsRow.holds Try.pinned (OpenSpec.ofChange wideReadsSpec)

/-- ITS FALSE NEIGHBOUR: 'it returns false'. Refute it at one input. -/
def wideReadsWrong : ChangeSpec := { name := "wideReads", fn := fun _ => fun
  | [d] => { results := [.lit (.bool false)], args := [d] }
  | _ => none }
def WideReadsWrongFalsely : Prop := wideReadsRow.holds Try.pinned (OpenSpec.ofChange wideReadsWrong)

/-- 'naskhlaw01.WideParts': WHATEVER THE INPUT: true; the input reads as it did. -/
def widePartsSpec : ChangeSpec := { name := "wideParts", fn := fun _ => fun
  | [d1, d2] => { results := [.lit (.bool true)], args := [d1, d2] }
  | _ => none }
def widePartsRow : OpenClaim := { program := "ytjnhepgjkphkoaa", sum := "dd3abb79d8cd58bd3f017b5b294bb378bb84d12601d3b860661b3a0a1cb2908d", func := "naskh/naskhlaw01.WideParts", spec := "wideParts", apart := false }
def WidePartsSaid : Prop := widePartsRow.holds Try.pinned (OpenSpec.ofChange widePartsSpec)

/-- ITS FALSE NEIGHBOUR: 'it returns false'. Refute it at one input. -/
def widePartsWrong : ChangeSpec := { name := "wideParts", fn := fun _ => fun
  | [d1, d2] => { results := [.lit (.bool false)], args := [d1, d2] }
  | _ => none }
def WidePartsWrongFalsely : Prop := widePartsRow.holds Try.pinned (OpenSpec.ofChange widePartsWrong)

/-- 'naskhlaw30.RunsTell': WHATEVER THE INPUT: true; the input reads as it did. -/
def runsTellSpec : ChangeSpec := { name := "runsTell", fn := fun _ => fun
  | [d] => { results := [.lit (.bool true)], args := [d] }
  | _ => none }
def runsTellRow : OpenClaim := { program := "ytjnhepgjkphkoaa", sum := "dd3abb79d8cd58bd3f017b5b294bb378bb84d12601d3b860661b3a0a1cb2908d", func := "naskh/naskhlaw30.RunsTell", spec := "runsTell", apart := false }
def RunsTellSaid : Prop := runsTellRow.holds Try.pinned (OpenSpec.ofChange runsTellSpec)

/-- ITS FALSE NEIGHBOUR: 'it returns false'. Refute it at one input. -/
def runsTellWrong : ChangeSpec := { name := "runsTell", fn := fun _ => fun
  | [d] => { results := [.lit (.bool false)], args := [d] }
  | _ => none }
def RunsTellWrongFalsely : Prop := runsTellRow.holds Try.pinned (OpenSpec.ofChange runsTellWrong)

/-- 'naskhlaw10.OptionBits': WHATEVER THE INPUT: true; the input reads as it did. -/
def optionBitsSpec : ChangeSpec := { name := "optionBits", fn := fun _ => fun
  | [d1, d2] => { results := [.lit (.bool true)], args := [d1, d2] }
  | _ => none }
def optionBitsRow : OpenClaim := { program := "ytjnhepgjkphkoaa", sum := "dd3abb79d8cd58bd3f017b5b294bb378bb84d12601d3b860661b3a0a1cb2908d", func := "naskh/naskhlaw10.OptionBits", spec := "optionBits", apart := false }
def OptionBitsSaid : Prop := optionBitsRow.holds Try.pinned (OpenSpec.ofChange optionBitsSpec)

/-- ITS FALSE NEIGHBOUR: 'it returns false'. Refute it at one input. -/
def optionBitsWrong : ChangeSpec := { name := "optionBits", fn := fun _ => fun
  | [d1, d2] => { results := [.lit (.bool false)], args := [d1, d2] }
  | _ => none }
def OptionBitsWrongFalsely : Prop := optionBitsRow.holds Try.pinned (OpenSpec.ofChange optionBitsWrong)

/-- 'naskhlaw10.OptionBack': WHATEVER THE INPUT: true; the input reads as it did. -/
def optionBackSpec : ChangeSpec := { name := "optionBack", fn := fun _ => fun
  | [d1, d2] => { results := [.lit (.bool true)], args := [d1, d2] }
  | _ => none }
def optionBackRow : OpenClaim := { program := "ytjnhepgjkphkoaa", sum := "dd3abb79d8cd58bd3f017b5b294bb378bb84d12601d3b860661b3a0a1cb2908d", func := "naskh/naskhlaw10.OptionBack", spec := "optionBack", apart := false }
def OptionBackSaid : Prop := optionBackRow.holds Try.pinned (OpenSpec.ofChange optionBackSpec)

/-- ITS FALSE NEIGHBOUR: 'it returns false'. Refute it at one input. -/
def optionBackWrong : ChangeSpec := { name := "optionBack", fn := fun _ => fun
  | [d1, d2] => { results := [.lit (.bool false)], args := [d1, d2] }
  | _ => none }
def OptionBackWrongFalsely : Prop := optionBackRow.holds Try.pinned (OpenSpec.ofChange optionBackWrong)

/-- 'naskhlaw01.WideWrites': WHATEVER THE INPUT: true; the input reads as it did. -/
def wideWritesSpec : ChangeSpec := { name := "wideWrites", fn := fun _ => fun
  | [d] => { results := [.lit (.bool true)], args := [d] }
  | _ => none }
def wideWritesRow : OpenClaim := { program := "ytjnhepgjkphkoaa", sum := "dd3abb79d8cd58bd3f017b5b294bb378bb84d12601d3b860661b3a0a1cb2908d", func := "naskh/naskhlaw01.WideWrites", spec := "wideWrites", unfollowed := true, recurses := true, apart := false }
def WideWritesSaid : Prop := wideWritesRow.holds Try.pinned (OpenSpec.ofChange wideWritesSpec)

/-- ITS FALSE NEIGHBOUR: 'it returns false'. Refute it at one input. -/
def wideWritesWrong : ChangeSpec := { name := "wideWrites", fn := fun _ => fun
  | [d] => { results := [.lit (.bool false)], args := [d] }
  | _ => none }
def WideWritesWrongFalsely : Prop := wideWritesRow.holds Try.pinned (OpenSpec.ofChange wideWritesWrong)

/-- 'naskhlaw01.WideBack': WHATEVER THE INPUT: true; the input reads as it did. -/
def wideBackSpec : ChangeSpec := { name := "wideBack", fn := fun _ => fun
  | [d] => { results := [.lit (.bool true)], args := [d] }
  | _ => none }
def wideBackRow : OpenClaim := { program := "ytjnhepgjkphkoaa", sum := "dd3abb79d8cd58bd3f017b5b294bb378bb84d12601d3b860661b3a0a1cb2908d", func := "naskh/naskhlaw01.WideBack", spec := "wideBack", unfollowed := true, recurses := true, apart := false }
def WideBackSaid : Prop := wideBackRow.holds Try.pinned (OpenSpec.ofChange wideBackSpec)

/-- ITS FALSE NEIGHBOUR: 'it returns false'. Refute it at one input. -/
def wideBackWrong : ChangeSpec := { name := "wideBack", fn := fun _ => fun
  | [d] => { results := [.lit (.bool false)], args := [d] }
  | _ => none }
def WideBackWrongFalsely : Prop := wideBackRow.holds Try.pinned (OpenSpec.ofChange wideBackWrong)

/-- 'naskhlaw30.RunsOrder': WHATEVER THE INPUT: true; the input reads as it did. -/
def runsOrderSpec : ChangeSpec := { name := "runsOrder", fn := fun _ => fun
  | [d1, d2] => { results := [.lit (.bool true)], args := [d1, d2] }
  | _ => none }
def runsOrderRow : OpenClaim := { program := "ytjnhepgjkphkoaa", sum := "dd3abb79d8cd58bd3f017b5b294bb378bb84d12601d3b860661b3a0a1cb2908d", func := "naskh/naskhlaw30.RunsOrder", spec := "runsOrder", apart := false }
def RunsOrderSaid : Prop := runsOrderRow.holds Try.pinned (OpenSpec.ofChange runsOrderSpec)

/-- ITS FALSE NEIGHBOUR: 'it returns false'. Refute it at one input. -/
def runsOrderWrong : ChangeSpec := { name := "runsOrder", fn := fun _ => fun
  | [d1, d2] => { results := [.lit (.bool false)], args := [d1, d2] }
  | _ => none }
def RunsOrderWrongFalsely : Prop := runsOrderRow.holds Try.pinned (OpenSpec.ofChange runsOrderWrong)

/- THE SECOND FORM. 'bulk': how many values and letters a reading holds, each counted each time it is reached (what is shared counts as often as it is met; a slice's spare places count too). A statement '..UptoSaid' is the law's where the arguments, and the package variables that the reading takes, are together of bulk at most 1048576: NARROWER than '..Said'. Prove '..Said' where nothing that the law and all that it calls make is longer than what came in: it says more and counts as full. Else prove '..UptoSaid'. A law counts once. -/
mutual
def uptoBulk {H : Type} : DataW H → Nat
  | .lit (.string bytes) => bytes.length + 1
  | .lit _ => 1
  | .nil => 1
  | .ptr d => uptoBulk d + 1
  | .slice elems spare => uptoBulkAll elems + uptoBulkAll spare + 1
  | .agg parts => uptoBulkAll parts + 1
  | .iface _ d => uptoBulk d + 1
  | .map entries => uptoBulkEntries entries + 1
  | .held _ => 1
def uptoBulkAll {H : Type} : List (DataW H) → Nat
  | [] => 0
  | d :: r => uptoBulk d + uptoBulkAll r
def uptoBulkEntries {H : Type} : List (Lit × DataW H) → Nat
  | [] => 0
  | x :: r => uptoBulkEntry x + uptoBulkEntries r
def uptoBulkEntry {H : Type} : Lit × DataW H → Nat
  | (.string bytes, d) => bytes.length + uptoBulk d + 1
  | (_, d) => uptoBulk d + 1
 end
def uptoSmall : (H : Type) → List (DataW H) → Bool := fun _ ds => decide (uptoBulkAll ds ≤ 1048576)
def OpenSpec.upto (s : _root_.Go.ChangeSpec) : _root_.Go.OpenSpec := { _root_.Go.OpenSpec.ofChange s with cond := some uptoSmall }

/-- 'naskhlaw10.OptionChecks', WHERE WHAT IT READS IS OF BULK AT MOST 1048576: true; the input reads as it did. -/
def optionChecksUptoRow : OpenClaim := { program := "ytjnhepgjkphkoaa", sum := "dd3abb79d8cd58bd3f017b5b294bb378bb84d12601d3b860661b3a0a1cb2908d", func := "naskh/naskhlaw10.OptionChecks", spec := "optionChecks", apart := false, narrowed := true }
def OptionChecksUptoSaid : Prop := optionChecksUptoRow.holds Try.pinned (OpenSpec.upto optionChecksSpec)

/-- 'naskhlaw30.RunsParts', WHERE WHAT IT READS IS OF BULK AT MOST 1048576: true; the input reads as it did. -/
def runsPartsUptoRow : OpenClaim := { program := "ytjnhepgjkphkoaa", sum := "dd3abb79d8cd58bd3f017b5b294bb378bb84d12601d3b860661b3a0a1cb2908d", func := "naskh/naskhlaw30.RunsParts", spec := "runsParts", apart := false, narrowed := true }
def RunsPartsUptoSaid : Prop := runsPartsUptoRow.holds Try.pinned (OpenSpec.upto runsPartsSpec)

/-- 'naskhlaw01.WideOne', WHERE WHAT IT READS IS OF BULK AT MOST 1048576: true; the input reads as it did. -/
def wideOneUptoRow : OpenClaim := { program := "ytjnhepgjkphkoaa", sum := "dd3abb79d8cd58bd3f017b5b294bb378bb84d12601d3b860661b3a0a1cb2908d", func := "naskh/naskhlaw01.WideOne", spec := "wideOne", apart := false, narrowed := true }
def WideOneUptoSaid : Prop := wideOneUptoRow.holds Try.pinned (OpenSpec.upto wideOneSpec)

/-- 'naskhlaw01.WideReads', WHERE WHAT IT READS IS OF BULK AT MOST 1048576: true; the input reads as it did. -/
def wideReadsUptoRow : OpenClaim := { program := "ytjnhepgjkphkoaa", sum := "dd3abb79d8cd58bd3f017b5b294bb378bb84d12601d3b860661b3a0a1cb2908d", func := "naskh/naskhlaw01.WideReads", spec := "wideReads", apart := false, narrowed := true }
def WideReadsUptoSaid : Prop := wideReadsUptoRow.holds Try.pinned (OpenSpec.upto wideReadsSpec)

/-- 'naskhlaw01.WideParts', WHERE WHAT IT READS IS OF BULK AT MOST 1048576: true; the input reads as it did. -/
def widePartsUptoRow : OpenClaim := { program := "ytjnhepgjkphkoaa", sum := "dd3abb79d8cd58bd3f017b5b294bb378bb84d12601d3b860661b3a0a1cb2908d", func := "naskh/naskhlaw01.WideParts", spec := "wideParts", apart := false, narrowed := true }
def WidePartsUptoSaid : Prop := widePartsUptoRow.holds Try.pinned (OpenSpec.upto widePartsSpec)

/-- 'naskhlaw30.RunsTell', WHERE WHAT IT READS IS OF BULK AT MOST 1048576: true; the input reads as it did. -/
def runsTellUptoRow : OpenClaim := { program := "ytjnhepgjkphkoaa", sum := "dd3abb79d8cd58bd3f017b5b294bb378bb84d12601d3b860661b3a0a1cb2908d", func := "naskh/naskhlaw30.RunsTell", spec := "runsTell", apart := false, narrowed := true }
def RunsTellUptoSaid : Prop := runsTellUptoRow.holds Try.pinned (OpenSpec.upto runsTellSpec)

/-- 'naskhlaw10.OptionBits', WHERE WHAT IT READS IS OF BULK AT MOST 1048576: true; the input reads as it did. -/
def optionBitsUptoRow : OpenClaim := { program := "ytjnhepgjkphkoaa", sum := "dd3abb79d8cd58bd3f017b5b294bb378bb84d12601d3b860661b3a0a1cb2908d", func := "naskh/naskhlaw10.OptionBits", spec := "optionBits", apart := false, narrowed := true }
def OptionBitsUptoSaid : Prop := optionBitsUptoRow.holds Try.pinned (OpenSpec.upto optionBitsSpec)

/-- 'naskhlaw10.OptionBack', WHERE WHAT IT READS IS OF BULK AT MOST 1048576: true; the input reads as it did. -/
def optionBackUptoRow : OpenClaim := { program := "ytjnhepgjkphkoaa", sum := "dd3abb79d8cd58bd3f017b5b294bb378bb84d12601d3b860661b3a0a1cb2908d", func := "naskh/naskhlaw10.OptionBack", spec := "optionBack", apart := false, narrowed := true }
def OptionBackUptoSaid : Prop := optionBackUptoRow.holds Try.pinned (OpenSpec.upto optionBackSpec)

/-- 'naskhlaw01.WideWrites', WHERE WHAT IT READS IS OF BULK AT MOST 1048576: true; the input reads as it did. -/
def wideWritesUptoRow : OpenClaim := { program := "ytjnhepgjkphkoaa", sum := "dd3abb79d8cd58bd3f017b5b294bb378bb84d12601d3b860661b3a0a1cb2908d", func := "naskh/naskhlaw01.WideWrites", spec := "wideWrites", unfollowed := true, recurses := true, apart := false, narrowed := true }
def WideWritesUptoSaid : Prop := wideWritesUptoRow.holds Try.pinned (OpenSpec.upto wideWritesSpec)

/-- 'naskhlaw01.WideBack', WHERE WHAT IT READS IS OF BULK AT MOST 1048576: true; the input reads as it did. -/
def wideBackUptoRow : OpenClaim := { program := "ytjnhepgjkphkoaa", sum := "dd3abb79d8cd58bd3f017b5b294bb378bb84d12601d3b860661b3a0a1cb2908d", func := "naskh/naskhlaw01.WideBack", spec := "wideBack", unfollowed := true, recurses := true, apart := false, narrowed := true }
def WideBackUptoSaid : Prop := wideBackUptoRow.holds Try.pinned (OpenSpec.upto wideBackSpec)

/-- 'naskhlaw30.RunsOrder', WHERE WHAT IT READS IS OF BULK AT MOST 1048576: true; the input reads as it did. -/
def runsOrderUptoRow : OpenClaim := { program := "ytjnhepgjkphkoaa", sum := "dd3abb79d8cd58bd3f017b5b294bb378bb84d12601d3b860661b3a0a1cb2908d", func := "naskh/naskhlaw30.RunsOrder", spec := "runsOrder", apart := false, narrowed := true }
def RunsOrderUptoSaid : Prop := runsOrderUptoRow.holds Try.pinned (OpenSpec.upto runsOrderSpec)

end Rows
end Go.Proofs.Ytjnhepgjkphkoaa
