/-
  No cell of these rows narrows 'for every input' (looked for: loops, veiled, ifaces, maps, wideKeys, modest, calm, conditions, laid).
  DERIVED. THE GIVEN ROWS OF THIS SEAT. 12 by the template 'for every input the law returns true; each argument reads behind the call as it read before'; 0 by the template 'total and deterministic' (their statements: YtimkacnkmoofdaaTotals.lean).
  GIVEN WITH THE SEED: the statements are not yours to turn. If you find one false, say at which input.
  Laid BY PROGRAM, IN A SANDBOX (cutbox-rows.mjs): the forced cells as the released guide's own fill.sh prints them over the translation cc7c91b52fc0c814… (all of the seat's roots in one cut). By AI agents, Wed Nov 11 2026. No macro, syntax, notation, axiom, sorry.
-/
import Derived.Test.YtimkacnkmoofdaaChecked
import GoSem.Claim
import GoSem.ClaimJoined
import GoSem.ClaimMapViews
import Derived.JoinedTies
import Derived.KernelRfl
namespace Go.Proofs.Ytimkacnkmoofdaa
/- THE CELL 'sum', in the pinned program and in every row, IS THE sha256 OF THE DUMP (.gsa) THAT YtimkacnkmoofdaaProg.lean LOADS. Nothing in Lean hashes anything: it is a label: what it is worth is what the hold of that sum in a sandbox is worth. -/
noncomputable def Try.pinned : Pinned := { name := "ytimkacnkmoofdaa", sum := "cc7c91b52fc0c814c8f765b9298cfb95a95f013184149c2656b339f9b06a776b", checked := Try.checked }
namespace Rows
def none {H : Type} : Left H := { results := [], args := [] }

/-- 'naskhlaw21.StackRises': WHATEVER THE INPUT: true; the input reads as it did. -/
def stackRisesSpec : ChangeSpec := { name := "stackRises", fn := fun _ => fun
  | [d1, d2] => { results := [.lit (.bool true)], args := [d1, d2] }
  | _ => none }
def stackRisesRow : OpenClaim := { program := "ytimkacnkmoofdaa", sum := "cc7c91b52fc0c814c8f765b9298cfb95a95f013184149c2656b339f9b06a776b", func := "naskh/naskhlaw21.StackRises", spec := "stackRises", apart := false }
def StackRisesSaid : Prop := stackRisesRow.holds Try.pinned (OpenSpec.ofChange stackRisesSpec)

/-- ITS FALSE NEIGHBOUR: 'it returns false'. Refute it at one input. -/
def stackRisesWrong : ChangeSpec := { name := "stackRises", fn := fun _ => fun
  | [d1, d2] => { results := [.lit (.bool false)], args := [d1, d2] }
  | _ => none }
def StackRisesWrongFalsely : Prop := stackRisesRow.holds Try.pinned (OpenSpec.ofChange stackRisesWrong)

/-- 'naskhlaw21.StackLives': WHATEVER THE INPUT: true; the input reads as it did. -/
def stackLivesSpec : ChangeSpec := { name := "stackLives", fn := fun _ => fun
  | [d1, d2] => { results := [.lit (.bool true)], args := [d1, d2] }
  | _ => none }
def stackLivesRow : OpenClaim := { program := "ytimkacnkmoofdaa", sum := "cc7c91b52fc0c814c8f765b9298cfb95a95f013184149c2656b339f9b06a776b", func := "naskh/naskhlaw21.StackLives", spec := "stackLives", apart := false }
def StackLivesSaid : Prop := stackLivesRow.holds Try.pinned (OpenSpec.ofChange stackLivesSpec)

/-- ITS FALSE NEIGHBOUR: 'it returns false'. Refute it at one input. -/
def stackLivesWrong : ChangeSpec := { name := "stackLives", fn := fun _ => fun
  | [d1, d2] => { results := [.lit (.bool false)], args := [d1, d2] }
  | _ => none }
def StackLivesWrongFalsely : Prop := stackLivesRow.holds Try.pinned (OpenSpec.ofChange stackLivesWrong)

/-- 'naskhlaw21.StackBack': WHATEVER THE INPUT: true; the input reads as it did. -/
def stackBackSpec : ChangeSpec := { name := "stackBack", fn := fun _ => fun
  | [d1, d2, d3, d4] => { results := [.lit (.bool true)], args := [d1, d2, d3, d4] }
  | _ => none }
def stackBackRow : OpenClaim := { program := "ytimkacnkmoofdaa", sum := "cc7c91b52fc0c814c8f765b9298cfb95a95f013184149c2656b339f9b06a776b", func := "naskh/naskhlaw21.StackBack", spec := "stackBack", apart := false }
def StackBackSaid : Prop := stackBackRow.holds Try.pinned (OpenSpec.ofChange stackBackSpec)

/-- ITS FALSE NEIGHBOUR: 'it returns false'. Refute it at one input. -/
def stackBackWrong : ChangeSpec := { name := "stackBack", fn := fun _ => fun
  | [d1, d2, d3, d4] => { results := [.lit (.bool false)], args := [d1, d2, d3, d4] }
  | _ => none }
def StackBackWrongFalsely : Prop := stackBackRow.holds Try.pinned (OpenSpec.ofChange stackBackWrong)

/-- 'naskhlaw21.StackNobody': WHATEVER THE INPUT: true; the input reads as it did. -/
def stackNobodySpec : ChangeSpec := { name := "stackNobody", fn := fun _ => fun
  | [d1, d2] => { results := [.lit (.bool true)], args := [d1, d2] }
  | _ => none }
def stackNobodyRow : OpenClaim := { program := "ytimkacnkmoofdaa", sum := "cc7c91b52fc0c814c8f765b9298cfb95a95f013184149c2656b339f9b06a776b", func := "naskh/naskhlaw21.StackNobody", spec := "stackNobody", apart := false }
def StackNobodySaid : Prop := stackNobodyRow.holds Try.pinned (OpenSpec.ofChange stackNobodySpec)

/-- ITS FALSE NEIGHBOUR: 'it returns false'. Refute it at one input. -/
def stackNobodyWrong : ChangeSpec := { name := "stackNobody", fn := fun _ => fun
  | [d1, d2] => { results := [.lit (.bool false)], args := [d1, d2] }
  | _ => none }
def StackNobodyWrongFalsely : Prop := stackNobodyRow.holds Try.pinned (OpenSpec.ofChange stackNobodyWrong)

/-- 'naskhlaw02.NarrowOne': WHATEVER THE INPUT: true; the input reads as it did. -/
def narrowOneSpec : ChangeSpec := { name := "narrowOne", fn := fun _ => fun
  | [d] => { results := [.lit (.bool true)], args := [d] }
  | _ => none }
def narrowOneRow : OpenClaim := { program := "ytimkacnkmoofdaa", sum := "cc7c91b52fc0c814c8f765b9298cfb95a95f013184149c2656b339f9b06a776b", func := "naskh/naskhlaw02.NarrowOne", spec := "narrowOne", apart := false }
def NarrowOneSaid : Prop := narrowOneRow.holds Try.pinned (OpenSpec.ofChange narrowOneSpec)

/-- ITS FALSE NEIGHBOUR: 'it returns false'. Refute it at one input. -/
def narrowOneWrong : ChangeSpec := { name := "narrowOne", fn := fun _ => fun
  | [d] => { results := [.lit (.bool false)], args := [d] }
  | _ => none }
def NarrowOneWrongFalsely : Prop := narrowOneRow.holds Try.pinned (OpenSpec.ofChange narrowOneWrong)

/-- 'naskhlaw02.NarrowReads': WHATEVER THE INPUT: true; the input reads as it did. -/
def narrowReadsSpec : ChangeSpec := { name := "narrowReads", fn := fun _ => fun
  | [d] => { results := [.lit (.bool true)], args := [d] }
  | _ => none }
def narrowReadsRow : OpenClaim := { program := "ytimkacnkmoofdaa", sum := "cc7c91b52fc0c814c8f765b9298cfb95a95f013184149c2656b339f9b06a776b", func := "naskh/naskhlaw02.NarrowReads", spec := "narrowReads", apart := false }
def NarrowReadsSaid : Prop := narrowReadsRow.holds Try.pinned (OpenSpec.ofChange narrowReadsSpec)

/-- ITS FALSE NEIGHBOUR: 'it returns false'. Refute it at one input. -/
def narrowReadsWrong : ChangeSpec := { name := "narrowReads", fn := fun _ => fun
  | [d] => { results := [.lit (.bool false)], args := [d] }
  | _ => none }
def NarrowReadsWrongFalsely : Prop := narrowReadsRow.holds Try.pinned (OpenSpec.ofChange narrowReadsWrong)

/-- 'naskhlaw29.OrderVisual': WHATEVER THE INPUT: true; the input reads as it did. -/
def orderVisualSpec : ChangeSpec := { name := "orderVisual", fn := fun _ => fun
  | [d] => { results := [.lit (.bool true)], args := [d] }
  | _ => none }
def orderVisualRow : OpenClaim := { program := "ytimkacnkmoofdaa", sum := "cc7c91b52fc0c814c8f765b9298cfb95a95f013184149c2656b339f9b06a776b", func := "naskh/naskhlaw29.OrderVisual", spec := "orderVisual", apart := false }
def OrderVisualSaid : Prop := orderVisualRow.holds Try.pinned (OpenSpec.ofChange orderVisualSpec)

/-- ITS FALSE NEIGHBOUR: 'it returns false'. Refute it at one input. -/
def orderVisualWrong : ChangeSpec := { name := "orderVisual", fn := fun _ => fun
  | [d] => { results := [.lit (.bool false)], args := [d] }
  | _ => none }
def OrderVisualWrongFalsely : Prop := orderVisualRow.holds Try.pinned (OpenSpec.ofChange orderVisualWrong)

/-- 'naskhlaw29.OrderEven': WHATEVER THE INPUT: true; the input reads as it did. -/
def orderEvenSpec : ChangeSpec := { name := "orderEven", fn := fun _ => fun
  | [d1, d2, d3] => { results := [.lit (.bool true)], args := [d1, d2, d3] }
  | _ => none }
def orderEvenRow : OpenClaim := { program := "ytimkacnkmoofdaa", sum := "cc7c91b52fc0c814c8f765b9298cfb95a95f013184149c2656b339f9b06a776b", func := "naskh/naskhlaw29.OrderEven", spec := "orderEven", apart := false }
def OrderEvenSaid : Prop := orderEvenRow.holds Try.pinned (OpenSpec.ofChange orderEvenSpec)

/-- ITS FALSE NEIGHBOUR: 'it returns false'. Refute it at one input. -/
def orderEvenWrong : ChangeSpec := { name := "orderEven", fn := fun _ => fun
  | [d1, d2, d3] => { results := [.lit (.bool false)], args := [d1, d2, d3] }
  | _ => none }
def OrderEvenWrongFalsely : Prop := orderEvenRow.holds Try.pinned (OpenSpec.ofChange orderEvenWrong)

/-- 'naskhlaw02.NarrowBack': WHATEVER THE INPUT: true; the input reads as it did. -/
def narrowBackSpec : ChangeSpec := { name := "narrowBack", fn := fun _ => fun
  | [d] => { results := [.lit (.bool true)], args := [d] }
  | _ => none }
def narrowBackRow : OpenClaim := { program := "ytimkacnkmoofdaa", sum := "cc7c91b52fc0c814c8f765b9298cfb95a95f013184149c2656b339f9b06a776b", func := "naskh/naskhlaw02.NarrowBack", spec := "narrowBack", apart := false }
def NarrowBackSaid : Prop := narrowBackRow.holds Try.pinned (OpenSpec.ofChange narrowBackSpec)

/-- ITS FALSE NEIGHBOUR: 'it returns false'. Refute it at one input. -/
def narrowBackWrong : ChangeSpec := { name := "narrowBack", fn := fun _ => fun
  | [d] => { results := [.lit (.bool false)], args := [d] }
  | _ => none }
def NarrowBackWrongFalsely : Prop := narrowBackRow.holds Try.pinned (OpenSpec.ofChange narrowBackWrong)

/-- 'naskhlaw02.NarrowWhole': WHATEVER THE INPUT: true; the input reads as it did. -/
def narrowWholeSpec : ChangeSpec := { name := "narrowWhole", fn := fun _ => fun
  | [d] => { results := [.lit (.bool true)], args := [d] }
  | _ => none }
def narrowWholeRow : OpenClaim := { program := "ytimkacnkmoofdaa", sum := "cc7c91b52fc0c814c8f765b9298cfb95a95f013184149c2656b339f9b06a776b", func := "naskh/naskhlaw02.NarrowWhole", spec := "narrowWhole", apart := false }
def NarrowWholeSaid : Prop := narrowWholeRow.holds Try.pinned (OpenSpec.ofChange narrowWholeSpec)

/-- ITS FALSE NEIGHBOUR: 'it returns false'. Refute it at one input. -/
def narrowWholeWrong : ChangeSpec := { name := "narrowWhole", fn := fun _ => fun
  | [d] => { results := [.lit (.bool false)], args := [d] }
  | _ => none }
def NarrowWholeWrongFalsely : Prop := narrowWholeRow.holds Try.pinned (OpenSpec.ofChange narrowWholeWrong)

/-- 'naskhlaw02.NarrowWrites': WHATEVER THE INPUT: true; the input reads as it did. -/
def narrowWritesSpec : ChangeSpec := { name := "narrowWrites", fn := fun _ => fun
  | [d] => { results := [.lit (.bool true)], args := [d] }
  | _ => none }
def narrowWritesRow : OpenClaim := { program := "ytimkacnkmoofdaa", sum := "cc7c91b52fc0c814c8f765b9298cfb95a95f013184149c2656b339f9b06a776b", func := "naskh/naskhlaw02.NarrowWrites", spec := "narrowWrites", apart := false }
def NarrowWritesSaid : Prop := narrowWritesRow.holds Try.pinned (OpenSpec.ofChange narrowWritesSpec)

/-- ITS FALSE NEIGHBOUR: 'it returns false'. Refute it at one input. -/
def narrowWritesWrong : ChangeSpec := { name := "narrowWrites", fn := fun _ => fun
  | [d] => { results := [.lit (.bool false)], args := [d] }
  | _ => none }
def NarrowWritesWrongFalsely : Prop := narrowWritesRow.holds Try.pinned (OpenSpec.ofChange narrowWritesWrong)

/-- 'naskhlaw29.OrderTells': WHATEVER THE INPUT: true; the input reads as it did. -/
def orderTellsSpec : ChangeSpec := { name := "orderTells", fn := fun _ => fun
  | [d1, d2] => { results := [.lit (.bool true)], args := [d1, d2] }
  | _ => none }
def orderTellsRow : OpenClaim := { program := "ytimkacnkmoofdaa", sum := "cc7c91b52fc0c814c8f765b9298cfb95a95f013184149c2656b339f9b06a776b", func := "naskh/naskhlaw29.OrderTells", spec := "orderTells", apart := false }
def OrderTellsSaid : Prop := orderTellsRow.holds Try.pinned (OpenSpec.ofChange orderTellsSpec)

/-- ITS FALSE NEIGHBOUR: 'it returns false'. Refute it at one input. -/
def orderTellsWrong : ChangeSpec := { name := "orderTells", fn := fun _ => fun
  | [d1, d2] => { results := [.lit (.bool false)], args := [d1, d2] }
  | _ => none }
def OrderTellsWrongFalsely : Prop := orderTellsRow.holds Try.pinned (OpenSpec.ofChange orderTellsWrong)

/- THE SECOND FORM. 'bulk': how many values and letters a reading holds, each counted each time it is reached (what is shared counts as often as it is met; a slice's spare places count too). A statement '..UptoSaid' is the law's where the arguments, and the package variables that the reading takes, are together of bulk at most 1048576: NARROWER than '..Said'. Prove '..Said' where nothing that the law and all that it calls make is longer than what came in: it says more and counts as full. Else prove '..UptoSaid'. A law counts once. -/
mutual
def uptoBulk {H : Type} : DataW H → Nat
  | .lit (.string bytes) => bytes.length + 1
  | .lit _ => 1
  | .nil => 1
  | .ptr d => uptoBulk d + 1
  | .slice elems spare => uptoBulkAll elems + uptoBulkAll spare + 1
  | .agg parts => uptoBulkAll parts + 1
  | .iface _ d => uptoBulk d + 1
  | .map entries => uptoBulkEntries entries + 1
  | .held _ => 1
def uptoBulkAll {H : Type} : List (DataW H) → Nat
  | [] => 0
  | d :: r => uptoBulk d + uptoBulkAll r
def uptoBulkEntries {H : Type} : List (Lit × DataW H) → Nat
  | [] => 0
  | x :: r => uptoBulkEntry x + uptoBulkEntries r
def uptoBulkEntry {H : Type} : Lit × DataW H → Nat
  | (.string bytes, d) => bytes.length + uptoBulk d + 1
  | (_, d) => uptoBulk d + 1
 end
def uptoSmall : (H : Type) → List (DataW H) → Bool := fun _ ds => decide (uptoBulkAll ds ≤ 1048576)
def OpenSpec.upto (s : _root_.Go.ChangeSpec) : _root_.Go.OpenSpec := { _root_.Go.OpenSpec.ofChange s with cond := some uptoSmall }

/-- 'naskhlaw21.StackRises', WHERE WHAT IT READS IS OF BULK AT MOST 1048576: true; the input reads as it did. -/
def stackRisesUptoRow : OpenClaim := { program := "ytimkacnkmoofdaa", sum := "cc7c91b52fc0c814c8f765b9298cfb95a95f013184149c2656b339f9b06a776b", func := "naskh/naskhlaw21.StackRises", spec := "stackRises", apart := false, narrowed := true }
def StackRisesUptoSaid : Prop := stackRisesUptoRow.holds Try.pinned (OpenSpec.upto stackRisesSpec)

/-- 'naskhlaw21.StackLives', WHERE WHAT IT READS IS OF BULK AT MOST 1048576: true; the input reads as it did. -/
def stackLivesUptoRow : OpenClaim := { program := "ytimkacnkmoofdaa", sum := "cc7c91b52fc0c814c8f765b9298cfb95a95f013184149c2656b339f9b06a776b", func := "naskh/naskhlaw21.StackLives", spec := "stackLives", apart := false, narrowed := true }
def StackLivesUptoSaid : Prop := stackLivesUptoRow.holds Try.pinned (OpenSpec.upto stackLivesSpec)

/-- 'naskhlaw21.StackBack', WHERE WHAT IT READS IS OF BULK AT MOST 1048576: true; the input reads as it did. -/
def stackBackUptoRow : OpenClaim := { program := "ytimkacnkmoofdaa", sum := "cc7c91b52fc0c814c8f765b9298cfb95a95f013184149c2656b339f9b06a776b", func := "naskh/naskhlaw21.StackBack", spec := "stackBack", apart := false, narrowed := true }
def StackBackUptoSaid : Prop := stackBackUptoRow.holds Try.pinned (OpenSpec.upto stackBackSpec)

/-- 'naskhlaw21.StackNobody', WHERE WHAT IT READS IS OF BULK AT MOST 1048576: true; the input reads as it did. -/
def stackNobodyUptoRow : OpenClaim := { program := "ytimkacnkmoofdaa", sum := "cc7c91b52fc0c814c8f765b9298cfb95a95f013184149c2656b339f9b06a776b", func := "naskh/naskhlaw21.StackNobody", spec := "stackNobody", apart := false, narrowed := true }
def StackNobodyUptoSaid : Prop := stackNobodyUptoRow.holds Try.pinned (OpenSpec.upto stackNobodySpec)

/-- 'naskhlaw02.NarrowOne', WHERE WHAT IT READS IS OF BULK AT MOST 1048576: true; the input reads as it did. -/
def narrowOneUptoRow : OpenClaim := { program := "ytimkacnkmoofdaa", sum := "cc7c91b52fc0c814c8f765b9298cfb95a95f013184149c2656b339f9b06a776b", func := "naskh/naskhlaw02.NarrowOne", spec := "narrowOne", apart := false, narrowed := true }
def NarrowOneUptoSaid : Prop := narrowOneUptoRow.holds Try.pinned (OpenSpec.upto narrowOneSpec)

/-- 'naskhlaw02.NarrowReads', WHERE WHAT IT READS IS OF BULK AT MOST 1048576: true; the input reads as it did. -/
def narrowReadsUptoRow : OpenClaim := { program := "ytimkacnkmoofdaa", sum := "cc7c91b52fc0c814c8f765b9298cfb95a95f013184149c2656b339f9b06a776b", func := "naskh/naskhlaw02.NarrowReads", spec := "narrowReads", apart := false, narrowed := true }
def NarrowReadsUptoSaid : Prop := narrowReadsUptoRow.holds Try.pinned (OpenSpec.upto narrowReadsSpec)

/-- 'naskhlaw29.OrderVisual', WHERE WHAT IT READS IS OF BULK AT MOST 1048576: true; the input reads as it did. -/
def orderVisualUptoRow : OpenClaim := { program := "ytimkacnkmoofdaa", sum := "cc7c91b52fc0c814c8f765b9298cfb95a95f013184149c2656b339f9b06a776b", func := "naskh/naskhlaw29.OrderVisual", spec := "orderVisual", apart := false, narrowed := true }
def OrderVisualUptoSaid : Prop := orderVisualUptoRow.holds Try.pinned (OpenSpec.upto orderVisualSpec)

/-- 'naskhlaw29.OrderEven', WHERE WHAT IT READS IS OF BULK AT MOST 1048576: true; the input reads as it did. -/
def orderEvenUptoRow : OpenClaim := { program := "ytimkacnkmoofdaa", sum := "cc7c91b52fc0c814c8f765b9298cfb95a95f013184149c2656b339f9b06a776b", func := "naskh/naskhlaw29.OrderEven", spec := "orderEven", apart := false, narrowed := true }
def OrderEvenUptoSaid : Prop := orderEvenUptoRow.holds Try.pinned (OpenSpec.upto orderEvenSpec)

/-- 'naskhlaw02.NarrowBack', WHERE WHAT IT READS IS OF BULK AT MOST 1048576: true; the input reads as it did. -/
def narrowBackUptoRow : OpenClaim := { program := "ytimkacnkmoofdaa", sum := "cc7c91b52fc0c814c8f765b9298cfb95a95f013184149c2656b339f9b06a776b", func := "naskh/naskhlaw02.NarrowBack", spec := "narrowBack", apart := false, narrowed := true }
def NarrowBackUptoSaid : Prop := narrowBackUptoRow.holds Try.pinned (OpenSpec.upto narrowBackSpec)

/-- 'naskhlaw02.NarrowWhole', WHERE WHAT IT READS IS OF BULK AT MOST 1048576: true; the input reads as it did. -/
def narrowWholeUptoRow : OpenClaim := { program := "ytimkacnkmoofdaa", sum := "cc7c91b52fc0c814c8f765b9298cfb95a95f013184149c2656b339f9b06a776b", func := "naskh/naskhlaw02.NarrowWhole", spec := "narrowWhole", apart := false, narrowed := true }
def NarrowWholeUptoSaid : Prop := narrowWholeUptoRow.holds Try.pinned (OpenSpec.upto narrowWholeSpec)

/-- 'naskhlaw02.NarrowWrites', WHERE WHAT IT READS IS OF BULK AT MOST 1048576: true; the input reads as it did. -/
def narrowWritesUptoRow : OpenClaim := { program := "ytimkacnkmoofdaa", sum := "cc7c91b52fc0c814c8f765b9298cfb95a95f013184149c2656b339f9b06a776b", func := "naskh/naskhlaw02.NarrowWrites", spec := "narrowWrites", apart := false, narrowed := true }
def NarrowWritesUptoSaid : Prop := narrowWritesUptoRow.holds Try.pinned (OpenSpec.upto narrowWritesSpec)

/-- 'naskhlaw29.OrderTells', WHERE WHAT IT READS IS OF BULK AT MOST 1048576: true; the input reads as it did. -/
def orderTellsUptoRow : OpenClaim := { program := "ytimkacnkmoofdaa", sum := "cc7c91b52fc0c814c8f765b9298cfb95a95f013184149c2656b339f9b06a776b", func := "naskh/naskhlaw29.OrderTells", spec := "orderTells", apart := false, narrowed := true }
def OrderTellsUptoSaid : Prop := orderTellsUptoRow.holds Try.pinned (OpenSpec.upto orderTellsSpec)

end Rows
end Go.Proofs.Ytimkacnkmoofdaa
