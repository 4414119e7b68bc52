/-
  No cell of these rows narrows 'for every input' (looked for: loops, veiled, ifaces, maps, wideKeys, modest, calm, conditions, laid).
  DERIVED. THE GIVEN ROWS OF THIS SEAT. 11 by the template 'for every input the law returns true; each argument reads behind the call as it read before'; 0 by the template 'total and deterministic' (their statements: YtmkgihmchkphaaaTotals.lean).
  GIVEN WITH THE SEED: the statements are not yours to turn. If you find one false, say at which input.
  Laid BY PROGRAM, IN A SANDBOX (cutbox-rows.mjs): the forced cells as the released guide's own fill.sh prints them over the translation 8a64cf1a33165bfb… (all of the seat's roots in one cut). By AI agents, Wed Nov 11 2026. No macro, syntax, notation, axiom, sorry.
-/
import Derived.Test.YtmkgihmchkphaaaChecked
import GoSem.Claim
import GoSem.ClaimJoined
import GoSem.ClaimMapViews
import Derived.JoinedTies
import Derived.KernelRfl
namespace Go.Proofs.Ytmkgihmchkphaaa
/- THE CELL 'sum', in the pinned program and in every row, IS THE sha256 OF THE DUMP (.gsa) THAT YtmkgihmchkphaaaProg.lean LOADS. Nothing in Lean hashes anything: it is a label: what it is worth is what the hold of that sum in a sandbox is worth. -/
noncomputable def Try.pinned : Pinned := { name := "ytmkgihmchkphaaa", sum := "8a64cf1a33165bfbc91c2819351847ff8871c8f78ff11ee4fab84f415a20809c", checked := Try.checked }
namespace Rows
def none {H : Type} : Left H := { results := [], args := [] }

/-- 'naskhlaw31.AccentTells': WHATEVER THE INPUT: true; the input reads as it did. -/
def accentTellsSpec : ChangeSpec := { name := "accentTells", fn := fun _ => fun
  | [d1, d2, d3] => { results := [.lit (.bool true)], args := [d1, d2, d3] }
  | _ => none }
def accentTellsRow : OpenClaim := { program := "ytmkgihmchkphaaa", sum := "8a64cf1a33165bfbc91c2819351847ff8871c8f78ff11ee4fab84f415a20809c", func := "naskh/naskhlaw31.AccentTells", spec := "accentTells", apart := false }
def AccentTellsSaid : Prop := accentTellsRow.holds Try.pinned (OpenSpec.ofChange accentTellsSpec)

/-- ITS FALSE NEIGHBOUR: 'it returns false'. Refute it at one input. -/
def accentTellsWrong : ChangeSpec := { name := "accentTells", fn := fun _ => fun
  | [d1, d2, d3] => { results := [.lit (.bool false)], args := [d1, d2, d3] }
  | _ => none }
def AccentTellsWrongFalsely : Prop := accentTellsRow.holds Try.pinned (OpenSpec.ofChange accentTellsWrong)

/-- 'naskhlaw31.AccentNone': WHATEVER THE INPUT: true; the input reads as it did. -/
def accentNoneSpec : ChangeSpec := { name := "accentNone", fn := fun _ => fun
  | [d] => { results := [.lit (.bool true)], args := [d] }
  | _ => none }
def accentNoneRow : OpenClaim := { program := "ytmkgihmchkphaaa", sum := "8a64cf1a33165bfbc91c2819351847ff8871c8f78ff11ee4fab84f415a20809c", func := "naskh/naskhlaw31.AccentNone", spec := "accentNone", apart := false }
def AccentNoneSaid : Prop := accentNoneRow.holds Try.pinned (OpenSpec.ofChange accentNoneSpec)

/-- ITS FALSE NEIGHBOUR: 'it returns false'. Refute it at one input. -/
def accentNoneWrong : ChangeSpec := { name := "accentNone", fn := fun _ => fun
  | [d] => { results := [.lit (.bool false)], args := [d] }
  | _ => none }
def AccentNoneWrongFalsely : Prop := accentNoneRow.holds Try.pinned (OpenSpec.ofChange accentNoneWrong)

/-- 'naskhlaw31.AccentOrder': WHATEVER THE INPUT: true; the input reads as it did. -/
def accentOrderSpec : ChangeSpec := { name := "accentOrder", fn := fun _ => fun
  | [d1, d2] => { results := [.lit (.bool true)], args := [d1, d2] }
  | _ => none }
def accentOrderRow : OpenClaim := { program := "ytmkgihmchkphaaa", sum := "8a64cf1a33165bfbc91c2819351847ff8871c8f78ff11ee4fab84f415a20809c", func := "naskh/naskhlaw31.AccentOrder", spec := "accentOrder", apart := false }
def AccentOrderSaid : Prop := accentOrderRow.holds Try.pinned (OpenSpec.ofChange accentOrderSpec)

/-- ITS FALSE NEIGHBOUR: 'it returns false'. Refute it at one input. -/
def accentOrderWrong : ChangeSpec := { name := "accentOrder", fn := fun _ => fun
  | [d1, d2] => { results := [.lit (.bool false)], args := [d1, d2] }
  | _ => none }
def AccentOrderWrongFalsely : Prop := accentOrderRow.holds Try.pinned (OpenSpec.ofChange accentOrderWrong)

/-- 'naskhlaw40.PackedNumbers': WHATEVER THE INPUT: true; the input reads as it did. -/
def packedNumbersSpec : ChangeSpec := { name := "packedNumbers", fn := fun _ => fun
  | [d1, d2] => { results := [.lit (.bool true)], args := [d1, d2] }
  | _ => none }
def packedNumbersRow : OpenClaim := { program := "ytmkgihmchkphaaa", sum := "8a64cf1a33165bfbc91c2819351847ff8871c8f78ff11ee4fab84f415a20809c", func := "naskh/naskhlaw40.PackedNumbers", spec := "packedNumbers", unfollowed := true, recurses := true, apart := false }
def PackedNumbersSaid : Prop := packedNumbersRow.holds Try.pinned (OpenSpec.ofChange packedNumbersSpec)

/-- ITS FALSE NEIGHBOUR: 'it returns false'. Refute it at one input. -/
def packedNumbersWrong : ChangeSpec := { name := "packedNumbers", fn := fun _ => fun
  | [d1, d2] => { results := [.lit (.bool false)], args := [d1, d2] }
  | _ => none }
def PackedNumbersWrongFalsely : Prop := packedNumbersRow.holds Try.pinned (OpenSpec.ofChange packedNumbersWrong)

/-- 'naskhlaw40.PackedBack': WHATEVER THE INPUT: true; the input reads as it did. -/
def packedBackSpec : ChangeSpec := { name := "packedBack", fn := fun _ => fun
  | [d1, d2] => { results := [.lit (.bool true)], args := [d1, d2] }
  | _ => none }
def packedBackRow : OpenClaim := { program := "ytmkgihmchkphaaa", sum := "8a64cf1a33165bfbc91c2819351847ff8871c8f78ff11ee4fab84f415a20809c", func := "naskh/naskhlaw40.PackedBack", spec := "packedBack", unfollowed := true, recurses := true, apart := false }
def PackedBackSaid : Prop := packedBackRow.holds Try.pinned (OpenSpec.ofChange packedBackSpec)

/-- ITS FALSE NEIGHBOUR: 'it returns false'. Refute it at one input. -/
def packedBackWrong : ChangeSpec := { name := "packedBack", fn := fun _ => fun
  | [d1, d2] => { results := [.lit (.bool false)], args := [d1, d2] }
  | _ => none }
def PackedBackWrongFalsely : Prop := packedBackRow.holds Try.pinned (OpenSpec.ofChange packedBackWrong)

/-- 'naskhlaw44.CaretTells': WHATEVER THE INPUT: true; the input reads as it did. -/
def caretTellsSpec : ChangeSpec := { name := "caretTells", fn := fun _ => fun
  | [d1, d2, d3, d4] => { results := [.lit (.bool true)], args := [d1, d2, d3, d4] }
  | _ => none }
def caretTellsRow : OpenClaim := { program := "ytmkgihmchkphaaa", sum := "8a64cf1a33165bfbc91c2819351847ff8871c8f78ff11ee4fab84f415a20809c", func := "naskh/naskhlaw44.CaretTells", spec := "caretTells", unfollowed := true, recurses := true, apart := false }
def CaretTellsSaid : Prop := caretTellsRow.holds Try.pinned (OpenSpec.ofChange caretTellsSpec)

/-- ITS FALSE NEIGHBOUR: 'it returns false'. Refute it at one input. -/
def caretTellsWrong : ChangeSpec := { name := "caretTells", fn := fun _ => fun
  | [d1, d2, d3, d4] => { results := [.lit (.bool false)], args := [d1, d2, d3, d4] }
  | _ => none }
def CaretTellsWrongFalsely : Prop := caretTellsRow.holds Try.pinned (OpenSpec.ofChange caretTellsWrong)

/-- 'naskhlaw44.CaretPlain': WHATEVER THE INPUT: true; the input reads as it did. -/
def caretPlainSpec : ChangeSpec := { name := "caretPlain", fn := fun _ => fun
  | [d1, d2] => { results := [.lit (.bool true)], args := [d1, d2] }
  | _ => none }
def caretPlainRow : OpenClaim := { program := "ytmkgihmchkphaaa", sum := "8a64cf1a33165bfbc91c2819351847ff8871c8f78ff11ee4fab84f415a20809c", func := "naskh/naskhlaw44.CaretPlain", spec := "caretPlain", unfollowed := true, recurses := true, apart := false }
def CaretPlainSaid : Prop := caretPlainRow.holds Try.pinned (OpenSpec.ofChange caretPlainSpec)

/-- ITS FALSE NEIGHBOUR: 'it returns false'. Refute it at one input. -/
def caretPlainWrong : ChangeSpec := { name := "caretPlain", fn := fun _ => fun
  | [d1, d2] => { results := [.lit (.bool false)], args := [d1, d2] }
  | _ => none }
def CaretPlainWrongFalsely : Prop := caretPlainRow.holds Try.pinned (OpenSpec.ofChange caretPlainWrong)

/-- 'naskhlaw44.CaretMoves': WHATEVER THE INPUT: true; the input reads as it did. -/
def caretMovesSpec : ChangeSpec := { name := "caretMoves", fn := fun _ => fun
  | [d1, d2, d3] => { results := [.lit (.bool true)], args := [d1, d2, d3] }
  | _ => none }
def caretMovesRow : OpenClaim := { program := "ytmkgihmchkphaaa", sum := "8a64cf1a33165bfbc91c2819351847ff8871c8f78ff11ee4fab84f415a20809c", func := "naskh/naskhlaw44.CaretMoves", spec := "caretMoves", unfollowed := true, recurses := true, apart := false }
def CaretMovesSaid : Prop := caretMovesRow.holds Try.pinned (OpenSpec.ofChange caretMovesSpec)

/-- ITS FALSE NEIGHBOUR: 'it returns false'. Refute it at one input. -/
def caretMovesWrong : ChangeSpec := { name := "caretMoves", fn := fun _ => fun
  | [d1, d2, d3] => { results := [.lit (.bool false)], args := [d1, d2, d3] }
  | _ => none }
def CaretMovesWrongFalsely : Prop := caretMovesRow.holds Try.pinned (OpenSpec.ofChange caretMovesWrong)

/-- 'naskhlaw44.CaretHits': WHATEVER THE INPUT: true; the input reads as it did. -/
def caretHitsSpec : ChangeSpec := { name := "caretHits", fn := fun _ => fun
  | [d] => { results := [.lit (.bool true)], args := [d] }
  | _ => none }
def caretHitsRow : OpenClaim := { program := "ytmkgihmchkphaaa", sum := "8a64cf1a33165bfbc91c2819351847ff8871c8f78ff11ee4fab84f415a20809c", func := "naskh/naskhlaw44.CaretHits", spec := "caretHits", unfollowed := true, recurses := true, apart := false }
def CaretHitsSaid : Prop := caretHitsRow.holds Try.pinned (OpenSpec.ofChange caretHitsSpec)

/-- ITS FALSE NEIGHBOUR: 'it returns false'. Refute it at one input. -/
def caretHitsWrong : ChangeSpec := { name := "caretHits", fn := fun _ => fun
  | [d] => { results := [.lit (.bool false)], args := [d] }
  | _ => none }
def CaretHitsWrongFalsely : Prop := caretHitsRow.holds Try.pinned (OpenSpec.ofChange caretHitsWrong)

/-- 'naskhlaw40.PackedTables': WHATEVER THE INPUT: true; the input reads as it did. -/
def packedTablesSpec : ChangeSpec := { name := "packedTables", fn := fun _ => fun
  | [d1, d2, d3] => { results := [.lit (.bool true)], args := [d1, d2, d3] }
  | _ => none }
def packedTablesRow : OpenClaim := { program := "ytmkgihmchkphaaa", sum := "8a64cf1a33165bfbc91c2819351847ff8871c8f78ff11ee4fab84f415a20809c", func := "naskh/naskhlaw40.PackedTables", spec := "packedTables", unfollowed := true, recurses := true, apart := false }
def PackedTablesSaid : Prop := packedTablesRow.holds Try.pinned (OpenSpec.ofChange packedTablesSpec)

/-- ITS FALSE NEIGHBOUR: 'it returns false'. Refute it at one input. -/
def packedTablesWrong : ChangeSpec := { name := "packedTables", fn := fun _ => fun
  | [d1, d2, d3] => { results := [.lit (.bool false)], args := [d1, d2, d3] }
  | _ => none }
def PackedTablesWrongFalsely : Prop := packedTablesRow.holds Try.pinned (OpenSpec.ofChange packedTablesWrong)

/-- 'naskhlaw40.PackedAgain': WHATEVER THE INPUT: true; the input reads as it did. -/
def packedAgainSpec : ChangeSpec := { name := "packedAgain", fn := fun _ => fun
  | [d1, d2, d3, d4] => { results := [.lit (.bool true)], args := [d1, d2, d3, d4] }
  | _ => none }
def packedAgainRow : OpenClaim := { program := "ytmkgihmchkphaaa", sum := "8a64cf1a33165bfbc91c2819351847ff8871c8f78ff11ee4fab84f415a20809c", func := "naskh/naskhlaw40.PackedAgain", spec := "packedAgain", unfollowed := true, recurses := true, apart := false }
def PackedAgainSaid : Prop := packedAgainRow.holds Try.pinned (OpenSpec.ofChange packedAgainSpec)

/-- ITS FALSE NEIGHBOUR: 'it returns false'. Refute it at one input. -/
def packedAgainWrong : ChangeSpec := { name := "packedAgain", fn := fun _ => fun
  | [d1, d2, d3, d4] => { results := [.lit (.bool false)], args := [d1, d2, d3, d4] }
  | _ => none }
def PackedAgainWrongFalsely : Prop := packedAgainRow.holds Try.pinned (OpenSpec.ofChange packedAgainWrong)

/- THE SECOND FORM. 'bulk': how many values and letters a reading holds, each counted each time it is reached (what is shared counts as often as it is met; a slice's spare places count too). A statement '..UptoSaid' is the law's where the arguments, and the package variables that the reading takes, are together of bulk at most 1048576: NARROWER than '..Said'. Prove '..Said' where nothing that the law and all that it calls make is longer than what came in: it says more and counts as full. Else prove '..UptoSaid'. A law counts once. -/
mutual
def uptoBulk {H : Type} : DataW H → Nat
  | .lit (.string bytes) => bytes.length + 1
  | .lit _ => 1
  | .nil => 1
  | .ptr d => uptoBulk d + 1
  | .slice elems spare => uptoBulkAll elems + uptoBulkAll spare + 1
  | .agg parts => uptoBulkAll parts + 1
  | .iface _ d => uptoBulk d + 1
  | .map entries => uptoBulkEntries entries + 1
  | .held _ => 1
def uptoBulkAll {H : Type} : List (DataW H) → Nat
  | [] => 0
  | d :: r => uptoBulk d + uptoBulkAll r
def uptoBulkEntries {H : Type} : List (Lit × DataW H) → Nat
  | [] => 0
  | x :: r => uptoBulkEntry x + uptoBulkEntries r
def uptoBulkEntry {H : Type} : Lit × DataW H → Nat
  | (.string bytes, d) => bytes.length + uptoBulk d + 1
  | (_, d) => uptoBulk d + 1
 end
def uptoSmall : (H : Type) → List (DataW H) → Bool := fun _ ds => decide (uptoBulkAll ds ≤ 1048576)
def OpenSpec.upto (s : _root_.Go.ChangeSpec) : _root_.Go.OpenSpec := { _root_.Go.OpenSpec.ofChange s with cond := some uptoSmall }

/-- 'naskhlaw31.AccentTells', WHERE WHAT IT READS IS OF BULK AT MOST 1048576: true; the input reads as it did. -/
def accentTellsUptoRow : OpenClaim := { program := "ytmkgihmchkphaaa", sum := "8a64cf1a33165bfbc91c2819351847ff8871c8f78ff11ee4fab84f415a20809c", func := "naskh/naskhlaw31.AccentTells", spec := "accentTells", apart := false, narrowed := true }
def AccentTellsUptoSaid : Prop := accentTellsUptoRow.holds Try.pinned (OpenSpec.upto accentTellsSpec)

/-- 'naskhlaw31.AccentNone', WHERE WHAT IT READS IS OF BULK AT MOST 1048576: true; the input reads as it did. -/
def accentNoneUptoRow : OpenClaim := { program := "ytmkgihmchkphaaa", sum := "8a64cf1a33165bfbc91c2819351847ff8871c8f78ff11ee4fab84f415a20809c", func := "naskh/naskhlaw31.AccentNone", spec := "accentNone", apart := false, narrowed := true }
def AccentNoneUptoSaid : Prop := accentNoneUptoRow.holds Try.pinned (OpenSpec.upto accentNoneSpec)

/-- 'naskhlaw31.AccentOrder', WHERE WHAT IT READS IS OF BULK AT MOST 1048576: true; the input reads as it did. -/
def accentOrderUptoRow : OpenClaim := { program := "ytmkgihmchkphaaa", sum := "8a64cf1a33165bfbc91c2819351847ff8871c8f78ff11ee4fab84f415a20809c", func := "naskh/naskhlaw31.AccentOrder", spec := "accentOrder", apart := false, narrowed := true }
def AccentOrderUptoSaid : Prop := accentOrderUptoRow.holds Try.pinned (OpenSpec.upto accentOrderSpec)

/-- 'naskhlaw40.PackedNumbers', WHERE WHAT IT READS IS OF BULK AT MOST 1048576: true; the input reads as it did. -/
def packedNumbersUptoRow : OpenClaim := { program := "ytmkgihmchkphaaa", sum := "8a64cf1a33165bfbc91c2819351847ff8871c8f78ff11ee4fab84f415a20809c", func := "naskh/naskhlaw40.PackedNumbers", spec := "packedNumbers", unfollowed := true, recurses := true, apart := false, narrowed := true }
def PackedNumbersUptoSaid : Prop := packedNumbersUptoRow.holds Try.pinned (OpenSpec.upto packedNumbersSpec)

/-- 'naskhlaw40.PackedBack', WHERE WHAT IT READS IS OF BULK AT MOST 1048576: true; the input reads as it did. -/
def packedBackUptoRow : OpenClaim := { program := "ytmkgihmchkphaaa", sum := "8a64cf1a33165bfbc91c2819351847ff8871c8f78ff11ee4fab84f415a20809c", func := "naskh/naskhlaw40.PackedBack", spec := "packedBack", unfollowed := true, recurses := true, apart := false, narrowed := true }
def PackedBackUptoSaid : Prop := packedBackUptoRow.holds Try.pinned (OpenSpec.upto packedBackSpec)

/-- 'naskhlaw44.CaretTells', WHERE WHAT IT READS IS OF BULK AT MOST 1048576: true; the input reads as it did. -/
def caretTellsUptoRow : OpenClaim := { program := "ytmkgihmchkphaaa", sum := "8a64cf1a33165bfbc91c2819351847ff8871c8f78ff11ee4fab84f415a20809c", func := "naskh/naskhlaw44.CaretTells", spec := "caretTells", unfollowed := true, recurses := true, apart := false, narrowed := true }
def CaretTellsUptoSaid : Prop := caretTellsUptoRow.holds Try.pinned (OpenSpec.upto caretTellsSpec)

/-- 'naskhlaw44.CaretPlain', WHERE WHAT IT READS IS OF BULK AT MOST 1048576: true; the input reads as it did. -/
def caretPlainUptoRow : OpenClaim := { program := "ytmkgihmchkphaaa", sum := "8a64cf1a33165bfbc91c2819351847ff8871c8f78ff11ee4fab84f415a20809c", func := "naskh/naskhlaw44.CaretPlain", spec := "caretPlain", unfollowed := true, recurses := true, apart := false, narrowed := true }
def CaretPlainUptoSaid : Prop := caretPlainUptoRow.holds Try.pinned (OpenSpec.upto caretPlainSpec)

/-- 'naskhlaw44.CaretMoves', WHERE WHAT IT READS IS OF BULK AT MOST 1048576: true; the input reads as it did. -/
def caretMovesUptoRow : OpenClaim := { program := "ytmkgihmchkphaaa", sum := "8a64cf1a33165bfbc91c2819351847ff8871c8f78ff11ee4fab84f415a20809c", func := "naskh/naskhlaw44.CaretMoves", spec := "caretMoves", unfollowed := true, recurses := true, apart := false, narrowed := true }
def CaretMovesUptoSaid : Prop := caretMovesUptoRow.holds Try.pinned (OpenSpec.upto caretMovesSpec)

/-- 'naskhlaw44.CaretHits', WHERE WHAT IT READS IS OF BULK AT MOST 1048576: true; the input reads as it did. -/
def caretHitsUptoRow : OpenClaim := { program := "ytmkgihmchkphaaa", sum := "8a64cf1a33165bfbc91c2819351847ff8871c8f78ff11ee4fab84f415a20809c", func := "naskh/naskhlaw44.CaretHits", spec := "caretHits", unfollowed := true, recurses := true, apart := false, narrowed := true }
def CaretHitsUptoSaid : Prop := caretHitsUptoRow.holds Try.pinned (OpenSpec.upto caretHitsSpec)

/-- 'naskhlaw40.PackedTables', WHERE WHAT IT READS IS OF BULK AT MOST 1048576: true; the input reads as it did. -/
def packedTablesUptoRow : OpenClaim := { program := "ytmkgihmchkphaaa", sum := "8a64cf1a33165bfbc91c2819351847ff8871c8f78ff11ee4fab84f415a20809c", func := "naskh/naskhlaw40.PackedTables", spec := "packedTables", unfollowed := true, recurses := true, apart := false, narrowed := true }
def PackedTablesUptoSaid : Prop := packedTablesUptoRow.holds Try.pinned (OpenSpec.upto packedTablesSpec)

/-- 'naskhlaw40.PackedAgain', WHERE WHAT IT READS IS OF BULK AT MOST 1048576: true; the input reads as it did. -/
def packedAgainUptoRow : OpenClaim := { program := "ytmkgihmchkphaaa", sum := "8a64cf1a33165bfbc91c2819351847ff8871c8f78ff11ee4fab84f415a20809c", func := "naskh/naskhlaw40.PackedAgain", spec := "packedAgain", unfollowed := true, recurses := true, apart := false, narrowed := true }
def PackedAgainUptoSaid : Prop := packedAgainUptoRow.holds Try.pinned (OpenSpec.upto packedAgainSpec)

end Rows
end Go.Proofs.Ytmkgihmchkphaaa
