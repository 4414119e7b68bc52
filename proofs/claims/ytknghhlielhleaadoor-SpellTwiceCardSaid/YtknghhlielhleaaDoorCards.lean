/-
  DERIVED. GIVEN WITH THE SEED: THE CARDS: each row of YtknghhlielhleaaDoorRows.lean that lists a variable, with what it lists TIED to the program's text (the seventh form; the later family's looks); each row that meets fmt, with fmt's text TOLD by the authors' own Lean function (tested against real Go, not proved from fmt's source: count such statements apart). THE CARD IS WHAT COUNTS. Prove the row's statement (the work); the ties are given (YtknghhlielhleaaDoorTie.lean); close each card by the builder's one call (the guide's Derived/Test/ToyasCard.lean, 'card_holds'). Laid BY PROGRAM, IN A SANDBOX (cutbox-door.mjs). By AI agents, Wed Nov 11 2026. No macro, syntax, notation, axiom, sorry.
-/
import Derived.Test.YtknghhlielhleaaDoorRows
import GoSem.ClaimSeven
namespace Go.Proofs.YtknghhlielhleaaDoor
namespace Rows

/-- THE TIED CARD OF 'naskhlaw11.SpellParses'. -/
def spellParsesCard : Claim7 := { stood := { row := spellParsesRow, standIns := [], harness := (true, "b1665cd7870de1b0c0f3c6faeaf6dc3086a1e1edbb8230037b3515802a04b507"), looks := false }, kinds := [], alts := [], laidByText := true, laidKinds := [.data, .pinned], laidTests := true, laidLooks := .later }
def SpellParsesCardSaid : Prop := Claim7.holds Tryd.pinned (.plain (OpenSpec.ofChange spellParsesSpec)) spellParsesCard

/-- THE TIED CARD OF 'naskhlaw11.SpellTwice'. -/
def spellTwiceCard : Claim7 := { stood := { row := spellTwiceRow, standIns := [], harness := (true, "b1665cd7870de1b0c0f3c6faeaf6dc3086a1e1edbb8230037b3515802a04b507"), looks := false }, kinds := [], alts := [], laidByText := true, laidKinds := [.data, .pinned], laidTests := true, laidLooks := .later }
def SpellTwiceCardSaid : Prop := Claim7.holds Tryd.pinned (.plain (OpenSpec.ofChange spellTwiceSpec)) spellTwiceCard

/-- THE TIED CARD OF 'naskhlaw11.SpellBack'. -/
def spellBackCard : Claim7 := { stood := { row := spellBackRow, standIns := [], harness := (true, "b1665cd7870de1b0c0f3c6faeaf6dc3086a1e1edbb8230037b3515802a04b507"), looks := false }, kinds := [], alts := [], laidByText := true, laidKinds := [.data, .pinned], laidTests := true, laidLooks := .later }
def SpellBackCardSaid : Prop := Claim7.holds Tryd.pinned (.plain (OpenSpec.ofChange spellBackSpec)) spellBackCard

/-- THE TIED CARD OF 'naskhlaw11.SpellPrints'. -/
def spellPrintsCard : Claim7 := { stood := { row := spellPrintsRow, standIns := [], harness := (true, "b1665cd7870de1b0c0f3c6faeaf6dc3086a1e1edbb8230037b3515802a04b507"), looks := false }, kinds := [], alts := [], laidByText := true, laidKinds := [.data, .pinned], laidTests := true, laidLooks := .later }
def SpellPrintsCardSaid : Prop := Claim7.holds Tryd.pinned (.plain (OpenSpec.ofChange spellPrintsSpec)) spellPrintsCard

/-- THE SECOND FORM's CARD OF 'naskhlaw11.SpellParses'. -/
def spellParsesUptoCard : Claim7 := { stood := { row := spellParsesUptoRow, standIns := [], harness := (true, "b1665cd7870de1b0c0f3c6faeaf6dc3086a1e1edbb8230037b3515802a04b507"), looks := false }, kinds := [], alts := [], laidByText := true, laidKinds := [.data, .pinned], laidTests := true, laidLooks := .later }
def SpellParsesUptoCardSaid : Prop := Claim7.holds Tryd.pinned (.plain (OpenSpec.upto spellParsesSpec)) spellParsesUptoCard

/-- THE SECOND FORM's CARD OF 'naskhlaw11.SpellTwice'. -/
def spellTwiceUptoCard : Claim7 := { stood := { row := spellTwiceUptoRow, standIns := [], harness := (true, "b1665cd7870de1b0c0f3c6faeaf6dc3086a1e1edbb8230037b3515802a04b507"), looks := false }, kinds := [], alts := [], laidByText := true, laidKinds := [.data, .pinned], laidTests := true, laidLooks := .later }
def SpellTwiceUptoCardSaid : Prop := Claim7.holds Tryd.pinned (.plain (OpenSpec.upto spellTwiceSpec)) spellTwiceUptoCard

/-- THE SECOND FORM's CARD OF 'naskhlaw11.SpellBack'. -/
def spellBackUptoCard : Claim7 := { stood := { row := spellBackUptoRow, standIns := [], harness := (true, "b1665cd7870de1b0c0f3c6faeaf6dc3086a1e1edbb8230037b3515802a04b507"), looks := false }, kinds := [], alts := [], laidByText := true, laidKinds := [.data, .pinned], laidTests := true, laidLooks := .later }
def SpellBackUptoCardSaid : Prop := Claim7.holds Tryd.pinned (.plain (OpenSpec.upto spellBackSpec)) spellBackUptoCard

/-- THE SECOND FORM's CARD OF 'naskhlaw11.SpellPrints'. -/
def spellPrintsUptoCard : Claim7 := { stood := { row := spellPrintsUptoRow, standIns := [], harness := (true, "b1665cd7870de1b0c0f3c6faeaf6dc3086a1e1edbb8230037b3515802a04b507"), looks := false }, kinds := [], alts := [], laidByText := true, laidKinds := [.data, .pinned], laidTests := true, laidLooks := .later }
def SpellPrintsUptoCardSaid : Prop := Claim7.holds Tryd.pinned (.plain (OpenSpec.upto spellPrintsSpec)) spellPrintsUptoCard
end Rows
end Go.Proofs.YtknghhlielhleaaDoor
