import Derived.Test.YtknghhlielhleaaDoorProg
import Derived.Below
import Derived.Deep.Draws
import Derived.Deep.AppendLies
import Derived.Maps.AppendAt
import Derived.OwnWalk
import Derived.Laws.BytesArg
import Derived.Laws.MakeOwn
import Derived.Laws.OwnMore
import Derived.Deep.OwnRows
import Derived.Tactics
import Derived.Lib.ConvBytes
import Derived.Laws.Slices
import Derived.WalkKit
import Derived.KernelRfl
import Derived.RowKit3
import Derived.Deep.LoopGhost
import Derived.Deep.QuietTactic
import Derived.BigQuiet
import Derived.WideLaws
import Derived.Deep.DeepCutAuto
import Derived.Deep.CutBlock
import Derived.Deep.RegionHeld3
import Derived.Laws.Rows
import Derived.Lib.AppendStr
import Derived.ArgAppend
import Derived.Laws.IdiomCopy
import Derived.OrdersHeld
import Derived.Laws.BitsLemmas
import Derived.RowKit
import Derived.Test.YtknghhlielhleaaDoorWWords
import Derived.Test.YtknghhlielhleaaDoorWLast
import Derived.Test.YtknghhlielhleaaDoorWTab
import Derived.Test.YtknghhlielhleaaDoorWFour
import Derived.Test.YtknghhlielhleaaDoorWQPut
import Derived.Test.YtknghhlielhleaaDoorWApart
import Derived.Test.YtknghhlielhleaaDoorWArr
import Derived.Test.YtknghhlielhleaaDoorWZeros
import Derived.Test.YtknghhlielhleaaDoorWFoot
import Derived.Test.YtknghhlielhleaaDoorWKept
import Derived.Test.YtknghhlielhleaaDoorWShare
import Derived.Test.YtknghhlielhleaaDoorWN
import Derived.Test.YtknghhlielhleaaDoorWFootNe
import Derived.Test.YtknghhlielhleaaDoorWAt
import Derived.Test.YtknghhlielhleaaDoorWEqStruct
import Derived.Test.YtknghhlielhleaaDoorWRepsOne
import Derived.Test.YtknghhlielhleaaDoorWInv
import Derived.Test.YtknghhlielhleaaDoorWInvWords
import Derived.Test.YtknghhlielhleaaDoorWGuard
import Derived.Test.YtknghhlielhleaaDoorWNEv
import Derived.Test.YtknghhlielhleaaDoorWMore
import Derived.Deep.MidRow
import Derived.Deep.WholeRow
import Derived.Laws.StructEq
namespace Go.Proofs.YtknghhlielhleaaDoor.Stk
open Go.RowKit Go.Proofs.YtknghhlielhleaaDoorW.PrintWords Go.Proofs.YtknghhlielhleaaDoorW.PrintLast Go.Proofs.YtknghhlielhleaaDoorW.PrintMore
attribute [local go_sem] max2_int min2_int max_two min_two max_three min_three max_four min_four   -- for this text's walks alone
set_option linter.unusedVariables false
set_option linter.unusedSimpArgs false
def Wrote (w w1 : World) (g : Nat) : Prop := w1.heap.size = w.heap.size ∧ (∀ k, k ≠ g → w1.heap[k]? = w.heap[k]?) ∧ w1.os = w.os ∧ w1.tape = w.tape ∧ w1.output = w.output
theorem Wrote.below {B g : Nat} {w0 w w1 : World} (h : Wrote w w1 g) (hb : Below B w0 w) (hg : B ≤ g) : Below B w0 w1 :=
  hb.trans ⟨h.2.2.1, h.2.2.2.1, h.2.2.2.2, Nat.le_of_eq h.1.symm, fun k hk => h.2.1 k (by omega)⟩
theorem Wrote.blk {g k : Nat} {w w1 : World} {o : Obj} (h : Wrote w w1 g) (hb : w.heap[k]? = some o) (hk : k ≠ g) : w1.heap[k]? = some o := (h.2.1 k hk).trans hb
theorem Wrote.set (w : World) (g i : Nat) (u : Value) : Wrote w (w.setCell ⟨g, i, none⟩ u) g := ⟨by simp [World.setCell], fun k hk => Below.heap_setCell _ _ _ _ hk, rfl, rfl, rfl⟩
theorem Wrote.row (w : World) (g : Nat) (cs : Array Value) : Wrote w (w.setRow g cs) g := ⟨by simp [World.setRow], fun k hk => setRow_other w g k cs hk, rfl, rfl, rfl⟩
section
variable {P : Program} {w : World} {ops : Array Oper} {rest : List Oper} {o : Oper} {a : Act} {Q : Exit → Act → World → Prop}
theorem wp_alloc_cells (hg : o.guard = none) (t : TypeId) (hop : o.op = .alloc t) (z : Array Value) (hz : (P.info? t).map (·.zero) = some (some (.agg z)))
    (h : ∀ g, g = w.heap.size → ∀ w1, w1.heap[g]? = some (.cells z t (0, 0)) → Below w.heap.size w w1 → wpList P ops Q rest (a.put o.dst (.pointer (some ⟨g, 0, none⟩))) w1) : wpList P ops Q (o :: rest) a w := by
  refine Kd.event_run hg (w1 := w.alloc (.cells z t (0, 0))) (v := .pointer (some ⟨w.heap.size, 0, none⟩)) ?_ (h _ rfl _ (blk_new w _) (below_alloc (Below.refl _ _) _))
  have hzv : (zeroValue t).run P w = .ok (.agg z) w := by
    cases hq : P.info? t with
    | none => simp [hq] at hz
    | some i => simp [hq] at hz; simp [zeroValue, typeInfo, hq, hz]
  unfold execOp
  simp only [hop, Instr.alloc, Sem.run_bind, hzv, Result.andThen_ok]
  rfl
theorem wp_store_cells (hg : o.guard = none) (t : TypeId) (x y : Operand) (hop : o.op = .store t x y) (hN : o.dst = none) (g : Nat) (cells : Array Value) (hx : a.eval x = .pointer (some ⟨g, 0, none⟩)) (hy : a.eval y = .agg cells) (t' : TypeId) (old : Array Value)
    (hb : w.heap[g]? = some (.cells old t' (0, 0))) (hi : (P.info? t).map (·.size) = some cells.size) (ho : old.size = cells.size) (h1 : cells.all (·.oneCell') = true)
    (h : ∀ w1, w1.heap[g]? = some (.cells cells t' (0, 0)) → Wrote w w1 g → wpList P ops Q rest a w1) : wpList P ops Q (o :: rest) a w := by
  refine wpList_plain hg fun K hK => wp_store_row t x y hop g cells hx hy t' old hb hi ho h1 ?_
  rw [hN]
  exact hK _ _ (h _ (setRow_heap w g _ _ _ _ hb) (Wrote.row _ _ _))
end
def wtab : List (List ByteArray) := [[⟨#[108, 116, 114]⟩, ⟨#[114, 116, 108]⟩, ⟨#[102, 105, 114, 115, 116, 45, 108, 116, 114]⟩, ⟨#[102, 105, 114, 115, 116, 45, 114, 116, 108]⟩],
  [⟨#[108, 97, 109, 45, 114, 101, 115, 105, 122, 101]⟩, ⟨#[108, 97, 109, 45, 110, 101, 97, 114]⟩, ⟨#[108, 97, 109, 45, 98, 101, 103, 105, 110]⟩, ⟨#[108, 97, 109, 45, 101, 110, 100]⟩],
  [⟨#[109, 97, 114, 107, 45, 105, 115, 111, 108, 97, 116, 101, 100]⟩, ⟨#[109, 97, 114, 107, 45, 109, 101, 100, 105, 97, 108]⟩, ⟨#[109, 97, 114, 107, 45, 114, 101, 109, 111, 118, 101]⟩, ⟨#[109, 97, 114, 107, 45, 116, 97, 116, 119, 101, 101, 108]⟩],
  [⟨#[116, 111, 45, 97, 114, 97, 98, 105, 99]⟩, ⟨#[116, 111, 45, 101, 117, 114, 111, 112, 101, 97, 110]⟩, ⟨#[99, 111, 110, 116, 101, 120, 116, 45, 108, 116, 114]⟩, ⟨#[99, 111, 110, 116, 101, 120, 116, 45, 97, 114, 97, 98, 105, 99]⟩],
  [⟨#[101, 97, 115, 116, 101, 114, 110]⟩],
  [⟨#[108, 101, 116, 116, 101, 114, 115]⟩],
  [⟨#[116, 104, 114, 111, 117, 103, 104]⟩],
  [⟨#[112, 105, 108, 101]⟩],
  [⟨#[115, 101, 101, 110]⟩],
  [⟨#[121, 101, 104]⟩],
  [⟨#[114, 101, 111, 114, 100, 101, 114]⟩],
  [⟨#[109, 97, 114, 107, 115]⟩],
  [⟨#[109, 105, 114, 114, 111, 114]⟩],
  [⟨#[115, 116, 114, 105, 112]⟩]]
def W (i : Nat) : List ByteArray := wtab.getD i []
def Up (w w' : World) (o : Nat) : Prop := w.heap.size ≤ w'.heap.size ∧ (∀ k, k < w.heap.size → k ≠ o → w'.heap[k]? = w.heap[k]?) ∧ w'.os = w.os ∧ w'.tape = w.tape ∧ w'.output = w.output
section
variable {w w1 w2 : World} {o : Nat}
theorem Up.refl (w : World) (o : Nat) : Up w w o := ⟨Nat.le_refl _, fun _ _ _ => rfl, rfl, rfl, rfl⟩
theorem Up.of_below (h : Below w.heap.size w w1) (o : Nat) : Up w w1 o := ⟨h.size, fun k hk _ => h.block k hk, h.os, h.tape, h.output⟩
theorem Up.of_wrote (h : Wrote w w1 o) : Up w w1 o := ⟨Nat.le_of_eq h.1.symm, fun k _ hk => h.2.1 k hk, h.2.2.1, h.2.2.2.1, h.2.2.2.2⟩
theorem Up.trans (h : Up w w1 o) (k : Up w1 w2 o) : Up w w2 o := ⟨Nat.le_trans h.1 k.1, fun i hi hn => (k.2.1 i (Nat.lt_of_lt_of_le hi h.1) hn).trans (h.2.1 i hi hn), k.2.2.1.trans h.2.2.1, k.2.2.2.1.trans h.2.2.2.1, k.2.2.2.2.trans h.2.2.2.2⟩
theorem Up.blk (h : Up w w1 o) {g : Nat} {b : Obj} (hb : w.heap[g]? = some b) (hn : g ≠ o) : w1.heap[g]? = some b := (h.2.1 g (blk_lt hb) hn).trans hb
theorem Up.below (h : Up w w1 o) {B : Nat} {w0 : World} (hb : Below B w0 w) (hB : B ≤ w.heap.size) (ho : B ≤ o) : Below B w0 w1 := hb.trans ⟨h.2.2.1, h.2.2.2.1, h.2.2.2.2, h.1, fun k hk => h.2.1 k (Nat.lt_of_lt_of_le hk hB) (by omega)⟩
end
def cS (r : Nat) (i : Nat) : Value := .slice (some ⟨r, 0, none⟩) (W i).length (W i).length
def cN (o i : Nat) : Value := .pointer (if i < 4 then some ⟨o, i, none⟩ else none)
def cF (o i : Nat) : Value := .pointer (if i < 4 then none else some ⟨o, i, none⟩)
def cFr (i : Nat) : Int := if 1 ≤ i ∧ i < 4 then 1 else 0
def wcells (i : Nat) : Array Value := ((W i).map Value.string).toArray
def fcells (o : Nat) (r : Nat → Nat) : Array Value := #[.slice (some ⟨r 0, 0, none⟩) 4 4, .pointer (some ⟨o, 0, none⟩), .pointer none, .int .i64 0,
  .slice (some ⟨r 1, 0, none⟩) 4 4, .pointer (some ⟨o, 1, none⟩), .pointer none, .int .i64 1,
  .slice (some ⟨r 2, 0, none⟩) 4 4, .pointer (some ⟨o, 2, none⟩), .pointer none, .int .i64 1,
  .slice (some ⟨r 3, 0, none⟩) 4 4, .pointer (some ⟨o, 3, none⟩), .pointer none, .int .i64 1,
  .slice (some ⟨r 4, 0, none⟩) 1 1, .pointer none, .pointer (some ⟨o, 4, none⟩), .int .i64 0,
  .slice (some ⟨r 5, 0, none⟩) 1 1, .pointer none, .pointer (some ⟨o, 5, none⟩), .int .i64 0,
  .slice (some ⟨r 6, 0, none⟩) 1 1, .pointer none, .pointer (some ⟨o, 6, none⟩), .int .i64 0,
  .slice (some ⟨r 7, 0, none⟩) 1 1, .pointer none, .pointer (some ⟨o, 7, none⟩), .int .i64 0,
  .slice (some ⟨r 8, 0, none⟩) 1 1, .pointer none, .pointer (some ⟨o, 8, none⟩), .int .i64 0,
  .slice (some ⟨r 9, 0, none⟩) 1 1, .pointer none, .pointer (some ⟨o, 9, none⟩), .int .i64 0,
  .slice (some ⟨r 10, 0, none⟩) 1 1, .pointer none, .pointer (some ⟨o, 10, none⟩), .int .i64 0,
  .slice (some ⟨r 11, 0, none⟩) 1 1, .pointer none, .pointer (some ⟨o, 11, none⟩), .int .i64 0,
  .slice (some ⟨r 12, 0, none⟩) 1 1, .pointer none, .pointer (some ⟨o, 12, none⟩), .int .i64 0,
  .slice (some ⟨r 13, 0, none⟩) 1 1, .pointer none, .pointer (some ⟨o, 13, none⟩), .int .i64 0]
def FAt (w : World) (o gA : Nat) (r : Nat → Nat) : Prop := w.heap[gA]? = some (.cells (fcells o r) 49 (0, 0)) ∧ (∀ i, i < 14 → w.heap[r i]? = some (.cells (wcells i) 9 (0, 0))) ∧ o < gA ∧ ∀ i, i < 14 → o < r i
theorem FAt.up {w w1 : World} {o gA : Nat} {r : Nat → Nat} (h : FAt w o gA r) (k : Up w w1 o) : FAt w1 o gA r :=
  ⟨k.blk h.1 (by have := h.2.2.1; omega), fun i hi => k.blk (h.2.1 i hi) (by have := h.2.2.2 i hi; omega), h.2.2⟩
theorem FAt.below {w w1 : World} {o gA : Nat} {r : Nat → Nat} (h : FAt w o gA r) (k : Below w.heap.size w w1) : FAt w1 o gA r := h.up (Up.of_below k o)
theorem FAt.at {w : World} {o gA : Nat} {r : Nat → Nat} (h : FAt w o gA r) (i : Nat) (hi : i < 14) : w.cell? ⟨gA, i * 4, none⟩ = some (cS (r i) i) ∧ w.cell? ⟨gA, i * 4 + 1, none⟩ = some (cN o i) ∧ w.cell? ⟨gA, i * 4 + 2, none⟩ = some (cF o i) ∧ w.cell? ⟨gA, i * 4 + 3, none⟩ = some (.int .i64 (cFr i)) := by
  obtain ⟨h1, _⟩ := h
  refine ⟨(blk_cell h1 _).trans ?_, (blk_cell h1 _).trans ?_, (blk_cell h1 _).trans ?_, (blk_cell h1 _).trans ?_⟩ <;>
  · obtain rfl | rfl | rfl | rfl | rfl | rfl | rfl | rfl | rfl | rfl | rfl | rfl | rfl | rfl : i = 0 ∨ i = 1 ∨ i = 2 ∨ i = 3 ∨ i = 4 ∨ i = 5 ∨ i = 6 ∨ i = 7 ∨ i = 8 ∨ i = 9 ∨ i = 10 ∨ i = 11 ∨ i = 12 ∨ i = 13 := by omega
    all_goals rfl
end Go.Proofs.YtknghhlielhleaaDoor.Stk
