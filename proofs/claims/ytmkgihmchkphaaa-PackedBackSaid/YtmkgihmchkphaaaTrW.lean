/- Words of ours: arrays of numbers as values, in blocks of their own and in rows. -/
import Derived.Test.YtmkgihmchkphaaaProg
import Derived.Below
import Derived.Deep.Draws
import Derived.Deep.AppendLies
import Derived.Maps.AppendAt
import Derived.OwnWalk
import Derived.Laws.BytesArg
import Derived.Laws.MakeOwn
import Derived.Laws.OwnMore
import Derived.Deep.OwnRows
import Derived.Tactics
import Derived.Lib.ConvBytes
import Derived.Laws.Slices
import Derived.WalkKit
import Derived.KernelRfl
import Derived.RowKit3
import Derived.Deep.LoopGhost
import Derived.Deep.QuietTactic
import Derived.BigQuiet
import Derived.WideLaws
import Derived.Deep.DeepCutAuto
import Derived.Deep.CutBlock
import Derived.Deep.RegionHeld3
import Derived.Laws.Rows
import Derived.Lib.AppendStr
import Derived.ArgAppend
import Derived.Laws.IdiomCopy
import Derived.OrdersHeld
import Derived.Laws.BitsLemmas
import Derived.RowKit
import Derived.Test.YtmkgihmchkphaaaWWords
import Derived.Test.YtmkgihmchkphaaaWLast
import Derived.Test.YtmkgihmchkphaaaWTab
import Derived.Test.YtmkgihmchkphaaaWFour
import Derived.Test.YtmkgihmchkphaaaWQPut
import Derived.Test.YtmkgihmchkphaaaWApart
import Derived.Test.YtmkgihmchkphaaaWArr
import Derived.Test.YtmkgihmchkphaaaWZeros
import Derived.Test.YtmkgihmchkphaaaWFoot
import Derived.Test.YtmkgihmchkphaaaWKept
import Derived.Test.YtmkgihmchkphaaaWShare
import Derived.Test.YtmkgihmchkphaaaWN
import Derived.Test.YtmkgihmchkphaaaWFootNe
import Derived.Test.YtmkgihmchkphaaaWAt
import Derived.Test.YtmkgihmchkphaaaWEqStruct
import Derived.Test.YtmkgihmchkphaaaWRepsOne
import Derived.Test.YtmkgihmchkphaaaWInv
import Derived.Test.YtmkgihmchkphaaaWInvWords
import Derived.Test.YtmkgihmchkphaaaWGuard
import Derived.Test.YtmkgihmchkphaaaWNEv
import Derived.Test.YtmkgihmchkphaaaWMore
import Derived.Deep.MidRow
import Derived.Deep.WholeRow
import Derived.Laws.StructEq
namespace Go.Proofs.Ytmkgihmchkphaaa.Stk
open Go.RowKit Go.Proofs.YtmkgihmchkphaaaW.PrintWords Go.Proofs.YtmkgihmchkphaaaW.PrintLast Go.Proofs.YtmkgihmchkphaaaW.PrintMore
attribute [local go_sem] max2_int min2_int max_two min_two max_three min_three max_four min_four   -- for this text's walks alone
set_option linter.unusedVariables false
set_option linter.unusedSimpArgs false
/-- An array's cells. -/
def arr (l : List Int) : Array Value := (l.map (Value.int .i64)).toArray
theorem arr_size (l : List Int) : (arr l).size = l.length := by simp [arr]
theorem arr_one (l : List Int) : (arr l).all (·.oneCell') = true := all_oneCell_toArray (fun v hv => by obtain ⟨_, _, rfl⟩ := List.mem_map.1 hv; rfl)
theorem arr_set (l : List Int) (i : Nat) (v : Int) : (arr l).setIfInBounds i (.int .i64 v) = arr (l.set i v) := by
  apply Array.ext'
  simp [arr]
theorem arr_get (l : List Int) (i : Nat) (hi : i < l.length) : (arr l)[i]? = some (.int .i64 (l.getD i 0)) := by simp [arr, List.getElem?_eq_getElem hi, List.getD]
/-- Only block g has been written. -/
def Wrote (w w1 : World) (g : Nat) : Prop := w1.heap.size = w.heap.size ∧ (∀ k, k ≠ g → w1.heap[k]? = w.heap[k]?) ∧ w1.os = w.os ∧ w1.tape = w.tape ∧ w1.output = w.output
theorem Wrote.below {B g : Nat} {w0 w w1 : World} (h : Wrote w w1 g) (hb : Below B w0 w) (hg : B ≤ g) : Below B w0 w1 :=
  hb.trans ⟨h.2.2.1, h.2.2.2.1, h.2.2.2.2, Nat.le_of_eq h.1.symm, fun k hk => h.2.1 k (by omega)⟩
theorem Wrote.blk {g k : Nat} {w w1 : World} {o : Obj} (h : Wrote w w1 g) (hb : w.heap[k]? = some o) (hk : k ≠ g) : w1.heap[k]? = some o := (h.2.1 k hk).trans hb
theorem Wrote.set (w : World) (g i : Nat) (u : Value) : Wrote w (w.setCell ⟨g, i, none⟩ u) g := ⟨by simp [World.setCell], fun k hk => Below.heap_setCell _ _ _ _ hk, rfl, rfl, rfl⟩
theorem Wrote.row (w : World) (g : Nat) (cs : Array Value) : Wrote w (w.setRow g cs) g := ⟨by simp [World.setRow], fun k hk => setRow_other w g k cs hk, rfl, rfl, rfl⟩
theorem Wrote.trans {w w1 w2 : World} {g : Nat} (h : Wrote w w1 g) (k : Wrote w1 w2 g) : Wrote w w2 g := ⟨k.1.trans h.1, fun i hi => (k.2.1 i hi).trans (h.2.1 i hi), k.2.2.1.trans h.2.2.1, k.2.2.2.1.trans h.2.2.2.1, k.2.2.2.2.trans h.2.2.2.2⟩
theorem run_part_arr {P : Program} (w : World) (e : TypeId) (he : P.underlying e = some (.int .i64)) (a : List Int) (i : Nat) (hi : i < a.length) : (part e (arr a) i).run P w = .ok (.int .i64 (a.getD i 0)) w := by
  have hagg : (isAgg e).run P w = .ok false w := by
    unfold isAgg
    rw [Sem.run_bind, run_underlying he w]
    rfl
  have hg := arr_get a i hi
  simp [part, Sem.run_bind, hagg, hg]
/-- Two arrays are compared: their numbers are. -/
theorem run_equalIn_arr {P : Program} (w : World) (d : Nat) (t e : TypeId) (n : Nat) (a b : List Int) (ht : P.underlying t = some (.array n e)) (he : P.underlying e = some (.int .i64)) (hs : (P.info? e).map (·.size) = some 1) (ha : a.length = n) (hb : b.length = n) :
    (Op.equalIn (d + 2) t (.agg (arr a)) (.agg (arr b))).run P w = .ok (decide (a = b)) w := by
  have hsz : (sizeOf e).run P w = .ok 1 w := by
    cases hq : P.info? e with
    | none => simp [hq] at hs
    | some i => simp [sizeOf, typeInfo, hq] at hs ⊢; exact hs
  rw [Op.equalIn]
  simp only [Sem.run_bind, run_underlying ht, Result.andThen_ok, hsz, Std.Legacy.Range.forIn_eq_forIn_range', Nat.mul_one]
  have key : ∀ (m s : Nat), s + m = n → ∀ (f : Nat → Option Bool × PUnit → Sem (ForInStep (Option Bool × PUnit))),
     (∀ i r, i < n → (f i r).run P w = .ok (if a.getD i 0 = b.getD i 0 then .yield (none, ()) else .done (some false, ())) w) →
     (forIn (List.range' s m 1) ((none : Option Bool), PUnit.unit) f).run P w = .ok (if a.drop s = b.drop s then (none, ()) else (some false, ())) w := by
    intro m
    induction m with
    | zero => intro s hsm f hf; simp [show a.drop s = [] from List.drop_eq_nil_of_le (by omega), show b.drop s = [] from List.drop_eq_nil_of_le (by omega)]
    | succ m ih =>
      intro s hsm f hf
      rw [List.range'_succ, List.forIn_cons, Sem.run_bind, hf s _ (by omega)]
      have e1 : a.drop s = a.getD s 0 :: a.drop (s + 1) := by rw [List.drop_eq_getElem_cons (by omega)]; simp [List.getD, List.getElem?_eq_getElem (show s < a.length by omega)]
      have e2 : b.drop s = b.getD s 0 :: b.drop (s + 1) := by rw [List.drop_eq_getElem_cons (by omega)]; simp [List.getD, List.getElem?_eq_getElem (show s < b.length by omega)]
      rw [e1, e2]
      by_cases h : a.getD s 0 = b.getD s 0
      · rw [if_pos h]
        simp only [Result.andThen_ok]
        rw [ih (s + 1) (by omega) f hf]
        simp only [List.cons.injEq, h, true_and]
      · rw [if_neg h]
        simp only [Result.andThen_ok, List.cons.injEq, h, false_and, if_false, Sem.run_pure]
  rw [show ([:n] : Std.Legacy.Range).size = n by simp [Std.Legacy.Range.size]]
  rw [key n 0 (by omega) _ (fun i r hi => ?_)]
  · simp only [Result.andThen_ok, List.drop_zero]
    by_cases h : a = b
    · simp [h]
    · simp [h]
  · simp only [Sem.run_bind, run_part_arr w e he a i (by omega), run_part_arr w e he b i (by omega), Result.andThen_ok, run_equalIn_int w d e .i64 .i64 _ _ he]
    generalize a.getD i 0 = x
    generalize b.getD i 0 = y
    by_cases h : x = y
    · simp [h]
    · simp [h]
/-- A part of a table: its numbers. -/
def kB : Kd (List Int) where
  sz := 128
  E := []
  K := fun _ x cs => x.length = 128 ∧ cs = x.map (Value.int .i64)
  M := fun _ _ _ x cs => x.length = 128 ∧ cs = x.map (Value.int .i64)
  K_len := fun h => by rw [h.2, List.length_map]; exact h.1
  K_one := fun h u hu => by rw [h.2] at hu; obtain ⟨_, _, rfl⟩ := List.mem_map.1 hu; rfl
  K_below := fun _ h => h
  K_of_M := fun h => h
  M_mono := fun _ h => h
  M_bound := fun h => h
  M_move := fun _ h => h
  M_lower := fun _ h => h
theorem setMany_zip (cs : List Value) : ∀ (old : Array Value) (k : Nat), k + cs.length = old.size → ((cs.zipIdx k).foldl (fun a (x : Value × Nat) => a.setIfInBounds (0 + x.2) x.1) old) = (old.toList.take k ++ cs).toArray := by
  induction cs with
  | nil => intro old k h; simp at h; apply Array.ext'; simp [List.take_of_length_le (show old.toList.length ≤ k by simp; omega)]
  | cons c cs ih =>
    intro old k h
    rw [List.zipIdx_cons, List.foldl_cons, ih _ (k + 1) (by simp at h ⊢; omega)]
    apply Array.ext'
    simp at h
    simp only [Nat.zero_add, Array.toList_setIfInBounds, List.take_add_one]
    rw [List.take_set_of_le (Nat.le_refl k)]
    simp [show k < old.size by omega]
theorem fill_one_ (cs : List Value) (old : Array Value) (n : Nat) (h : cs.length = n) (ho : old.size = n) (v : Value) (hv : v.cells = cs.toArray) : Instr.fill (fun i => some (i * n, n)) old [(0, v)] = some cs.toArray := by
  unfold Instr.fill
  simp only [hv, Nat.zero_mul]
  rw [if_neg (by simp; omega)]
  unfold Instr.fill
  congr 1
  have := setMany_zip cs old 0 (by omega)
  rw [List.take_zero, List.nil_append] at this
  rw [← Array.foldl_toList, Array.toList_zipIdx]
  exact this
section
variable {P : Program} {w : World} {ops : Array Oper} {rest : List Oper} {o : Oper} {a : Act} {Q : Exit → Act → World → Prop}
/-- A new array. -/
theorem wp_alloc_arr (hg : o.guard = none) (t : TypeId) (hop : o.op = .alloc t) (z : List Int) (hz : (P.info? t).map (·.zero) = some (some (.agg (arr z))))
    (h : ∀ g, g = w.heap.size → ∀ w1, w1.heap[g]? = some (.cells (arr z) t (0, 0)) → Below w.heap.size w w1 → wpList P ops Q rest (a.put o.dst (.pointer (some ⟨g, 0, none⟩))) w1) : wpList P ops Q (o :: rest) a w := by
  refine Kd.event_run hg (w1 := w.alloc (.cells (arr z) t (0, 0))) (v := .pointer (some ⟨w.heap.size, 0, none⟩)) ?_ (h _ rfl _ (blk_new w _) (below_alloc (Below.refl _ _) _))
  have hzv : (zeroValue t).run P w = .ok (.agg (arr z)) w := by
    cases hq : P.info? t with
    | none => simp [hq] at hz
    | some i => simp [hq] at hz; simp [zeroValue, typeInfo, hq, hz]
  unfold execOp
  simp only [hop, Instr.alloc, Sem.run_bind, hzv, Result.andThen_ok]
  rfl
/-- An array is read out of its block. -/
theorem wp_load_arr (hg : o.guard = none) (t : TypeId) (x : Operand) (hop : o.op = .load t x) (g : Nat) (hx : a.eval x = .pointer (some ⟨g, 0, none⟩)) (t' : TypeId) (l : List Int) (hb : w.heap[g]? = some (.cells (arr l) t' (0, 0)))
    (n : Nat) (e : TypeId) (hu : P.underlying t = some (.array n e)) (hi : (P.info? t).map (·.size) = some n) (hl : l.length = n) (h : wpList P ops Q rest (a.put o.dst (.agg (arr l))) w) : wpList P ops Q (o :: rest) a w :=
  wpList_plain hg fun _ hK => wp_load_row t x hop g hx t' (arr l) (0, 0) _ hb hu rfl (by rw [hi, arr_size, hl]) (hK _ _ h)
/-- An array is written into its block. -/
theorem wp_store_arr (hg : o.guard = none) (t : TypeId) (x y : Operand) (hop : o.op = .store t x y) (hN : o.dst = none) (g : Nat) (l : List Int) (hx : a.eval x = .pointer (some ⟨g, 0, none⟩)) (hy : a.eval y = .agg (arr l)) (t' : TypeId) (old : List Int)
    (hb : w.heap[g]? = some (.cells (arr old) t' (0, 0))) (n : Nat) (hi : (P.info? t).map (·.size) = some n) (hl : l.length = n) (ho : old.length = n)
    (h : ∀ w1, w1.heap[g]? = some (.cells (arr l) t' (0, 0)) → Wrote w w1 g → wpList P ops Q rest a w1) : wpList P ops Q (o :: rest) a w := by
  refine wpList_plain hg fun K hK => wp_store_row t x y hop g (arr l) hx hy t' (arr old) hb (by rw [hi, arr_size, hl]) (by rw [arr_size, arr_size, hl, ho]) (arr_one l) ?_
  rw [hN]
  exact hK _ _ (h _ (setRow_heap w g _ _ _ _ hb) (Wrote.row _ _ _))
/-- An array's element is written. -/
theorem wp_put_arr (hg : o.guard = none) (t : TypeId) (x y : Operand) (hop : o.op = .store t x y) (hN : o.dst = none) (g i : Nat) (v : Int) (hx : a.eval x = .pointer (some ⟨g, i, none⟩)) (hy : a.eval y = .int .i64 v) (t' : TypeId) (l : List Int)
    (hb : w.heap[g]? = some (.cells (arr l) t' (0, 0))) (hi : (P.info? t).map (·.size) = some 1) (hl : i < l.length)
    (h : ∀ w1, w1.heap[g]? = some (.cells (arr (l.set i v)) t' (0, 0)) → Wrote w w1 g → wpList P ops Q rest a w1) : wpList P ops Q (o :: rest) a w := by
  have hc : w.cell? ⟨g, i, none⟩ = some (.int .i64 (l.getD i 0)) := (blk_cell hb i).trans (arr_get l i hl)
  have hf := blk_frozen hb i
  have hrun : (storeVar t ⟨g, i, none⟩ (.int .i64 v)).run P w = .ok () (w.setCell ⟨g, i, none⟩ (.int .i64 v)) := by
    cases hq : P.info? t with
    | none => simp [hq] at hi
    | some inf =>
      have hs : inf.size = 1 := by simpa [hq] using hi
      have hz : (sizeOf t).run P w = .ok 1 w := by simp [sizeOf, typeInfo, hq, hs]
      have e0 : (⟨g, i, none⟩ : Addr).add 0 = ⟨g, i, none⟩ := Addr.add_mid g i 0
      simp only [storeVar, Sem.run_bind, hz, Result.andThen_ok]
      simp [Value.cells, storeCells, e0, run_store_int, stored, hc, hf, Result.andThen]
  refine wpList_plain hg fun K hK => ?_
  unfold Oper.wp execOp
  simp only [hop, hx, hy, Instr.storeAt, Instr.sureAddr, Sem.run_bind, Sem.run_pure, Result.andThen_ok, hrun]
  show K (a.put o.dst undef) _
  rw [hN]
  exact hK _ _ (h _ (by rw [← arr_set]; exact blk_set hb i _) (Wrote.set _ _ _ _))
theorem exec_load_arr (t : TypeId) (x : Operand) (hop : o.op = .load t x) (ad : Addr) (hx : a.eval x = .pointer (some ad)) (l : List Int) (hc : ∀ j v, (l.map (Value.int .i64))[j]? = some v → w.cell? (ad.add j) = some v) (n : Nat) (e : TypeId) (hu : P.underlying t = some (.array n e)) (hi : (P.info? t).map (·.size) = some n) (hl : l.length = n) :
    (execOp a.eval o).run P w = .ok (.value (.agg (arr l))) w := by
  have hls : (loadCells ad n).run P w = .ok (arr l) w := by
    have := run_loadCells_list (P := P) w ad (l.map (Value.int .i64)) hc
    rw [List.length_map, hl] at this
    exact this
  cases hq : P.info? t with
  | none => simp [hq] at hi
  | some i =>
    have hs : i.size = n := by simpa [hq] using hi
    have hagg : (isAgg t).run P w = .ok true w := by
      unfold isAgg
      rw [Sem.run_bind, run_underlying hu w]
      rfl
    unfold execOp
    simp only [hop, hx, Instr.loadAt, Instr.sureAddr, Sem.run_bind, Sem.run_pure, Result.andThen_ok]
    simp [loadVar, Sem.run_bind, hagg, sizeOf, typeInfo, hq, hs, hls]
theorem exec_eq_arr (neg : Bool) (t u : TypeId) (x y : Operand) (hop : o.op = .binOp (if neg then .neq else .eql) t x y u) (p q : List Int) (hx : a.eval x = .agg (arr p)) (hy : a.eval y = .agg (arr q)) (hm : P.eqGuardType P.depth t = false) (n : Nat) (e : TypeId) (ht : P.underlying t = some (.array n e)) (he : P.underlying e = some (.int .i64)) (hs : (P.info? e).map (·.size) = some 1) (hp : p.length = n) (hq : q.length = n) :
    (execOp a.eval o).run P w = .ok (.value (.bool (if neg then !decide (p = q) else decide (p = q)))) w := by
  have key := run_equalIn_arr (P := P) w 9998 t e n p q ht he hs hp hq
  unfold execOp
  cases neg
  · simp only [hop, hx, hy, Bool.false_eq_true, if_false, Sem.run_bind, run_eqGuard_agg w _ t x y _ _ hm, run_eql_struct w t, Result.andThen_ok]
    rw [key]
    rfl
  · simp only [hop, hx, hy, if_true, Sem.run_bind, run_eqGuard_agg w _ t x y _ _ hm, run_neq_struct w t, Result.andThen_ok]
    rw [key]
    rfl
theorem exec_row_one (t e : TypeId) (x : Operand) (hop : o.op = .buildSlice t 1 #[(0, x)]) (p : List Int) (hx : a.eval x = .agg (arr p)) (n : Nat) (ht : P.underlying t = some (.slice e)) (hi : (P.info? e).map (·.size) = some n) (hz : (P.info? e).map (·.zero) = some (some (.agg (arr (List.replicate n 0))))) (hp : p.length = n) (h0 : 0 < n) (hn : n < 2 ^ 24) :
    (execOp a.eval o).run P w = .ok (.value (.slice (some ⟨w.heap.size, 0, none⟩) 1 1)) (w.alloc (.cells (arr p) e)) := by
  have hzv : (zeroValue e).run P w = .ok (.agg (arr (List.replicate n 0))) w := by
    cases hq : P.info? e with
    | none => simp [hq] at hz
    | some i => simp [hq] at hz; simp [zeroValue, typeInfo, hq, hz]
  have hs : (sizeOf e).run P w = .ok n w := by
    cases hq : P.info? e with
    | none => simp [hq] at hi
    | some i => simp [hq] at hi; simp [sizeOf, typeInfo, hq, hi]
  unfold execOp
  have hf : Instr.fill (fun i => some (i * n, n)) ((Array.range n).map ((arr (List.replicate n 0))[· % (arr (List.replicate n 0)).size]!)) [(0, .agg (arr p))] = some (arr p) :=
    fill_one_ (p.map (Value.int .i64)) _ n (by simp [hp]) (by simp) _ rfl
  simp only [hop, Instr.buildSlice, Sem.run_bind, run_underlying ht, Result.andThen_ok, hs, Nat.one_mul, Sem.run_ite]
  rw [if_neg (by omega), if_neg (by omega)]
  simp only [Sem.run_pure, Sem.run_bind, hzv, Result.andThen_ok, Value.cells, List.map_toArray, List.map_cons, List.map_nil, hx]
  rw [hf]
  rfl
end
end Go.Proofs.Ytmkgihmchkphaaa.Stk
