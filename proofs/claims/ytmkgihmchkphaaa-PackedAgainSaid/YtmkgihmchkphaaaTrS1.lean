/- The trie: whether ranges may be. -/
import Derived.Test.YtmkgihmchkphaaaProg
import Derived.Below
import Derived.Deep.Draws
import Derived.Deep.AppendLies
import Derived.Maps.AppendAt
import Derived.OwnWalk
import Derived.Laws.BytesArg
import Derived.Laws.MakeOwn
import Derived.Laws.OwnMore
import Derived.Deep.OwnRows
import Derived.Tactics
import Derived.Lib.ConvBytes
import Derived.Laws.Slices
import Derived.WalkKit
import Derived.KernelRfl
import Derived.RowKit3
import Derived.Deep.LoopGhost
import Derived.Deep.QuietTactic
import Derived.BigQuiet
import Derived.WideLaws
import Derived.Deep.DeepCutAuto
import Derived.Deep.CutBlock
import Derived.Deep.RegionHeld3
import Derived.Laws.Rows
import Derived.Lib.AppendStr
import Derived.ArgAppend
import Derived.Laws.IdiomCopy
import Derived.OrdersHeld
import Derived.Laws.BitsLemmas
import Derived.RowKit
import Derived.Test.YtmkgihmchkphaaaWWords
import Derived.Test.YtmkgihmchkphaaaWLast
import Derived.Test.YtmkgihmchkphaaaWTab
import Derived.Test.YtmkgihmchkphaaaWFour
import Derived.Test.YtmkgihmchkphaaaWQPut
import Derived.Test.YtmkgihmchkphaaaWApart
import Derived.Test.YtmkgihmchkphaaaWArr
import Derived.Test.YtmkgihmchkphaaaWZeros
import Derived.Test.YtmkgihmchkphaaaWFoot
import Derived.Test.YtmkgihmchkphaaaWKept
import Derived.Test.YtmkgihmchkphaaaWShare
import Derived.Test.YtmkgihmchkphaaaWN
import Derived.Test.YtmkgihmchkphaaaWFootNe
import Derived.Test.YtmkgihmchkphaaaWAt
import Derived.Test.YtmkgihmchkphaaaWEqStruct
import Derived.Test.YtmkgihmchkphaaaWRepsOne
import Derived.Test.YtmkgihmchkphaaaWInv
import Derived.Test.YtmkgihmchkphaaaWInvWords
import Derived.Test.YtmkgihmchkphaaaWGuard
import Derived.Test.YtmkgihmchkphaaaWNEv
import Derived.Test.YtmkgihmchkphaaaWMore
import Derived.Deep.MidRow
import Derived.Deep.WholeRow
import Derived.Laws.StructEq
import Derived.Laws.Bits128
import Derived.Deep.Slices
namespace Go.Proofs.Ytmkgihmchkphaaa.Stk
open Go.RowKit Go.Proofs.YtmkgihmchkphaaaW.PrintWords Go.Proofs.YtmkgihmchkphaaaW.PrintLast Go.Proofs.YtmkgihmchkphaaaW.PrintMore
attribute [local go_sem] max2_int min2_int max_two min_two max_three min_three max_four min_four   -- for this text's walks alone
set_option linter.unusedVariables false
set_option linter.unusedSimpArgs false
/-- An array's cells. -/
def arr (l : List Int) : Array Value := (l.map (Value.int .i64)).toArray
theorem arr_size (l : List Int) : (arr l).size = l.length := by simp [arr]
theorem arr_one (l : List Int) : (arr l).all (·.oneCell') = true := all_oneCell_toArray (fun v hv => by obtain ⟨_, _, rfl⟩ := List.mem_map.1 hv; rfl)
theorem arr_set (l : List Int) (i : Nat) (v : Int) : (arr l).setIfInBounds i (.int .i64 v) = arr (l.set i v) := by
  apply Array.ext'
  simp [arr]
theorem arr_get (l : List Int) (i : Nat) (hi : i < l.length) : (arr l)[i]? = some (.int .i64 (l.getD i 0)) := by simp [arr, List.getElem?_eq_getElem hi, List.getD]
/-- Only block g has been written. -/
def Wrote (w w1 : World) (g : Nat) : Prop := w1.heap.size = w.heap.size ∧ (∀ k, k ≠ g → w1.heap[k]? = w.heap[k]?) ∧ w1.os = w.os ∧ w1.tape = w.tape ∧ w1.output = w.output
theorem Wrote.below {B g : Nat} {w0 w w1 : World} (h : Wrote w w1 g) (hb : Below B w0 w) (hg : B ≤ g) : Below B w0 w1 :=
  hb.trans ⟨h.2.2.1, h.2.2.2.1, h.2.2.2.2, Nat.le_of_eq h.1.symm, fun k hk => h.2.1 k (by omega)⟩
theorem Wrote.blk {g k : Nat} {w w1 : World} {o : Obj} (h : Wrote w w1 g) (hb : w.heap[k]? = some o) (hk : k ≠ g) : w1.heap[k]? = some o := (h.2.1 k hk).trans hb
theorem Wrote.set (w : World) (g i : Nat) (u : Value) : Wrote w (w.setCell ⟨g, i, none⟩ u) g := ⟨by simp [World.setCell], fun k hk => Below.heap_setCell _ _ _ _ hk, rfl, rfl, rfl⟩
theorem Wrote.row (w : World) (g : Nat) (cs : Array Value) : Wrote w (w.setRow g cs) g := ⟨by simp [World.setRow], fun k hk => setRow_other w g k cs hk, rfl, rfl, rfl⟩
theorem Wrote.trans {w w1 w2 : World} {g : Nat} (h : Wrote w w1 g) (k : Wrote w1 w2 g) : Wrote w w2 g := ⟨k.1.trans h.1, fun i hi => (k.2.1 i hi).trans (h.2.1 i hi), k.2.2.1.trans h.2.2.1, k.2.2.2.1.trans h.2.2.2.1, k.2.2.2.2.trans h.2.2.2.2⟩
theorem run_part_arr {P : Program} (w : World) (e : TypeId) (he : P.underlying e = some (.int .i64)) (a : List Int) (i : Nat) (hi : i < a.length) : (part e (arr a) i).run P w = .ok (.int .i64 (a.getD i 0)) w := by
  have hagg : (isAgg e).run P w = .ok false w := by
    unfold isAgg
    rw [Sem.run_bind, run_underlying he w]
    rfl
  have hg := arr_get a i hi
  simp [part, Sem.run_bind, hagg, hg]
/-- Two arrays are compared: their numbers are. -/
theorem run_equalIn_arr {P : Program} (w : World) (d : Nat) (t e : TypeId) (n : Nat) (a b : List Int) (ht : P.underlying t = some (.array n e)) (he : P.underlying e = some (.int .i64)) (hs : (P.info? e).map (·.size) = some 1) (ha : a.length = n) (hb : b.length = n) :
    (Op.equalIn (d + 2) t (.agg (arr a)) (.agg (arr b))).run P w = .ok (decide (a = b)) w := by
  have hsz : (sizeOf e).run P w = .ok 1 w := by
    cases hq : P.info? e with
    | none => simp [hq] at hs
    | some i => simp [sizeOf, typeInfo, hq] at hs ⊢; exact hs
  rw [Op.equalIn]
  simp only [Sem.run_bind, run_underlying ht, Result.andThen_ok, hsz, Std.Legacy.Range.forIn_eq_forIn_range', Nat.mul_one]
  have key : ∀ (m s : Nat), s + m = n → ∀ (f : Nat → Option Bool × PUnit → Sem (ForInStep (Option Bool × PUnit))),
     (∀ i r, i < n → (f i r).run P w = .ok (if a.getD i 0 = b.getD i 0 then .yield (none, ()) else .done (some false, ())) w) →
     (forIn (List.range' s m 1) ((none : Option Bool), PUnit.unit) f).run P w = .ok (if a.drop s = b.drop s then (none, ()) else (some false, ())) w := by
    intro m
    induction m with
    | zero => intro s hsm f hf; simp [show a.drop s = [] from List.drop_eq_nil_of_le (by omega), show b.drop s = [] from List.drop_eq_nil_of_le (by omega)]
    | succ m ih =>
      intro s hsm f hf
      rw [List.range'_succ, List.forIn_cons, Sem.run_bind, hf s _ (by omega)]
      have e1 : a.drop s = a.getD s 0 :: a.drop (s + 1) := by rw [List.drop_eq_getElem_cons (by omega)]; simp [List.getD, List.getElem?_eq_getElem (show s < a.length by omega)]
      have e2 : b.drop s = b.getD s 0 :: b.drop (s + 1) := by rw [List.drop_eq_getElem_cons (by omega)]; simp [List.getD, List.getElem?_eq_getElem (show s < b.length by omega)]
      rw [e1, e2]
      by_cases h : a.getD s 0 = b.getD s 0
      · rw [if_pos h]
        simp only [Result.andThen_ok]
        rw [ih (s + 1) (by omega) f hf]
        simp only [List.cons.injEq, h, true_and]
      · rw [if_neg h]
        simp only [Result.andThen_ok, List.cons.injEq, h, false_and, if_false, Sem.run_pure]
  rw [show ([:n] : Std.Legacy.Range).size = n by simp [Std.Legacy.Range.size]]
  rw [key n 0 (by omega) _ (fun i r hi => ?_)]
  · simp only [Result.andThen_ok, List.drop_zero]
    by_cases h : a = b
    · simp [h]
    · simp [h]
  · simp only [Sem.run_bind, run_part_arr w e he a i (by omega), run_part_arr w e he b i (by omega), Result.andThen_ok, run_equalIn_int w d e .i64 .i64 _ _ he]
    generalize a.getD i 0 = x
    generalize b.getD i 0 = y
    by_cases h : x = y
    · simp [h]
    · simp [h]
/-- A part of a table: its numbers. -/
def kB : Kd (List Int) where
  sz := 128
  E := []
  K := fun _ x cs => x.length = 128 ∧ cs = x.map (Value.int .i64)
  M := fun _ _ _ x cs => x.length = 128 ∧ cs = x.map (Value.int .i64)
  K_len := fun h => by rw [h.2, List.length_map]; exact h.1
  K_one := fun h u hu => by rw [h.2] at hu; obtain ⟨_, _, rfl⟩ := List.mem_map.1 hu; rfl
  K_below := fun _ h => h
  K_of_M := fun h => h
  M_mono := fun _ h => h
  M_bound := fun h => h
  M_move := fun _ h => h
  M_lower := fun _ h => h
theorem setMany_zip (cs : List Value) : ∀ (old : Array Value) (k : Nat), k + cs.length = old.size → ((cs.zipIdx k).foldl (fun a (x : Value × Nat) => a.setIfInBounds (0 + x.2) x.1) old) = (old.toList.take k ++ cs).toArray := by
  induction cs with
  | nil => intro old k h; simp at h; apply Array.ext'; simp [List.take_of_length_le (show old.toList.length ≤ k by simp; omega)]
  | cons c cs ih =>
    intro old k h
    rw [List.zipIdx_cons, List.foldl_cons, ih _ (k + 1) (by simp at h ⊢; omega)]
    apply Array.ext'
    simp at h
    simp only [Nat.zero_add, Array.toList_setIfInBounds, List.take_add_one]
    rw [List.take_set_of_le (Nat.le_refl k)]
    simp [show k < old.size by omega]
theorem fill_one_ (cs : List Value) (old : Array Value) (n : Nat) (h : cs.length = n) (ho : old.size = n) (v : Value) (hv : v.cells = cs.toArray) : Instr.fill (fun i => some (i * n, n)) old [(0, v)] = some cs.toArray := by
  unfold Instr.fill
  simp only [hv, Nat.zero_mul]
  rw [if_neg (by simp; omega)]
  unfold Instr.fill
  congr 1
  have := setMany_zip cs old 0 (by omega)
  rw [List.take_zero, List.nil_append] at this
  rw [← Array.foldl_toList, Array.toList_zipIdx]
  exact this
section
variable {P : Program} {w : World} {ops : Array Oper} {rest : List Oper} {o : Oper} {a : Act} {Q : Exit → Act → World → Prop}
/-- A new array. -/
theorem wp_alloc_arr (hg : o.guard = none) (t : TypeId) (hop : o.op = .alloc t) (z : List Int) (hz : (P.info? t).map (·.zero) = some (some (.agg (arr z))))
    (h : ∀ g, g = w.heap.size → ∀ w1, w1.heap[g]? = some (.cells (arr z) t (0, 0)) → Below w.heap.size w w1 → wpList P ops Q rest (a.put o.dst (.pointer (some ⟨g, 0, none⟩))) w1) : wpList P ops Q (o :: rest) a w := by
  refine Kd.event_run hg (w1 := w.alloc (.cells (arr z) t (0, 0))) (v := .pointer (some ⟨w.heap.size, 0, none⟩)) ?_ (h _ rfl _ (blk_new w _) (below_alloc (Below.refl _ _) _))
  have hzv : (zeroValue t).run P w = .ok (.agg (arr z)) w := by
    cases hq : P.info? t with
    | none => simp [hq] at hz
    | some i => simp [hq] at hz; simp [zeroValue, typeInfo, hq, hz]
  unfold execOp
  simp only [hop, Instr.alloc, Sem.run_bind, hzv, Result.andThen_ok]
  rfl
/-- An array is read out of its block. -/
theorem wp_load_arr (hg : o.guard = none) (t : TypeId) (x : Operand) (hop : o.op = .load t x) (g : Nat) (hx : a.eval x = .pointer (some ⟨g, 0, none⟩)) (t' : TypeId) (l : List Int) (hb : w.heap[g]? = some (.cells (arr l) t' (0, 0)))
    (n : Nat) (e : TypeId) (hu : P.underlying t = some (.array n e)) (hi : (P.info? t).map (·.size) = some n) (hl : l.length = n) (h : wpList P ops Q rest (a.put o.dst (.agg (arr l))) w) : wpList P ops Q (o :: rest) a w :=
  wpList_plain hg fun _ hK => wp_load_row t x hop g hx t' (arr l) (0, 0) _ hb hu rfl (by rw [hi, arr_size, hl]) (hK _ _ h)
/-- An array is written into its block. -/
theorem wp_store_arr (hg : o.guard = none) (t : TypeId) (x y : Operand) (hop : o.op = .store t x y) (hN : o.dst = none) (g : Nat) (l : List Int) (hx : a.eval x = .pointer (some ⟨g, 0, none⟩)) (hy : a.eval y = .agg (arr l)) (t' : TypeId) (old : List Int)
    (hb : w.heap[g]? = some (.cells (arr old) t' (0, 0))) (n : Nat) (hi : (P.info? t).map (·.size) = some n) (hl : l.length = n) (ho : old.length = n)
    (h : ∀ w1, w1.heap[g]? = some (.cells (arr l) t' (0, 0)) → Wrote w w1 g → wpList P ops Q rest a w1) : wpList P ops Q (o :: rest) a w := by
  refine wpList_plain hg fun K hK => wp_store_row t x y hop g (arr l) hx hy t' (arr old) hb (by rw [hi, arr_size, hl]) (by rw [arr_size, arr_size, hl, ho]) (arr_one l) ?_
  rw [hN]
  exact hK _ _ (h _ (setRow_heap w g _ _ _ _ hb) (Wrote.row _ _ _))
/-- An array's element is written. -/
theorem wp_put_arr (hg : o.guard = none) (t : TypeId) (x y : Operand) (hop : o.op = .store t x y) (hN : o.dst = none) (g i : Nat) (v : Int) (hx : a.eval x = .pointer (some ⟨g, i, none⟩)) (hy : a.eval y = .int .i64 v) (t' : TypeId) (l : List Int)
    (hb : w.heap[g]? = some (.cells (arr l) t' (0, 0))) (hi : (P.info? t).map (·.size) = some 1) (hl : i < l.length)
    (h : ∀ w1, w1.heap[g]? = some (.cells (arr (l.set i v)) t' (0, 0)) → Wrote w w1 g → wpList P ops Q rest a w1) : wpList P ops Q (o :: rest) a w := by
  have hc : w.cell? ⟨g, i, none⟩ = some (.int .i64 (l.getD i 0)) := (blk_cell hb i).trans (arr_get l i hl)
  have hf := blk_frozen hb i
  have hrun : (storeVar t ⟨g, i, none⟩ (.int .i64 v)).run P w = .ok () (w.setCell ⟨g, i, none⟩ (.int .i64 v)) := by
    cases hq : P.info? t with
    | none => simp [hq] at hi
    | some inf =>
      have hs : inf.size = 1 := by simpa [hq] using hi
      have hz : (sizeOf t).run P w = .ok 1 w := by simp [sizeOf, typeInfo, hq, hs]
      have e0 : (⟨g, i, none⟩ : Addr).add 0 = ⟨g, i, none⟩ := Addr.add_mid g i 0
      simp only [storeVar, Sem.run_bind, hz, Result.andThen_ok]
      simp [Value.cells, storeCells, e0, run_store_int, stored, hc, hf, Result.andThen]
  refine wpList_plain hg fun K hK => ?_
  unfold Oper.wp execOp
  simp only [hop, hx, hy, Instr.storeAt, Instr.sureAddr, Sem.run_bind, Sem.run_pure, Result.andThen_ok, hrun]
  show K (a.put o.dst undef) _
  rw [hN]
  exact hK _ _ (h _ (by rw [← arr_set]; exact blk_set hb i _) (Wrote.set _ _ _ _))
theorem exec_load_arr (t : TypeId) (x : Operand) (hop : o.op = .load t x) (ad : Addr) (hx : a.eval x = .pointer (some ad)) (l : List Int) (hc : ∀ j v, (l.map (Value.int .i64))[j]? = some v → w.cell? (ad.add j) = some v) (n : Nat) (e : TypeId) (hu : P.underlying t = some (.array n e)) (hi : (P.info? t).map (·.size) = some n) (hl : l.length = n) :
    (execOp a.eval o).run P w = .ok (.value (.agg (arr l))) w := by
  have hls : (loadCells ad n).run P w = .ok (arr l) w := by
    have := run_loadCells_list (P := P) w ad (l.map (Value.int .i64)) hc
    rw [List.length_map, hl] at this
    exact this
  cases hq : P.info? t with
  | none => simp [hq] at hi
  | some i =>
    have hs : i.size = n := by simpa [hq] using hi
    have hagg : (isAgg t).run P w = .ok true w := by
      unfold isAgg
      rw [Sem.run_bind, run_underlying hu w]
      rfl
    unfold execOp
    simp only [hop, hx, Instr.loadAt, Instr.sureAddr, Sem.run_bind, Sem.run_pure, Result.andThen_ok]
    simp [loadVar, Sem.run_bind, hagg, sizeOf, typeInfo, hq, hs, hls]
theorem exec_eq_arr (neg : Bool) (t u : TypeId) (x y : Operand) (hop : o.op = .binOp (if neg then .neq else .eql) t x y u) (p q : List Int) (hx : a.eval x = .agg (arr p)) (hy : a.eval y = .agg (arr q)) (hm : P.eqGuardType P.depth t = false) (n : Nat) (e : TypeId) (ht : P.underlying t = some (.array n e)) (he : P.underlying e = some (.int .i64)) (hs : (P.info? e).map (·.size) = some 1) (hp : p.length = n) (hq : q.length = n) :
    (execOp a.eval o).run P w = .ok (.value (.bool (if neg then !decide (p = q) else decide (p = q)))) w := by
  have key := run_equalIn_arr (P := P) w 9998 t e n p q ht he hs hp hq
  unfold execOp
  cases neg
  · simp only [hop, hx, hy, Bool.false_eq_true, if_false, Sem.run_bind, run_eqGuard_agg w _ t x y _ _ hm, run_eql_struct w t, Result.andThen_ok]
    rw [key]
    rfl
  · simp only [hop, hx, hy, if_true, Sem.run_bind, run_eqGuard_agg w _ t x y _ _ hm, run_neq_struct w t, Result.andThen_ok]
    rw [key]
    rfl
theorem exec_row_one (t e : TypeId) (x : Operand) (hop : o.op = .buildSlice t 1 #[(0, x)]) (p : List Int) (hx : a.eval x = .agg (arr p)) (n : Nat) (ht : P.underlying t = some (.slice e)) (hi : (P.info? e).map (·.size) = some n) (hz : (P.info? e).map (·.zero) = some (some (.agg (arr (List.replicate n 0))))) (hp : p.length = n) (h0 : 0 < n) (hn : n < 2 ^ 24) :
    (execOp a.eval o).run P w = .ok (.value (.slice (some ⟨w.heap.size, 0, none⟩) 1 1)) (w.alloc (.cells (arr p) e)) := by
  have hzv : (zeroValue e).run P w = .ok (.agg (arr (List.replicate n 0))) w := by
    cases hq : P.info? e with
    | none => simp [hq] at hz
    | some i => simp [hq] at hz; simp [zeroValue, typeInfo, hq, hz]
  have hs : (sizeOf e).run P w = .ok n w := by
    cases hq : P.info? e with
    | none => simp [hq] at hi
    | some i => simp [hq] at hi; simp [sizeOf, typeInfo, hq, hi]
  unfold execOp
  have hf : Instr.fill (fun i => some (i * n, n)) ((Array.range n).map ((arr (List.replicate n 0))[· % (arr (List.replicate n 0)).size]!)) [(0, .agg (arr p))] = some (arr p) :=
    fill_one_ (p.map (Value.int .i64)) _ n (by simp [hp]) (by simp) _ rfl
  simp only [hop, Instr.buildSlice, Sem.run_bind, run_underlying ht, Result.andThen_ok, hs, Nat.one_mul, Sem.run_ite]
  rw [if_neg (by omega), if_neg (by omega)]
  simp only [Sem.run_pure, Sem.run_bind, hzv, Result.andThen_ok, Value.cells, List.map_toArray, List.map_cons, List.map_nil, hx]
  rw [hf]
  rfl
end
/-- A part of one value. -/
def rep (v : Int) : List Int := List.replicate 128 v
theorem rep_len {v : Int} : (rep v).length = 128 := List.length_replicate
theorem zero_blk : (Try.prog.info? 107).map (·.zero) = some (some (.agg (arr (rep 0)))) := by kernel_rfl
theorem size_blk : (Try.prog.info? 107).map (·.size) = some 128 := by kernel_rfl
theorem all_eq {l : List Int} {v : Int} (hl : l.length = 128) (h : ∀ j, j < 128 → l.getD j 0 = v) : l = rep v := by
  unfold rep
  rw [List.eq_replicate_iff]
  refine ⟨hl, fun b hb => ?_⟩
  obtain ⟨j, hj, rfl⟩ := List.mem_iff_getElem.1 hb
  have := h j (by omega)
  simpa [List.getD, List.getElem?_eq_getElem hj] using this
theorem size_int : (Try.prog.info? 3).map (·.size) = some 1 := by kernel_rfl
set_option maxHeartbeats 8000000 in
set_option maxRecDepth 100000 in
theorem p_even (v : Int) (w : World) : Calls Try.prog 98 #[.int .i64 v] w fun e w' => e = .returned (.agg (arr (rep v))) ∧ Below w.heap.size w w' := by
  go_enter Try.func98, Try.ntmps98
  go_wp2_with (first | ((with_reducible refine gate_dst (N := 2) rfl ?_); refine wp_alloc_arr rfl 107 rfl (rep 0) zero_blk ?_; intro g2 hg w2 hb hB; have HB2 := Aside0.mk hb; have HBB2 := Aside0.mk hB; have HG2 := Aside0.mk hg; clear hg hb hB) | ((with_reducible refine gate_dst (N := 3) rfl ?_); refine wp_alloc_arr rfl 107 rfl (rep 0) zero_blk ?_; intro g3 hg w3 hb hB; have hl2 := blk_lt HB2.out; have HB3 := Aside0.mk hb; replace HB2 := Aside0.mk (blk_below HB2.out hB); have HBB := Aside0.mk (below_step HBB2.out hB); have HG3 := Aside0.mk (show g2 ≠ g3 ∧ w.heap.size ≤ g2 ∧ w.heap.size ≤ g3 by have := HG2.out; have := HBB2.out.size; omega); clear hl2 hg hb hB))
  go_loopg [5] 128 (fun kq v5 w' => ∃ (i : Nat) (l : List Int), v5 = .int .i64 (i : Int) ∧ Aside0 (i ≤ 128 ∧ 128 - i = kq ∧ l.length = 128 ∧ ∀ j, j < i → l.getD j 0 = v) ∧ Aside0 (w'.heap[g3]? = some (.cells (arr l) 107 (0, 0))) ∧ Aside0 (w'.heap[g2]? = some (.cells (arr (rep 0)) 107 (0, 0))) ∧ Aside0 (Below w.heap.size w w'))
  case atStart => exact ⟨0, _, rfl, ⟨Nat.zero_le _, rfl, rep_len, fun j hj => by omega⟩, HB3, HB2, HBB⟩
  case round =>
    clear HB3 HB2 HBB
    obtain ⟨i, l, rfl, HI, H3, H2, HB⟩ := hrel
    by_cases hlt : i < 128
    · have b0 : decide ((i : Int) < 128) = true := decide_eq_true (by omega)
      have b1 : decide (i < 128) = true := decide_eq_true hlt
      have hw := (show wrap64 ((i : Int) + 1) = ((i + 1 : Nat) : Int) by unfold wrap64; omega)
      have hi0 : (0 : Int) ≤ (i : Int) := by omega
      have hi1 : (i : Int) < 128 := by omega
      replace hi0 := eq_true hi0
      replace hi1 := eq_true hi1
      have HLT := Aside0.mk hlt
      clear hlt
      go_wp2_with (first | ((with_reducible refine gate_store (t := 3) (p := 10) rfl ?_); refine wp_put_arr rfl 3 _ _ rfl rfl g3 i v (by first | rfl | go_simp) rfl 107 l H3.out size_int (by have := HI.out; have := HLT.out; omega) ?_; intro w4 h4 hw4; have H4 := Aside0.mk h4; have HO4 := Aside0.mk (hw4.blk H2.out HG3.out.1); have HB4 := Aside0.mk (hw4.below HB.out HG3.out.2.2); clear h4 hw4))
      go_roundg (128 - (i + 1))
      case measure => have := HI.out; have := HLT.out; omega
      case rel => exact ⟨i + 1, _, by first | rfl | go_num | rw [hw], ⟨by have := HLT.out; omega, rfl, by rw [List.length_set]; exact HI.out.2.2.1, fun j hj => by
        by_cases e : j = i
        · subst e; simp [List.getD, HI.out.2.2.1, HLT.out]
        · have := HI.out.2.2.2 j (by omega); simpa [List.getD, List.getElem?_set_ne (Ne.symm e)] using this⟩, H4, HO4, HB4⟩
    · have b0 : decide ((i : Int) < 128) = false := decide_eq_false (by omega)
      have b1 : decide (i < 128) = false := decide_eq_false hlt
      have HE := Aside0.mk (show l = rep v from all_eq HI.out.2.2.1 (fun j hj => HI.out.2.2.2 j (by omega)))
      clear hlt
      go_wp2_with (first | ((with_reducible refine gate_dst (N := 12) rfl ?_); refine wp_load_arr rfl 107 _ rfl g3 rfl 107 l H3.out 128 3 Try.underlying107 size_blk HI.out.2.2.1 ?_) | ((with_reducible refine gate_store (t := 107) (p := 2) rfl ?_); refine wp_store_arr rfl 107 _ _ rfl rfl g2 l rfl rfl 107 _ H2.out 128 size_blk HI.out.2.2.1 rep_len ?_; intro w5 h5 hw5; have H5 := Aside0.mk h5; have HB5 := Aside0.mk (hw5.below HB.out HG3.out.2.1); clear h5 hw5))
      (try simp only [Exit.inBlock, Exit.then])
      refine bodyPost_ret (results_single rfl (.cell g2 107 (arr l) (0, 0) _ rfl H5.out Try.underlying107 rfl (by rw [size_blk, arr_size, HI.out.2.2.1]) .nil)) rfl ?_
      exact ⟨by first | rfl | (rw [HE.out]), HB5.out⟩
/-- A table at block g: which block each part has, and the blocks. -/
def TabR (w : World) (g : Nat) (fs : List Int) (bs : List (List Int)) (z : Int) (made : Bool) : Prop :=
  ∃ (A1 : Option Addr) (c1 : Nat) (A2 : Option Addr) (c2 : Nat), w.heap[g]? = some (.cells #[.slice A1 fs.length c1, .slice A2 bs.length c2, .int .i64 z, .bool made] 105 (0, 0)) ∧ (fs.length ≤ c1 ∧ Kd.C (Kd.int .i64) w A1 fs.length fs) ∧ (bs.length ≤ c2 ∧ Kd.C kB w A2 bs.length bs)
section
variable {w w' : World} {g : Nat} {fs : List Int} {bs : List (List Int)} {z : Int} {made : Bool}
theorem tab_below (h : TabR w g fs bs z made) (hb : Below w.heap.size w w') : TabR w' g fs bs z made := by
  obtain ⟨A1, c1, A2, c2, hG, h1, h2⟩ := h
  exact ⟨A1, c1, A2, c2, blk_below hG hb, ⟨h1.1, Kd.C_below h1.2 hb⟩, ⟨h2.1, Kd.C_below h2.2 hb⟩⟩
theorem tab_lt (h : TabR w g fs bs z made) : g < w.heap.size := by
  obtain ⟨A1, c1, A2, c2, hG, _⟩ := h
  exact blk_lt hG
end
theorem map_get (l : List Int) (j : Nat) (hj : j < l.length) : (l.map (Value.int .i64))[j]? = some (.int .i64 (l.getD j 0)) := by simp [List.getElem?_eq_getElem hj, List.getD]
theorem at_B {w : World} {A : Option Addr} {n : Nat} {xs : List (List Int)} (h : Kd.C kB w A n xs) (i : Nat) (h1 : i < n) : (xs.getD i []).length = 128 ∧ ∃ ad, A = some ad ∧ ∀ j v, ((xs.getD i []).map (Value.int .i64))[j]? = some v → w.cell? (ad.add (i * 128 + j)) = some v := by
  obtain ⟨ad, c, e, _, hK, hc0⟩ := Kd.C_get h [] (i : Int) (by omega) (by omega)
  rw [Int.toNat_natCast] at hK hc0
  obtain ⟨hl, rfl⟩ := hK
  exact ⟨hl, ad, e, hc0⟩
/-- What a table has at a code. -/
def tabv (fs : List Int) (bs : List (List Int)) (c : Int) : Int := (bs.getD (fs.getD (c / 128).toNat 0).toNat []).getD (c % 128).toNat 0
/-- A table's parts are there. -/
def TabOk (fs : List Int) (bs : List (List Int)) : Prop := fs.length = 8704 ∧ ∀ p, p < 8704 → 0 ≤ fs.getD p 0 ∧ fs.getD p 0 < (bs.length : Int)
set_option maxHeartbeats 8000000 in
set_option maxRecDepth 100000 in
theorem p_at {w : World} {g : Nat} {fs : List Int} {bs : List (List Int)} {z : Int} (h : TabR w g fs bs z true) (hk : TabOk fs bs) (c : Int) (h0 : 0 ≤ c) (h1 : c ≤ 1114111) :
    Calls Try.prog 84 #[.pointer (some ⟨g, 0, none⟩), .int .i64 c] w fun e w' => e = .returned (.int .i64 (tabv fs bs c)) ∧ Drawn0 w w' := by
  obtain ⟨A1, c1, A2, c2, hG, ⟨hc1, hC1⟩, ⟨hc2, hC2⟩⟩ := h
  have k0 := (blk_cell hG 0).trans rfl
  have k1 := (blk_cell hG 1).trans rfl
  have hp0 : 0 ≤ c / 128 := by omega
  have hp1 : c / 128 < (fs.length : Int) := by have := hk.1; omega
  obtain ⟨a1, e, x1⟩ := Kd.at_int hC1 (c / 128) hp0 (by exact_mod_cast hp1)
  cases e
  obtain ⟨b0, b1⟩ := hk.2 (c / 128).toNat (by have := hk.1; omega)
  have e1 : rd fs (c / 128) = fs.getD (c / 128).toNat 0 := rfl
  obtain ⟨b, hb⟩ : ∃ b : Nat, fs.getD (c / 128).toNat 0 = (b : Int) := ⟨(fs.getD (c / 128).toNat 0).toNat, by omega⟩
  have hb1 : b < bs.length := by omega
  obtain ⟨hl, a2, e, x2⟩ := at_B hC2 b hb1
  cases e
  have ev : tabv fs bs c = (bs.getD b []).getD (c % 128).toNat 0 := by unfold tabv; rw [hb, Int.toNat_natCast]
  rw [ev]
  rw [e1, hb] at x1
  have x3 : w.cell? ((a2.add (b * 128)).add (c % 128).toNat) = some (.int .i64 ((bs.getD b []).getD (c % 128).toNat 0)) := by
    rw [Go.Deep.add_add]
    exact x2 _ _ (map_get _ _ (by rw [hl]; omega))
  generalize (bs.getD b []).getD (c % 128).toNat 0 = v at x3 ⊢
  have hbit : Go.bits .and .i64 c 127 = c % 128 := i64_and127 c
  have q0 : (0 ≤ c % 128) = True := eq_true (by omega)
  have q1 : (c % 128 < 128) = True := eq_true (by omega)
  have r0 : (0 ≤ c / 128) = True := eq_true hp0
  have r1 : (c / 128 < (fs.length : Int)) = True := eq_true hp1
  have s1 : ((b : Int) < (bs.length : Int)) = True := eq_true (by omega)
  have s2 : (b < bs.length) = True := eq_true hb1
  clear hp0 hp1 hb1
  clear x2 ev b0 b1 e1 hb hl
  go_enter Try.func84, Try.ntmps84
  go_wp2
  go_quiet (first | done)
  go_wp2
  go_ret
  exact ⟨rfl, by repeat (first | exact Drawn0.refl _ | apply Drawn0.step)⟩
theorem b_at {w : World} {g : Nat} {fs : List Int} {bs : List (List Int)} {z : Int} (h : TabR w g fs bs z true) (hk : TabOk fs bs) (c : Int) (h0 : 0 ≤ c) (h1 : c ≤ 1114111) :
    Calls Try.prog 84 #[.pointer (some ⟨g, 0, none⟩), .int .i64 c] w fun e w' => e = .returned (.int .i64 (tabv fs bs c)) ∧ Below w.heap.size w w' := (p_at h hk c h0 h1).mono fun _ _ ⟨a, n, e⟩ => ⟨a, by rw [e]; exact pw_below_drewN (Below.refl _ _) n⟩
set_option maxHeartbeats 8000000 in
set_option maxRecDepth 100000 in
theorem p_has {w : World} {g : Nat} {fs : List Int} {bs : List (List Int)} {z : Int} {made : Bool} (h : TabR w g fs bs z made) (c : Int) (r : Bool) (hr : r = (made && decide (0 ≤ c) && decide (c ≤ 1114111))) :
    Calls Try.prog 83 #[.pointer (some ⟨g, 0, none⟩), .int .i64 c] w fun e w' => e = .returned (.bool r) ∧ Drawn0 w w' := by
  obtain ⟨A1, c1, A2, c2, hG, ⟨hc1, hC1⟩, ⟨hc2, hC2⟩⟩ := h
  have k2 := (blk_cell hG 2).trans rfl
  have k3 := (blk_cell hG 3).trans rfl
  subst hr
  cases made with
  | false =>
    go_enter Try.func83, Try.ntmps83
    go_wp2
    go_ret
    exact ⟨by first | rfl | (simp; done) | (simp [*]; done), by repeat (first | exact Drawn0.refl _ | apply Drawn0.step)⟩
  | true =>
    by_cases c1 : 0 ≤ c
    · have b1 : decide (0 ≤ c) = true := decide_eq_true c1
      have b2 : (c ≥ 0) = True := eq_true c1
      by_cases c2 : c ≤ 1114111
      · have b3 : decide (c ≤ 1114111) = true := decide_eq_true c2
        rw [b1, b3]
        clear c1 c2
        go_enter Try.func83, Try.ntmps83
        go_wp2
        go_ret
        exact ⟨by first | rfl | (simp; done) | (simp [*]; done), by repeat (first | exact Drawn0.refl _ | apply Drawn0.step)⟩
      · have b3 : decide (c ≤ 1114111) = false := decide_eq_false c2
        rw [b1, b3]
        clear c1 c2
        go_enter Try.func83, Try.ntmps83
        go_wp2
        go_ret
        exact ⟨by first | rfl | (simp; done) | (simp [*]; done), by repeat (first | exact Drawn0.refl _ | apply Drawn0.step)⟩
    · have b1 : decide (0 ≤ c) = false := decide_eq_false c1
      rw [b1]
      clear c1
      go_enter Try.func83, Try.ntmps83
      go_wp2
      go_ret
      exact ⟨by first | rfl | (simp; done) | (simp [*]; done), by repeat (first | exact Drawn0.refl _ | apply Drawn0.step)⟩
theorem p_has_nil (c : Int) (w : World) : Calls Try.prog 83 #[.pointer none, .int .i64 c] w fun e w' => e = .returned (.bool false) ∧ Drawn0 w w' := by
  go_enter Try.func83, Try.ntmps83
  go_wp2
  go_ret
  exact ⟨by first | rfl | (simp; done) | (simp [*]; done), by repeat (first | exact Drawn0.refl _ | apply Drawn0.step)⟩
set_option maxHeartbeats 8000000 in
set_option maxRecDepth 100000 in
theorem p_get {w : World} {g : Nat} {fs : List Int} {bs : List (List Int)} {z : Int} (h : TabR w g fs bs z true) (hk : TabOk fs bs) (c : Int) :
    Calls Try.prog 46 #[.pointer (some ⟨g, 0, none⟩), .int .i64 c] w fun e w' => e = .returned (.int .i64 (if 0 ≤ c ∧ c ≤ 1114111 then tabv fs bs c else z)) ∧ Below w.heap.size w w' := by
  have HT := Aside0.mk h
  have HK := Aside0.mk hk
  obtain ⟨A1, c1, A2, c2, hG, ⟨hc1, hC1⟩, ⟨hc2, hC2⟩⟩ := h
  have HK2 := Aside0.mk ((blk_cell hG 2).trans rfl)
  clear hG hC1 hC2
  by_cases hc : 0 ≤ c ∧ c ≤ 1114111
  · rw [if_pos hc]
    have HC := Aside0.mk hc
    clear hc hk
    go_enter Try.func46, Try.ntmps46
    go_wp2_with (first | (go_at_call 83; (with_reducible refine (p_has HT.out c true (by simp [HC.out.1, HC.out.2])).mono ?_); rintro e w1 ⟨rfl, hd⟩; have HB := Aside0.mk (show Below w.heap.size w w1 from by obtain ⟨n, e⟩ := hd; rw [e]; exact pw_below_drewN (Below.refl _ _) n); have k2 := pw_cell_below HB.out HK2.out; clear hd) | (go_at_call 84; (with_reducible refine (b_at (tab_below HT.out HB.out) HK.out c HC.out.1 HC.out.2).mono ?_); rintro e w2 ⟨rfl, hb⟩; have HB2 := Aside0.mk (below_step HB.out hb); clear hb))
    go_ret
    exact ⟨by first | rfl | (simp; done), HB2.out⟩
  · rw [if_neg hc]
    have HC := Aside0.mk hc
    clear hc hk
    go_enter Try.func46, Try.ntmps46
    go_wp2_with (first | (go_at_call 83; (with_reducible refine (p_has HT.out c false (by have := HC.out; simp; omega)).mono ?_); rintro e w1 ⟨rfl, hd⟩; have HB := Aside0.mk (show Below w.heap.size w w1 from by obtain ⟨n, e⟩ := hd; rw [e]; exact pw_below_drewN (Below.refl _ _) n); have k2 := pw_cell_below HB.out HK2.out; clear hd))
    go_ret
    exact ⟨by first | rfl | (simp; done), by first | exact HB.out | exact HB.out.drew⟩
set_option maxHeartbeats 8000000 in
set_option maxRecDepth 100000 in
theorem p_get_nil (c : Int) (w : World) : Calls Try.prog 46 #[.pointer none, .int .i64 c] w fun e w' => e = .returned (.int .i64 0) ∧ Below w.heap.size w w' := by
  go_enter Try.func46, Try.ntmps46
  go_wp2_with (first | (go_at_call 83; (with_reducible refine (p_has_nil c w).mono ?_); rintro e w1 ⟨rfl, hd⟩; have HB := Aside0.mk (show Below w.heap.size w w1 from by obtain ⟨n, e⟩ := hd; rw [e]; exact pw_below_drewN (Below.refl _ _) n); clear hd))
  go_ret
  exact ⟨by first | rfl | (simp; done), HB.out⟩
theorem p_get_zero {w : World} {g : Nat} {fs : List Int} {bs : List (List Int)} {z : Int} (h : TabR w g fs bs z false) (c : Int) :
    Calls Try.prog 46 #[.pointer (some ⟨g, 0, none⟩), .int .i64 c] w fun e w' => e = .returned (.int .i64 z) ∧ Below w.heap.size w w' := by
  have HT := Aside0.mk h
  obtain ⟨A1, c1, A2, c2, hG, ⟨hc1, hC1⟩, ⟨hc2, hC2⟩⟩ := h
  have HK2 := Aside0.mk ((blk_cell hG 2).trans rfl)
  clear hG hC1 hC2
  go_enter Try.func46, Try.ntmps46
  go_wp2_with (first | (go_at_call 83; (with_reducible refine (p_has HT.out c false rfl).mono ?_); rintro e w1 ⟨rfl, hd⟩; have HB := Aside0.mk (show Below w.heap.size w w1 from by obtain ⟨n, e⟩ := hd; rw [e]; exact pw_below_drewN (Below.refl _ _) n); have k2 := pw_cell_below HB.out HK2.out; clear hd))
  go_ret
  exact ⟨by first | rfl | (simp; done), HB.out⟩
set_option maxHeartbeats 8000000 in
set_option maxRecDepth 100000 in
theorem p_whole {w : World} {g : Nat} {fs : List Int} {bs : List (List Int)} {z : Int} (h : TabR w g fs bs z true) (hk : TabOk fs bs) (p q v : Int) (hpq : p = q + 1) (h0 : 0 ≤ q) (h1 : p < 8704) :
    Calls Try.prog 105 #[.pointer (some ⟨g, 0, none⟩), .int .i64 p, .int .i64 v] w fun e w' => e = .returned (.bool (decide (rd fs p = rd fs q) && decide (bs.getD (rd fs p).toNat [] = rep v))) ∧ Below w.heap.size w w' := by
  have HT := Aside0.mk h
  obtain ⟨A1, c1, A2, c2, hG, ⟨hc1, hC1⟩, ⟨hc2, hC2⟩⟩ := h
  have k0 := (blk_cell hG 0).trans rfl
  have k1 := (blk_cell hG 1).trans rfl
  have hl := hk.1
  obtain ⟨a1, e, x1⟩ := Kd.at_int hC1 p (by omega) (by omega)
  cases e
  obtain ⟨_, e, x2⟩ := Kd.at_int hC1 q (by omega) (by omega)
  cases e
  obtain ⟨b0, b1⟩ := hk.2 p.toNat (by omega)
  obtain ⟨d0, d1⟩ := hk.2 q.toNat (by omega)
  obtain ⟨x, hx⟩ : ∃ x : Nat, rd fs p = (x : Int) := ⟨(rd fs p).toNat, by unfold rd; omega⟩
  obtain ⟨y, hy⟩ : ∃ y : Nat, rd fs q = (y : Int) := ⟨(rd fs q).toNat, by unfold rd; omega⟩
  rw [hx] at x1
  rw [hy] at x2
  have hb1 : x < bs.length := by unfold rd at hx; omega
  obtain ⟨hL, a2, e, x3⟩ := at_B hC2 x hb1
  cases e
  have HL := Aside0.mk hL
  have HC := Aside0.mk (show ∀ w', Below w.heap.size w w' → (fun w' => w'.cell? ⟨g, 0, none⟩ = some (.slice (some a1) fs.length c1) ∧ w'.cell? ⟨g, 1, none⟩ = some (.slice (some a2) bs.length c2) ∧ w'.cell? (a1.add p.toNat) = some (.int .i64 (x : Int)) ∧ w'.cell? (a1.add q.toNat) = some (.int .i64 (y : Int)) ∧ (∀ j v, ((bs.getD x []).map (Value.int .i64))[j]? = some v → w'.cell? ((a2.add (x * 128)).add j) = some v)) w' from fun w' hb => ⟨pw_cell_below hb k0, pw_cell_below hb k1, pw_cell_below hb x1, pw_cell_below hb x2, fun j v hv => by rw [Go.Deep.add_add]; exact pw_cell_below hb (x3 j v hv)⟩)
  rw [hx, hy, Int.toNat_natCast]
  have hw := (show wrap64 (p - 1) = q by unfold wrap64; omega)
  have hw2 : IntKind.i64.wrap (p - 1) = q := (i64_w _).trans hw
  have q0 : (0 ≤ p) = True := eq_true (by omega)
  have q1 : (p < (fs.length : Int)) = True := eq_true (by omega)
  have r0 : (0 ≤ q) = True := eq_true (by omega)
  have r1 : (q < (fs.length : Int)) = True := eq_true (by omega)
  have s1 : ((x : Int) < (bs.length : Int)) = True := eq_true (by omega)
  have s2 : (x < bs.length) = True := eq_true hb1
  clear hb1 b0 b1 d0 d1 hL x1 x2 x3 k0 k1 hG hC1 hC2 hx hy hk h0 h1 hc1 hc2 hl hpq
  by_cases hxy : x = y
  · subst hxy
    have e1 : decide ((x : Int) = (x : Int)) = true := decide_eq_true rfl
    rw [e1, Bool.true_and]
    clear e1
    generalize hr : decide (bs.getD x [] = rep v) = r
    have HR := Aside0.mk hr
    clear hr
    go_enter Try.func105, Try.ntmps105
    go_wp2
    refine start_ (n := 39) (S := fun w' => Below w.heap.size w w' ∧  w'.cell? ⟨g, 0, none⟩ = some (.slice (some a1) fs.length c1) ∧ w'.cell? ⟨g, 1, none⟩ = some (.slice (some a2) bs.length c2) ∧ w'.cell? (a1.add p.toNat) = some (.int .i64 (x : Int)) ∧ w'.cell? (a1.add q.toNat) = some (.int .i64 (x : Int)) ∧ (∀ j v, ((bs.getD x []).map (Value.int .i64))[j]? = some v → w'.cell? ((a2.add (x * 128)).add j) = some v)) (ds := []) #[false, false, false, false, false, false, false, false, false, false, false, false, false, false, false, false, false, false, false, false, false, false, false, false, false, false, false, false, false, false, false, false, false, false, false, false, false, false, false] (by kernel_rfl) rfl rfl ⟨below_drew1 (Below.refl _ _), HC.out _ (below_drew1 (Below.refl _ _))⟩ (fun hHeld => ?_)
    refine pure_ (i := 0) (N := some 7) (v := ?_) (a' := ?_) #[true, false, false, false, false, false, false, false, false, false, false, false, false, false, false, false, false, false, false, false, false, false, false, false, false, false, false, false, false, false, false, false, false, false, false, false, false, false, false] rfl rfl (by kernel_rfl) (fun _ _ _ h => h) (Or.inl ⟨by rfl, ?_⟩) ?_ ?_
    rotate_left
    · intro w'
      go_simp
      with_reducible rfl
    rotate_left
    · simp only [Act.put, List.setIfInBounds_toArray, List.set_cons_zero, List.set_cons_succ, i64_w, i32_w]
      rfl
    refine pure_ (i := 1) (N := some 8) (v := ?_) (a' := ?_) #[true, true, false, false, false, false, false, false, false, false, false, false, false, false, false, false, false, false, false, false, false, false, false, false, false, false, false, false, false, false, false, false, false, false, false, false, false, false, false] rfl rfl (by kernel_rfl) (fun _ _ _ h => h) (Or.inl ⟨by rfl, ?_⟩) ?_ ?_
    rotate_left
    · intro w'
      go_simp
      with_reducible rfl
    rotate_left
    · simp only [Act.put, List.setIfInBounds_toArray, List.set_cons_zero, List.set_cons_succ, i64_w, i32_w]
      rfl
    refine pure_ (i := 2) (N := some 9) (v := ?_) (a' := ?_) #[true, true, true, false, false, false, false, false, false, false, false, false, false, false, false, false, false, false, false, false, false, false, false, false, false, false, false, false, false, false, false, false, false, false, false, false, false, false, false] rfl rfl (by kernel_rfl) (fun _ _ _ h => h) (Or.inl ⟨by rfl, ?_⟩) ?_ ?_
    rotate_left
    · intro w'
      go_simp
      with_reducible rfl
    rotate_left
    · simp only [Act.put, List.setIfInBounds_toArray, List.set_cons_zero, List.set_cons_succ, i64_w, i32_w]
      rfl
    refine pure_ (i := 3) (N := some 10) (v := ?_) (a' := ?_) #[true, true, true, true, false, false, false, false, false, false, false, false, false, false, false, false, false, false, false, false, false, false, false, false, false, false, false, false, false, false, false, false, false, false, false, false, false, false, false] rfl rfl (by kernel_rfl) (fun _ _ _ h => h) (Or.inl ⟨by rfl, ?_⟩) ?_ ?_
    rotate_left
    · intro w'
      go_simp
      with_reducible rfl
    rotate_left
    · simp only [Act.put, List.setIfInBounds_toArray, List.set_cons_zero, List.set_cons_succ, i64_w, i32_w]
      rfl
    refine take_ (i := 4) (N := some 11) (v := ?_) (a' := ?_) #[true, true, true, true, true, false, false, false, false, false, false, false, false, false, false, false, false, false, false, false, false, false, false, false, false, false, false, false, false, false, false, false, false, false, false, false, false, false, false] rfl rfl (by kernel_rfl) (fun _ _ _ h => h) (Or.inl ⟨by rfl, ?_⟩) hHeld ?_ ?_
    rotate_left
    · rintro w' ⟨s_, s0, s1, s2, s3, s4⟩
      go_simp
      with_reducible rfl
    rotate_left
    · simp only [Act.put, List.setIfInBounds_toArray, List.set_cons_zero, List.set_cons_succ, i64_w, i32_w]
      rfl
    refine pure_ (i := 5) (N := some 12) (v := ?_) (a' := ?_) #[true, true, true, true, true, true, false, false, false, false, false, false, false, false, false, false, false, false, false, false, false, false, false, false, false, false, false, false, false, false, false, false, false, false, false, false, false, false, false] rfl rfl (by kernel_rfl) (fun _ _ _ h => h) (Or.inl ⟨by rfl, ?_⟩) ?_ ?_
    rotate_left
    · intro w'
      go_simp
      with_reducible rfl
    rotate_left
    · simp only [Act.put, List.setIfInBounds_toArray, List.set_cons_zero, List.set_cons_succ, i64_w, i32_w]
      rfl
    refine pure_ (i := 6) (N := some 13) (v := ?_) (a' := ?_) #[true, true, true, true, true, true, true, false, false, false, false, false, false, false, false, false, false, false, false, false, false, false, false, false, false, false, false, false, false, false, false, false, false, false, false, false, false, false, false] rfl rfl (by kernel_rfl) (fun _ _ _ h => h) (Or.inl ⟨by rfl, ?_⟩) ?_ ?_
    rotate_left
    · intro w'
      go_simp
      with_reducible rfl
    rotate_left
    · simp only [Act.put, List.setIfInBounds_toArray, List.set_cons_zero, List.set_cons_succ, i64_w, i32_w]
      rfl
    refine take_ (i := 7) (N := some 14) (v := ?_) (a' := ?_) #[true, true, true, true, true, true, true, true, false, false, false, false, false, false, false, false, false, false, false, false, false, false, false, false, false, false, false, false, false, false, false, false, false, false, false, false, false, false, false] rfl rfl (by kernel_rfl) (fun _ _ _ h => h) (Or.inl ⟨by rfl, ?_⟩) hHeld ?_ ?_
    rotate_left
    · rintro w' ⟨s_, s0, s1, s2, s3, s4⟩
      go_simp
      with_reducible rfl
    rotate_left
    · simp only [Act.put, List.setIfInBounds_toArray, List.set_cons_zero, List.set_cons_succ, i64_w, i32_w]
      rfl
    refine pure_ (i := 8) (N := some 15) (v := ?_) (a' := ?_) #[true, true, true, true, true, true, true, true, true, false, false, false, false, false, false, false, false, false, false, false, false, false, false, false, false, false, false, false, false, false, false, false, false, false, false, false, false, false, false] rfl rfl (by kernel_rfl) (fun _ _ _ h => h) (Or.inl ⟨by rfl, ?_⟩) ?_ ?_
    rotate_left
    · intro w'
      go_simp
      with_reducible rfl
    rotate_left
    · simp only [Act.put, List.setIfInBounds_toArray, List.set_cons_zero, List.set_cons_succ, i64_w, i32_w]
      rfl
    refine pure_ (i := 9) (N := some 16) (v := ?_) (a' := ?_) #[true, true, true, true, true, true, true, true, true, true, false, false, false, false, false, false, false, false, false, false, false, false, false, false, false, false, false, false, false, false, false, false, false, false, false, false, false, false, false] rfl rfl (by kernel_rfl) (fun _ _ _ h => h) (Or.inl ⟨by rfl, ?_⟩) ?_ ?_
    rotate_left
    · intro w'
      go_simp
      with_reducible rfl
    rotate_left
    · simp only [Act.put, List.setIfInBounds_toArray, List.set_cons_zero, List.set_cons_succ, i64_w, i32_w]
      rfl
    refine pure_ (i := 10) (N := some 17) (v := ?_) (a' := ?_) #[true, true, true, true, true, true, true, true, true, true, true, false, false, false, false, false, false, false, false, false, false, false, false, false, false, false, false, false, false, false, false, false, false, false, false, false, false, false, false] rfl rfl (by kernel_rfl) (fun _ _ _ h => h) (Or.inl ⟨by rfl, ?_⟩) ?_ ?_
    rotate_left
    · intro w'
      go_simp
      with_reducible rfl
    rotate_left
    · simp only [Act.put, List.setIfInBounds_toArray, List.set_cons_zero, List.set_cons_succ, i64_w, i32_w]
      rfl
    refine pure_ (i := 11) (N := some 18) (v := ?_) (a' := ?_) #[true, true, true, true, true, true, true, true, true, true, true, true, false, false, false, false, false, false, false, false, false, false, false, false, false, false, false, false, false, false, false, false, false, false, false, false, false, false, false] rfl rfl (by kernel_rfl) (fun _ _ _ h => h) (Or.inl ⟨by rfl, ?_⟩) ?_ ?_
    rotate_left
    · intro w'
      go_simp
      with_reducible rfl
    rotate_left
    · simp only [Act.put, List.setIfInBounds_toArray, List.set_cons_zero, List.set_cons_succ, i64_w, i32_w]
      rfl
    refine take_ (i := 12) (N := some 19) (v := ?_) (a' := ?_) #[true, true, true, true, true, true, true, true, true, true, true, true, true, false, false, false, false, false, false, false, false, false, false, false, false, false, false, false, false, false, false, false, false, false, false, false, false, false, false] rfl rfl (by kernel_rfl) (fun _ _ _ h => h) (Or.inl ⟨by rfl, ?_⟩) hHeld ?_ ?_
    rotate_left
    · rintro w' ⟨s_, s0, s1, s2, s3, s4⟩
      go_simp
      with_reducible rfl
    rotate_left
    · simp only [Act.put, List.setIfInBounds_toArray, List.set_cons_zero, List.set_cons_succ, i64_w, i32_w]
      rfl
    refine pure_ (i := 13) (N := some 20) (v := ?_) (a' := ?_) #[true, true, true, true, true, true, true, true, true, true, true, true, true, true, false, false, false, false, false, false, false, false, false, false, false, false, false, false, false, false, false, false, false, false, false, false, false, false, false] rfl rfl (by kernel_rfl) (fun _ _ _ h => h) (Or.inl ⟨by rfl, ?_⟩) ?_ ?_
    rotate_left
    · intro w'
      go_simp
      with_reducible rfl
    rotate_left
    · simp only [Act.put, List.setIfInBounds_toArray, List.set_cons_zero, List.set_cons_succ, i64_w, i32_w]
      rfl
    refine pure_ (i := 14) (N := some 21) (v := ?_) (a' := ?_) #[true, true, true, true, true, true, true, true, true, true, true, true, true, true, true, false, false, false, false, false, false, false, false, false, false, false, false, false, false, false, false, false, false, false, false, false, false, false, false] rfl rfl (by kernel_rfl) (fun _ _ _ h => h) (Or.inl ⟨by rfl, ?_⟩) ?_ ?_
    rotate_left
    · intro w'
      go_simp
      with_reducible rfl
    rotate_left
    · simp only [Act.put, List.setIfInBounds_toArray, List.set_cons_zero, List.set_cons_succ, i64_w, i32_w]
      rfl
    refine pure_ (i := 15) (N := some 22) (v := ?_) (a' := ?_) #[true, true, true, true, true, true, true, true, true, true, true, true, true, true, true, true, false, false, false, false, false, false, false, false, false, false, false, false, false, false, false, false, false, false, false, false, false, false, false] rfl rfl (by kernel_rfl) (fun _ _ _ h => h) (Or.inl ⟨by rfl, ?_⟩) ?_ ?_
    rotate_left
    · intro w'
      go_simp
      with_reducible rfl
    rotate_left
    · simp only [Act.put, List.setIfInBounds_toArray, List.set_cons_zero, List.set_cons_succ, i64_w, i32_w]
      rfl
    refine take_ (i := 16) (N := some 23) (v := ?_) (a' := ?_) #[true, true, true, true, true, true, true, true, true, true, true, true, true, true, true, true, true, false, false, false, false, false, false, false, false, false, false, false, false, false, false, false, false, false, false, false, false, false, false] rfl rfl (by kernel_rfl) (fun _ _ _ h => h) (Or.inl ⟨by rfl, ?_⟩) hHeld ?_ ?_
    rotate_left
    · rintro w' ⟨s_, s0, s1, s2, s3, s4⟩
      go_simp
      with_reducible rfl
    rotate_left
    · simp only [Act.put, List.setIfInBounds_toArray, List.set_cons_zero, List.set_cons_succ, i64_w, i32_w]
      rfl
    refine pure_ (i := 17) (N := some 24) (v := ?_) (a' := ?_) #[true, true, true, true, true, true, true, true, true, true, true, true, true, true, true, true, true, true, false, false, false, false, false, false, false, false, false, false, false, false, false, false, false, false, false, false, false, false, false] rfl rfl (by kernel_rfl) (fun _ _ _ h => h) (Or.inl ⟨by rfl, ?_⟩) ?_ ?_
    rotate_left
    · intro w'
      go_simp
      with_reducible rfl
    rotate_left
    · simp only [Act.put, List.setIfInBounds_toArray, List.set_cons_zero, List.set_cons_succ, i64_w, i32_w]
      rfl
    refine pure_ (i := 18) (N := some 25) (v := ?_) (a' := ?_) #[true, true, true, true, true, true, true, true, true, true, true, true, true, true, true, true, true, true, true, false, false, false, false, false, false, false, false, false, false, false, false, false, false, false, false, false, false, false, false] rfl rfl (by kernel_rfl) (fun _ _ _ h => h) (Or.inl ⟨by rfl, ?_⟩) ?_ ?_
    rotate_left
    · intro w'
      go_simp
      with_reducible rfl
    rotate_left
    · simp only [Act.put, List.setIfInBounds_toArray, List.set_cons_zero, List.set_cons_succ, i64_w, i32_w]
      rfl
    refine pure_ (i := 19) (N := some 26) (v := ?_) (a' := ?_) #[true, true, true, true, true, true, true, true, true, true, true, true, true, true, true, true, true, true, true, true, false, false, false, false, false, false, false, false, false, false, false, false, false, false, false, false, false, false, false] rfl rfl (by kernel_rfl) (fun _ _ _ h => h) (Or.inl ⟨by rfl, ?_⟩) ?_ ?_
    rotate_left
    · intro w'
      go_simp
      with_reducible rfl
    rotate_left
    · simp only [Act.put, List.setIfInBounds_toArray, List.set_cons_zero, List.set_cons_succ, i64_w, i32_w]
      rfl
    refine pure_ (i := 20) (N := some 27) (v := ?_) (a' := ?_) #[true, true, true, true, true, true, true, true, true, true, true, true, true, true, true, true, true, true, true, true, true, false, false, false, false, false, false, false, false, false, false, false, false, false, false, false, false, false, false] rfl rfl (by kernel_rfl) (fun _ _ _ h => h) (Or.inl ⟨by rfl, ?_⟩) ?_ ?_
    rotate_left
    · intro w'
      go_simp
      with_reducible rfl
    rotate_left
    · simp only [Act.put, List.setIfInBounds_toArray, List.set_cons_zero, List.set_cons_succ, i64_w, i32_w]
      rfl
    refine pure_ (i := 21) (N := some 28) (v := ?_) (a' := ?_) #[true, true, true, true, true, true, true, true, true, true, true, true, true, true, true, true, true, true, true, true, true, true, false, false, false, false, false, false, false, false, false, false, false, false, false, false, false, false, false] rfl rfl (by kernel_rfl) (fun _ _ _ h => h) (Or.inl ⟨by rfl, ?_⟩) ?_ ?_
    rotate_left
    · intro w'
      go_simp
      with_reducible rfl
    rotate_left
    · simp only [Act.put, List.setIfInBounds_toArray, List.set_cons_zero, List.set_cons_succ, i64_w, i32_w]
      rfl
    refine pure_ (i := 22) (N := some 29) (v := ?_) (a' := ?_) #[true, true, true, true, true, true, true, true, true, true, true, true, true, true, true, true, true, true, true, true, true, true, true, false, false, false, false, false, false, false, false, false, false, false, false, false, false, false, false] rfl rfl (by kernel_rfl) (fun _ _ _ h => h) (Or.inl ⟨by rfl, ?_⟩) ?_ ?_
    rotate_left
    · intro w'
      go_simp
      with_reducible rfl
    rotate_left
    · simp only [Act.put, List.setIfInBounds_toArray, List.set_cons_zero, List.set_cons_succ, i64_w, i32_w]
      rfl
    refine take_ (i := 23) (N := some 30) (v := ?_) (a' := ?_) #[true, true, true, true, true, true, true, true, true, true, true, true, true, true, true, true, true, true, true, true, true, true, true, true, false, false, false, false, false, false, false, false, false, false, false, false, false, false, false] rfl rfl (by kernel_rfl) (fun _ _ _ h => h) (Or.inl ⟨by rfl, ?_⟩) hHeld ?_ ?_
    rotate_left
    · rintro w' ⟨s_, s0, s1, s2, s3, s4⟩
      go_simp
      with_reducible rfl
    rotate_left
    · simp only [Act.put, List.setIfInBounds_toArray, List.set_cons_zero, List.set_cons_succ, i64_w, i32_w]
      rfl
    refine pure_ (i := 24) (N := some 31) (v := ?_) (a' := ?_) #[true, true, true, true, true, true, true, true, true, true, true, true, true, true, true, true, true, true, true, true, true, true, true, true, true, false, false, false, false, false, false, false, false, false, false, false, false, false, false] rfl rfl (by kernel_rfl) (fun _ _ _ h => h) (Or.inl ⟨by rfl, ?_⟩) ?_ ?_
    rotate_left
    · intro w'
      go_simp
      with_reducible rfl
    rotate_left
    · simp only [Act.put, List.setIfInBounds_toArray, List.set_cons_zero, List.set_cons_succ, i64_w, i32_w]
      rfl
    refine pure_ (i := 25) (N := some 32) (v := ?_) (a' := ?_) #[true, true, true, true, true, true, true, true, true, true, true, true, true, true, true, true, true, true, true, true, true, true, true, true, true, true, false, false, false, false, false, false, false, false, false, false, false, false, false] rfl rfl (by kernel_rfl) (fun _ _ _ h => h) (Or.inl ⟨by rfl, ?_⟩) ?_ ?_
    rotate_left
    · intro w'
      go_simp
      with_reducible rfl
    rotate_left
    · simp only [Act.put, List.setIfInBounds_toArray, List.set_cons_zero, List.set_cons_succ, i64_w, i32_w]
      rfl
    refine pure_ (i := 26) (N := some 33) (v := ?_) (a' := ?_) #[true, true, true, true, true, true, true, true, true, true, true, true, true, true, true, true, true, true, true, true, true, true, true, true, true, true, true, false, false, false, false, false, false, false, false, false, false, false, false] rfl rfl (by kernel_rfl) (fun _ _ _ h => h) (Or.inl ⟨by rfl, ?_⟩) ?_ ?_
    rotate_left
    · intro w'
      go_simp
      with_reducible rfl
    rotate_left
    · simp only [Act.put, List.setIfInBounds_toArray, List.set_cons_zero, List.set_cons_succ, i64_w, i32_w]
      rfl
    refine pure_ (i := 27) (N := some 34) (v := ?_) (a' := ?_) #[true, true, true, true, true, true, true, true, true, true, true, true, true, true, true, true, true, true, true, true, true, true, true, true, true, true, true, true, false, false, false, false, false, false, false, false, false, false, false] rfl rfl (by kernel_rfl) (fun _ _ _ h => h) (Or.inl ⟨by rfl, ?_⟩) ?_ ?_
    rotate_left
    · intro w'
      go_simp
      with_reducible rfl
    rotate_left
    · simp only [Act.put, List.setIfInBounds_toArray, List.set_cons_zero, List.set_cons_succ, i64_w, i32_w]
      rfl
    refine take_ (i := 28) (N := some 35) (v := ?_) (a' := ?_) #[true, true, true, true, true, true, true, true, true, true, true, true, true, true, true, true, true, true, true, true, true, true, true, true, true, true, true, true, true, false, false, false, false, false, false, false, false, false, false] rfl rfl (by kernel_rfl) (fun _ _ _ h => h) (Or.inl ⟨by rfl, ?_⟩) hHeld ?_ ?_
    rotate_left
    · rintro w' ⟨s_, s0, s1, s2, s3, s4⟩
      go_simp
      with_reducible rfl
    rotate_left
    · simp only [Act.put, List.setIfInBounds_toArray, List.set_cons_zero, List.set_cons_succ, i64_w, i32_w]
      rfl
    refine pure_ (i := 29) (N := some 36) (v := ?_) (a' := ?_) #[true, true, true, true, true, true, true, true, true, true, true, true, true, true, true, true, true, true, true, true, true, true, true, true, true, true, true, true, true, true, false, false, false, false, false, false, false, false, false] rfl rfl (by kernel_rfl) (fun _ _ _ h => h) (Or.inl ⟨by rfl, ?_⟩) ?_ ?_
    rotate_left
    · intro w'
      go_simp
      with_reducible rfl
    rotate_left
    · simp only [Act.put, List.setIfInBounds_toArray, List.set_cons_zero, List.set_cons_succ, i64_w, i32_w]
      rfl
    refine pure_ (i := 30) (N := some 37) (v := ?_) (a' := ?_) #[true, true, true, true, true, true, true, true, true, true, true, true, true, true, true, true, true, true, true, true, true, true, true, true, true, true, true, true, true, true, true, false, false, false, false, false, false, false, false] rfl rfl (by kernel_rfl) (fun _ _ _ h => h) (Or.inl ⟨by rfl, ?_⟩) ?_ ?_
    rotate_left
    · intro w'
      go_simp
      with_reducible rfl
    rotate_left
    · simp only [Act.put, List.setIfInBounds_toArray, List.set_cons_zero, List.set_cons_succ, i64_w, i32_w]
      rfl
    refine take_ (i := 31) (N := some 38) (v := ?_) (a' := ?_) #[true, true, true, true, true, true, true, true, true, true, true, true, true, true, true, true, true, true, true, true, true, true, true, true, true, true, true, true, true, true, true, true, false, false, false, false, false, false, false] rfl rfl (by kernel_rfl) (fun _ _ _ h => h) (Or.inl ⟨by rfl, ?_⟩) hHeld ?_ ?_
    rotate_left
    · rintro w' ⟨s_, s0, s1, s2, s3, s4⟩
      go_simp
      with_reducible rfl
    rotate_left
    · simp only [Act.put, List.setIfInBounds_toArray, List.set_cons_zero, List.set_cons_succ, i64_w, i32_w]
      rfl
    refine pure_ (i := 32) (N := some 39) (v := ?_) (a' := ?_) #[true, true, true, true, true, true, true, true, true, true, true, true, true, true, true, true, true, true, true, true, true, true, true, true, true, true, true, true, true, true, true, true, true, false, false, false, false, false, false] rfl rfl (by kernel_rfl) (fun _ _ _ h => h) (Or.inl ⟨by rfl, ?_⟩) ?_ ?_
    rotate_left
    · intro w'
      go_simp
      with_reducible rfl
    rotate_left
    · simp only [Act.put, List.setIfInBounds_toArray, List.set_cons_zero, List.set_cons_succ, i64_w, i32_w]
      rfl
    refine take_ (i := 33) (N := some 40) (v := .agg (arr (bs.getD x []))) (a' := ?_) #[true, true, true, true, true, true, true, true, true, true, true, true, true, true, true, true, true, true, true, true, true, true, true, true, true, true, true, true, true, true, true, true, true, true, false, false, false, false, false] rfl rfl (by kernel_rfl) (fun _ _ _ h => h) (Or.inl ⟨by rfl, ?_⟩) hHeld ?_ ?_
    · rintro w' ⟨s_, s0, s1, s2, s3, s4⟩
      exact exec_load_arr 107 (.tmp 39) rfl (a2.add (x * 128)) rfl (bs.getD x []) s4 128 3 Try.underlying107 size_blk HL.out
    rotate_left
    · simp only [Act.put, List.setIfInBounds_toArray, List.set_cons_zero, List.set_cons_succ, i64_w, i32_w]
      rfl
    refine pure_ (i := 34) (N := some 41) (v := ?_) (a' := ?_) #[true, true, true, true, true, true, true, true, true, true, true, true, true, true, true, true, true, true, true, true, true, true, true, true, true, true, true, true, true, true, true, true, true, true, true, false, false, false, false] rfl rfl (by kernel_rfl) (fun _ _ _ h => h) (Or.inl ⟨by rfl, ?_⟩) ?_ ?_
    rotate_left
    · intro w'
      go_simp
      with_reducible rfl
    rotate_left
    · simp only [Act.put, List.setIfInBounds_toArray, List.set_cons_zero, List.set_cons_succ, i64_w, i32_w]
      rfl
    refine one_ (i := 35) (N := some 42) #[true, true, true, true, true, true, true, true, true, true, true, true, true, true, true, true, true, true, true, true, true, true, true, true, true, true, true, true, true, true, true, true, true, true, true, true, false, false, false] rfl rfl (by kernel_rfl) (by decide) (fun K hK => ?_)
    refine (goes_ Try.func98 (by kernel_rfl) rfl #[.int .i64 v] (by rfl) rfl rfl (by (try simp only [List.map_toArray, List.map_cons, List.map_nil]); first | done | rfl) ?_)
    (with_reducible refine (p_even v _).mono ?_)
    rintro e w1 ⟨rfl, hb⟩
    refine ⟨_, rfl, ?_⟩
    refine hK.out _ _ (have hB1 := below_step hHeld.1 hb; ⟨hB1, HC.out _ hB1⟩) (fun hHeld => ?_)
    clear hK K
    refine norm_ (a' := ?_) ?_ ?_
    rotate_left
    · show Act.put _ (some 42) _ = _
      simp only [Act.put, List.setIfInBounds_toArray, List.set_cons_zero, List.set_cons_succ, i64_w, i32_w]
      rfl
    refine pure_ (i := 36) (N := some 43) (v := .bool r) (a' := ?_) #[true, true, true, true, true, true, true, true, true, true, true, true, true, true, true, true, true, true, true, true, true, true, true, true, true, true, true, true, true, true, true, true, true, true, true, true, true, false, false] rfl rfl (by kernel_rfl) (fun _ _ _ h => h) (Or.inl ⟨by rfl, ?_⟩) ?_ ?_
    · intro w'
      rw [← HR.out]
      exact exec_eq_arr false 107 107 (.tmp 40) (.tmp 42) rfl (bs.getD x []) (rep v) rfl rfl (by kernel_rfl) 128 3 Try.underlying107 Try.underlying3 size_int HL.out rep_len
    rotate_left
    · simp only [Act.put, List.setIfInBounds_toArray, List.set_cons_zero, List.set_cons_succ, i64_w, i32_w]
      rfl
    refine pure_ (i := 37) (N := some 44) (v := ?_) (a' := ?_) #[true, true, true, true, true, true, true, true, true, true, true, true, true, true, true, true, true, true, true, true, true, true, true, true, true, true, true, true, true, true, true, true, true, true, true, true, true, true, false] rfl rfl (by kernel_rfl) (fun _ _ _ h => h) (Or.inl ⟨by rfl, ?_⟩) ?_ ?_
    rotate_left
    · intro w'
      go_simp
      with_reducible rfl
    rotate_left
    · simp only [Act.put, List.setIfInBounds_toArray, List.set_cons_zero, List.set_cons_succ, i64_w, i32_w]
      rfl
    refine pure_ (i := 38) (N := some 6) (v := ?_) (a' := ?_) #[true, true, true, true, true, true, true, true, true, true, true, true, true, true, true, true, true, true, true, true, true, true, true, true, true, true, true, true, true, true, true, true, true, true, true, true, true, true, true] rfl rfl (by kernel_rfl) (fun _ _ _ h => h) (Or.inl ⟨by rfl, ?_⟩) ?_ ?_
    rotate_left
    · intro w'
      go_simp
      with_reducible rfl
    rotate_left
    · simp only [Act.put, List.setIfInBounds_toArray, List.set_cons_zero, List.set_cons_succ, i64_w, i32_w]
      rfl
    refine done_ (by kernel_rfl) ?_
    go_wp2
    go_ret
    exact ⟨by first | rfl | (simp; done), hHeld.1⟩
  · have e1 : decide ((x : Int) = (y : Int)) = false := decide_eq_false (by omega)
    have e2 : ((x : Int) == (y : Int)) = false := beq_eq_false_iff_ne.mpr (by omega)
    have e3 : (x == y) = false := beq_eq_false_iff_ne.mpr hxy
    rw [e1, Bool.false_and]
    clear e1 hxy
    go_enter Try.func105, Try.ntmps105
    go_wp2
    refine start_ (n := 39) (S := fun w' => Below w.heap.size w w' ∧  w'.cell? ⟨g, 0, none⟩ = some (.slice (some a1) fs.length c1) ∧ w'.cell? ⟨g, 1, none⟩ = some (.slice (some a2) bs.length c2) ∧ w'.cell? (a1.add p.toNat) = some (.int .i64 (x : Int)) ∧ w'.cell? (a1.add q.toNat) = some (.int .i64 (y : Int)) ∧ (∀ j v, ((bs.getD x []).map (Value.int .i64))[j]? = some v → w'.cell? ((a2.add (x * 128)).add j) = some v)) (ds := []) #[false, false, false, false, false, false, false, false, false, false, false, false, false, false, false, false, false, false, false, false, false, false, false, false, false, false, false, false, false, false, false, false, false, false, false, false, false, false, false] (by kernel_rfl) rfl rfl ⟨below_drew1 (Below.refl _ _), HC.out _ (below_drew1 (Below.refl _ _))⟩ (fun hHeld => ?_)
    refine pure_ (i := 0) (N := some 7) (v := ?_) (a' := ?_) #[true, false, false, false, false, false, false, false, false, false, false, false, false, false, false, false, false, false, false, false, false, false, false, false, false, false, false, false, false, false, false, false, false, false, false, false, false, false, false] rfl rfl (by kernel_rfl) (fun _ _ _ h => h) (Or.inl ⟨by rfl, ?_⟩) ?_ ?_
    rotate_left
    · intro w'
      go_simp
      with_reducible rfl
    rotate_left
    · simp only [Act.put, List.setIfInBounds_toArray, List.set_cons_zero, List.set_cons_succ, i64_w, i32_w]
      rfl
    refine pure_ (i := 1) (N := some 8) (v := ?_) (a' := ?_) #[true, true, false, false, false, false, false, false, false, false, false, false, false, false, false, false, false, false, false, false, false, false, false, false, false, false, false, false, false, false, false, false, false, false, false, false, false, false, false] rfl rfl (by kernel_rfl) (fun _ _ _ h => h) (Or.inl ⟨by rfl, ?_⟩) ?_ ?_
    rotate_left
    · intro w'
      go_simp
      with_reducible rfl
    rotate_left
    · simp only [Act.put, List.setIfInBounds_toArray, List.set_cons_zero, List.set_cons_succ, i64_w, i32_w]
      rfl
    refine pure_ (i := 2) (N := some 9) (v := ?_) (a' := ?_) #[true, true, true, false, false, false, false, false, false, false, false, false, false, false, false, false, false, false, false, false, false, false, false, false, false, false, false, false, false, false, false, false, false, false, false, false, false, false, false] rfl rfl (by kernel_rfl) (fun _ _ _ h => h) (Or.inl ⟨by rfl, ?_⟩) ?_ ?_
    rotate_left
    · intro w'
      go_simp
      with_reducible rfl
    rotate_left
    · simp only [Act.put, List.setIfInBounds_toArray, List.set_cons_zero, List.set_cons_succ, i64_w, i32_w]
      rfl
    refine pure_ (i := 3) (N := some 10) (v := ?_) (a' := ?_) #[true, true, true, true, false, false, false, false, false, false, false, false, false, false, false, false, false, false, false, false, false, false, false, false, false, false, false, false, false, false, false, false, false, false, false, false, false, false, false] rfl rfl (by kernel_rfl) (fun _ _ _ h => h) (Or.inl ⟨by rfl, ?_⟩) ?_ ?_
    rotate_left
    · intro w'
      go_simp
      with_reducible rfl
    rotate_left
    · simp only [Act.put, List.setIfInBounds_toArray, List.set_cons_zero, List.set_cons_succ, i64_w, i32_w]
      rfl
    refine take_ (i := 4) (N := some 11) (v := ?_) (a' := ?_) #[true, true, true, true, true, false, false, false, false, false, false, false, false, false, false, false, false, false, false, false, false, false, false, false, false, false, false, false, false, false, false, false, false, false, false, false, false, false, false] rfl rfl (by kernel_rfl) (fun _ _ _ h => h) (Or.inl ⟨by rfl, ?_⟩) hHeld ?_ ?_
    rotate_left
    · rintro w' ⟨s_, s0, s1, s2, s3, s4⟩
      go_simp
      with_reducible rfl
    rotate_left
    · simp only [Act.put, List.setIfInBounds_toArray, List.set_cons_zero, List.set_cons_succ, i64_w, i32_w]
      rfl
    refine pure_ (i := 5) (N := some 12) (v := ?_) (a' := ?_) #[true, true, true, true, true, true, false, false, false, false, false, false, false, false, false, false, false, false, false, false, false, false, false, false, false, false, false, false, false, false, false, false, false, false, false, false, false, false, false] rfl rfl (by kernel_rfl) (fun _ _ _ h => h) (Or.inl ⟨by rfl, ?_⟩) ?_ ?_
    rotate_left
    · intro w'
      go_simp
      with_reducible rfl
    rotate_left
    · simp only [Act.put, List.setIfInBounds_toArray, List.set_cons_zero, List.set_cons_succ, i64_w, i32_w]
      rfl
    refine pure_ (i := 6) (N := some 13) (v := ?_) (a' := ?_) #[true, true, true, true, true, true, true, false, false, false, false, false, false, false, false, false, false, false, false, false, false, false, false, false, false, false, false, false, false, false, false, false, false, false, false, false, false, false, false] rfl rfl (by kernel_rfl) (fun _ _ _ h => h) (Or.inl ⟨by rfl, ?_⟩) ?_ ?_
    rotate_left
    · intro w'
      go_simp
      with_reducible rfl
    rotate_left
    · simp only [Act.put, List.setIfInBounds_toArray, List.set_cons_zero, List.set_cons_succ, i64_w, i32_w]
      rfl
    refine take_ (i := 7) (N := some 14) (v := ?_) (a' := ?_) #[true, true, true, true, true, true, true, true, false, false, false, false, false, false, false, false, false, false, false, false, false, false, false, false, false, false, false, false, false, false, false, false, false, false, false, false, false, false, false] rfl rfl (by kernel_rfl) (fun _ _ _ h => h) (Or.inl ⟨by rfl, ?_⟩) hHeld ?_ ?_
    rotate_left
    · rintro w' ⟨s_, s0, s1, s2, s3, s4⟩
      go_simp
      with_reducible rfl
    rotate_left
    · simp only [Act.put, List.setIfInBounds_toArray, List.set_cons_zero, List.set_cons_succ, i64_w, i32_w]
      rfl
    refine pure_ (i := 8) (N := some 15) (v := ?_) (a' := ?_) #[true, true, true, true, true, true, true, true, true, false, false, false, false, false, false, false, false, false, false, false, false, false, false, false, false, false, false, false, false, false, false, false, false, false, false, false, false, false, false] rfl rfl (by kernel_rfl) (fun _ _ _ h => h) (Or.inl ⟨by rfl, ?_⟩) ?_ ?_
    rotate_left
    · intro w'
      go_simp
      with_reducible rfl
    rotate_left
    · simp only [Act.put, List.setIfInBounds_toArray, List.set_cons_zero, List.set_cons_succ, i64_w, i32_w]
      rfl
    refine pure_ (i := 9) (N := some 16) (v := ?_) (a' := ?_) #[true, true, true, true, true, true, true, true, true, true, false, false, false, false, false, false, false, false, false, false, false, false, false, false, false, false, false, false, false, false, false, false, false, false, false, false, false, false, false] rfl rfl (by kernel_rfl) (fun _ _ _ h => h) (Or.inl ⟨by rfl, ?_⟩) ?_ ?_
    rotate_left
    · intro w'
      go_simp
      with_reducible rfl
    rotate_left
    · simp only [Act.put, List.setIfInBounds_toArray, List.set_cons_zero, List.set_cons_succ, i64_w, i32_w]
      rfl
    refine pure_ (i := 10) (N := some 17) (v := ?_) (a' := ?_) #[true, true, true, true, true, true, true, true, true, true, true, false, false, false, false, false, false, false, false, false, false, false, false, false, false, false, false, false, false, false, false, false, false, false, false, false, false, false, false] rfl rfl (by kernel_rfl) (fun _ _ _ h => h) (Or.inl ⟨by rfl, ?_⟩) ?_ ?_
    rotate_left
    · intro w'
      go_simp
      with_reducible rfl
    rotate_left
    · simp only [Act.put, List.setIfInBounds_toArray, List.set_cons_zero, List.set_cons_succ, i64_w, i32_w]
      rfl
    refine pure_ (i := 11) (N := some 18) (v := ?_) (a' := ?_) #[true, true, true, true, true, true, true, true, true, true, true, true, false, false, false, false, false, false, false, false, false, false, false, false, false, false, false, false, false, false, false, false, false, false, false, false, false, false, false] rfl rfl (by kernel_rfl) (fun _ _ _ h => h) (Or.inl ⟨by rfl, ?_⟩) ?_ ?_
    rotate_left
    · intro w'
      go_simp
      with_reducible rfl
    rotate_left
    · simp only [Act.put, List.setIfInBounds_toArray, List.set_cons_zero, List.set_cons_succ, i64_w, i32_w]
      rfl
    refine take_ (i := 12) (N := some 19) (v := ?_) (a' := ?_) #[true, true, true, true, true, true, true, true, true, true, true, true, true, false, false, false, false, false, false, false, false, false, false, false, false, false, false, false, false, false, false, false, false, false, false, false, false, false, false] rfl rfl (by kernel_rfl) (fun _ _ _ h => h) (Or.inl ⟨by rfl, ?_⟩) hHeld ?_ ?_
    rotate_left
    · rintro w' ⟨s_, s0, s1, s2, s3, s4⟩
      go_simp
      with_reducible rfl
    rotate_left
    · simp only [Act.put, List.setIfInBounds_toArray, List.set_cons_zero, List.set_cons_succ, i64_w, i32_w]
      rfl
    refine pure_ (i := 13) (N := some 20) (v := ?_) (a' := ?_) #[true, true, true, true, true, true, true, true, true, true, true, true, true, true, false, false, false, false, false, false, false, false, false, false, false, false, false, false, false, false, false, false, false, false, false, false, false, false, false] rfl rfl (by kernel_rfl) (fun _ _ _ h => h) (Or.inl ⟨by rfl, ?_⟩) ?_ ?_
    rotate_left
    · intro w'
      go_simp
      with_reducible rfl
    rotate_left
    · simp only [Act.put, List.setIfInBounds_toArray, List.set_cons_zero, List.set_cons_succ, i64_w, i32_w]
      rfl
    refine pure_ (i := 14) (N := some 21) (v := ?_) (a' := ?_) #[true, true, true, true, true, true, true, true, true, true, true, true, true, true, true, false, false, false, false, false, false, false, false, false, false, false, false, false, false, false, false, false, false, false, false, false, false, false, false] rfl rfl (by kernel_rfl) (fun _ _ _ h => h) (Or.inl ⟨by rfl, ?_⟩) ?_ ?_
    rotate_left
    · intro w'
      go_simp
      with_reducible rfl
    rotate_left
    · simp only [Act.put, List.setIfInBounds_toArray, List.set_cons_zero, List.set_cons_succ, i64_w, i32_w]
      rfl
    refine pure_ (i := 15) (N := some 22) (v := ?_) (a' := ?_) #[true, true, true, true, true, true, true, true, true, true, true, true, true, true, true, true, false, false, false, false, false, false, false, false, false, false, false, false, false, false, false, false, false, false, false, false, false, false, false] rfl rfl (by kernel_rfl) (fun _ _ _ h => h) (Or.inl ⟨by rfl, ?_⟩) ?_ ?_
    rotate_left
    · intro w'
      go_simp
      with_reducible rfl
    rotate_left
    · simp only [Act.put, List.setIfInBounds_toArray, List.set_cons_zero, List.set_cons_succ, i64_w, i32_w]
      rfl
    refine take_ (i := 16) (N := some 23) (v := ?_) (a' := ?_) #[true, true, true, true, true, true, true, true, true, true, true, true, true, true, true, true, true, false, false, false, false, false, false, false, false, false, false, false, false, false, false, false, false, false, false, false, false, false, false] rfl rfl (by kernel_rfl) (fun _ _ _ h => h) (Or.inl ⟨by rfl, ?_⟩) hHeld ?_ ?_
    rotate_left
    · rintro w' ⟨s_, s0, s1, s2, s3, s4⟩
      go_simp
      with_reducible rfl
    rotate_left
    · simp only [Act.put, List.setIfInBounds_toArray, List.set_cons_zero, List.set_cons_succ, i64_w, i32_w]
      rfl
    refine pure_ (i := 17) (N := some 24) (v := ?_) (a' := ?_) #[true, true, true, true, true, true, true, true, true, true, true, true, true, true, true, true, true, true, false, false, false, false, false, false, false, false, false, false, false, false, false, false, false, false, false, false, false, false, false] rfl rfl (by kernel_rfl) (fun _ _ _ h => h) (Or.inl ⟨by rfl, ?_⟩) ?_ ?_
    rotate_left
    · intro w'
      go_simp
      with_reducible rfl
    rotate_left
    · simp only [Act.put, List.setIfInBounds_toArray, List.set_cons_zero, List.set_cons_succ, i64_w, i32_w]
      rfl
    refine pure_ (i := 18) (N := some 25) (v := ?_) (a' := ?_) #[true, true, true, true, true, true, true, true, true, true, true, true, true, true, true, true, true, true, true, false, false, false, false, false, false, false, false, false, false, false, false, false, false, false, false, false, false, false, false] rfl rfl (by kernel_rfl) (fun _ _ _ h => h) (Or.inl ⟨by rfl, ?_⟩) ?_ ?_
    rotate_left
    · intro w'
      go_simp
      with_reducible rfl
    rotate_left
    · simp only [Act.put, List.setIfInBounds_toArray, List.set_cons_zero, List.set_cons_succ, i64_w, i32_w]
      rfl
    refine pure_ (i := 19) (N := some 26) (v := undef) (a' := ?_) #[true, true, true, true, true, true, true, true, true, true, true, true, true, true, true, true, true, true, true, true, false, false, false, false, false, false, false, false, false, false, false, false, false, false, false, false, false, false, false] rfl rfl (by kernel_rfl) (fun _ _ _ h => h) (Or.inr ⟨by rfl, rfl⟩) ?_ ?_
    rotate_left
    · simp only [Act.put, List.setIfInBounds_toArray, List.set_cons_zero, List.set_cons_succ, i64_w, i32_w]
      rfl
    refine pure_ (i := 20) (N := some 27) (v := undef) (a' := ?_) #[true, true, true, true, true, true, true, true, true, true, true, true, true, true, true, true, true, true, true, true, true, false, false, false, false, false, false, false, false, false, false, false, false, false, false, false, false, false, false] rfl rfl (by kernel_rfl) (fun _ _ _ h => h) (Or.inr ⟨by rfl, rfl⟩) ?_ ?_
    rotate_left
    · simp only [Act.put, List.setIfInBounds_toArray, List.set_cons_zero, List.set_cons_succ, i64_w, i32_w]
      rfl
    refine pure_ (i := 21) (N := some 28) (v := undef) (a' := ?_) #[true, true, true, true, true, true, true, true, true, true, true, true, true, true, true, true, true, true, true, true, true, true, false, false, false, false, false, false, false, false, false, false, false, false, false, false, false, false, false] rfl rfl (by kernel_rfl) (fun _ _ _ h => h) (Or.inr ⟨by rfl, rfl⟩) ?_ ?_
    rotate_left
    · simp only [Act.put, List.setIfInBounds_toArray, List.set_cons_zero, List.set_cons_succ, i64_w, i32_w]
      rfl
    refine pure_ (i := 22) (N := some 29) (v := undef) (a' := ?_) #[true, true, true, true, true, true, true, true, true, true, true, true, true, true, true, true, true, true, true, true, true, true, true, false, false, false, false, false, false, false, false, false, false, false, false, false, false, false, false] rfl rfl (by kernel_rfl) (fun _ _ _ h => h) (Or.inr ⟨by rfl, rfl⟩) ?_ ?_
    rotate_left
    · simp only [Act.put, List.setIfInBounds_toArray, List.set_cons_zero, List.set_cons_succ, i64_w, i32_w]
      rfl
    refine pure_ (i := 23) (N := some 30) (v := undef) (a' := ?_) #[true, true, true, true, true, true, true, true, true, true, true, true, true, true, true, true, true, true, true, true, true, true, true, true, false, false, false, false, false, false, false, false, false, false, false, false, false, false, false] rfl rfl (by kernel_rfl) (fun _ _ _ h => h) (Or.inr ⟨by rfl, rfl⟩) ?_ ?_
    rotate_left
    · simp only [Act.put, List.setIfInBounds_toArray, List.set_cons_zero, List.set_cons_succ, i64_w, i32_w]
      rfl
    refine pure_ (i := 24) (N := some 31) (v := undef) (a' := ?_) #[true, true, true, true, true, true, true, true, true, true, true, true, true, true, true, true, true, true, true, true, true, true, true, true, true, false, false, false, false, false, false, false, false, false, false, false, false, false, false] rfl rfl (by kernel_rfl) (fun _ _ _ h => h) (Or.inr ⟨by rfl, rfl⟩) ?_ ?_
    rotate_left
    · simp only [Act.put, List.setIfInBounds_toArray, List.set_cons_zero, List.set_cons_succ, i64_w, i32_w]
      rfl
    refine pure_ (i := 25) (N := some 32) (v := undef) (a' := ?_) #[true, true, true, true, true, true, true, true, true, true, true, true, true, true, true, true, true, true, true, true, true, true, true, true, true, true, false, false, false, false, false, false, false, false, false, false, false, false, false] rfl rfl (by kernel_rfl) (fun _ _ _ h => h) (Or.inr ⟨by rfl, rfl⟩) ?_ ?_
    rotate_left
    · simp only [Act.put, List.setIfInBounds_toArray, List.set_cons_zero, List.set_cons_succ, i64_w, i32_w]
      rfl
    refine pure_ (i := 26) (N := some 33) (v := undef) (a' := ?_) #[true, true, true, true, true, true, true, true, true, true, true, true, true, true, true, true, true, true, true, true, true, true, true, true, true, true, true, false, false, false, false, false, false, false, false, false, false, false, false] rfl rfl (by kernel_rfl) (fun _ _ _ h => h) (Or.inr ⟨by rfl, rfl⟩) ?_ ?_
    rotate_left
    · simp only [Act.put, List.setIfInBounds_toArray, List.set_cons_zero, List.set_cons_succ, i64_w, i32_w]
      rfl
    refine pure_ (i := 27) (N := some 34) (v := undef) (a' := ?_) #[true, true, true, true, true, true, true, true, true, true, true, true, true, true, true, true, true, true, true, true, true, true, true, true, true, true, true, true, false, false, false, false, false, false, false, false, false, false, false] rfl rfl (by kernel_rfl) (fun _ _ _ h => h) (Or.inr ⟨by rfl, rfl⟩) ?_ ?_
    rotate_left
    · simp only [Act.put, List.setIfInBounds_toArray, List.set_cons_zero, List.set_cons_succ, i64_w, i32_w]
      rfl
    refine pure_ (i := 28) (N := some 35) (v := undef) (a' := ?_) #[true, true, true, true, true, true, true, true, true, true, true, true, true, true, true, true, true, true, true, true, true, true, true, true, true, true, true, true, true, false, false, false, false, false, false, false, false, false, false] rfl rfl (by kernel_rfl) (fun _ _ _ h => h) (Or.inr ⟨by rfl, rfl⟩) ?_ ?_
    rotate_left
    · simp only [Act.put, List.setIfInBounds_toArray, List.set_cons_zero, List.set_cons_succ, i64_w, i32_w]
      rfl
    refine pure_ (i := 29) (N := some 36) (v := undef) (a' := ?_) #[true, true, true, true, true, true, true, true, true, true, true, true, true, true, true, true, true, true, true, true, true, true, true, true, true, true, true, true, true, true, false, false, false, false, false, false, false, false, false] rfl rfl (by kernel_rfl) (fun _ _ _ h => h) (Or.inr ⟨by rfl, rfl⟩) ?_ ?_
    rotate_left
    · simp only [Act.put, List.setIfInBounds_toArray, List.set_cons_zero, List.set_cons_succ, i64_w, i32_w]
      rfl
    refine pure_ (i := 30) (N := some 37) (v := undef) (a' := ?_) #[true, true, true, true, true, true, true, true, true, true, true, true, true, true, true, true, true, true, true, true, true, true, true, true, true, true, true, true, true, true, true, false, false, false, false, false, false, false, false] rfl rfl (by kernel_rfl) (fun _ _ _ h => h) (Or.inr ⟨by rfl, rfl⟩) ?_ ?_
    rotate_left
    · simp only [Act.put, List.setIfInBounds_toArray, List.set_cons_zero, List.set_cons_succ, i64_w, i32_w]
      rfl
    refine pure_ (i := 31) (N := some 38) (v := undef) (a' := ?_) #[true, true, true, true, true, true, true, true, true, true, true, true, true, true, true, true, true, true, true, true, true, true, true, true, true, true, true, true, true, true, true, true, false, false, false, false, false, false, false] rfl rfl (by kernel_rfl) (fun _ _ _ h => h) (Or.inr ⟨by rfl, rfl⟩) ?_ ?_
    rotate_left
    · simp only [Act.put, List.setIfInBounds_toArray, List.set_cons_zero, List.set_cons_succ, i64_w, i32_w]
      rfl
    refine pure_ (i := 32) (N := some 39) (v := undef) (a' := ?_) #[true, true, true, true, true, true, true, true, true, true, true, true, true, true, true, true, true, true, true, true, true, true, true, true, true, true, true, true, true, true, true, true, true, false, false, false, false, false, false] rfl rfl (by kernel_rfl) (fun _ _ _ h => h) (Or.inr ⟨by rfl, rfl⟩) ?_ ?_
    rotate_left
    · simp only [Act.put, List.setIfInBounds_toArray, List.set_cons_zero, List.set_cons_succ, i64_w, i32_w]
      rfl
    refine pure_ (i := 33) (N := some 40) (v := undef) (a' := ?_) #[true, true, true, true, true, true, true, true, true, true, true, true, true, true, true, true, true, true, true, true, true, true, true, true, true, true, true, true, true, true, true, true, true, true, false, false, false, false, false] rfl rfl (by kernel_rfl) (fun _ _ _ h => h) (Or.inr ⟨by rfl, rfl⟩) ?_ ?_
    rotate_left
    · simp only [Act.put, List.setIfInBounds_toArray, List.set_cons_zero, List.set_cons_succ, i64_w, i32_w]
      rfl
    refine pure_ (i := 34) (N := some 41) (v := undef) (a' := ?_) #[true, true, true, true, true, true, true, true, true, true, true, true, true, true, true, true, true, true, true, true, true, true, true, true, true, true, true, true, true, true, true, true, true, true, true, false, false, false, false] rfl rfl (by kernel_rfl) (fun _ _ _ h => h) (Or.inr ⟨by rfl, rfl⟩) ?_ ?_
    rotate_left
    · simp only [Act.put, List.setIfInBounds_toArray, List.set_cons_zero, List.set_cons_succ, i64_w, i32_w]
      rfl
    refine pure_ (i := 35) (N := some 42) (v := undef) (a' := ?_) #[true, true, true, true, true, true, true, true, true, true, true, true, true, true, true, true, true, true, true, true, true, true, true, true, true, true, true, true, true, true, true, true, true, true, true, true, false, false, false] rfl rfl (by kernel_rfl) (fun _ _ _ h => h) (Or.inr ⟨by rfl, rfl⟩) ?_ ?_
    rotate_left
    · simp only [Act.put, List.setIfInBounds_toArray, List.set_cons_zero, List.set_cons_succ, i64_w, i32_w]
      rfl
    refine pure_ (i := 36) (N := some 43) (v := undef) (a' := ?_) #[true, true, true, true, true, true, true, true, true, true, true, true, true, true, true, true, true, true, true, true, true, true, true, true, true, true, true, true, true, true, true, true, true, true, true, true, true, false, false] rfl rfl (by kernel_rfl) (fun _ _ _ h => h) (Or.inr ⟨by rfl, rfl⟩) ?_ ?_
    rotate_left
    · simp only [Act.put, List.setIfInBounds_toArray, List.set_cons_zero, List.set_cons_succ, i64_w, i32_w]
      rfl
    refine pure_ (i := 37) (N := some 44) (v := ?_) (a' := ?_) #[true, true, true, true, true, true, true, true, true, true, true, true, true, true, true, true, true, true, true, true, true, true, true, true, true, true, true, true, true, true, true, true, true, true, true, true, true, true, false] rfl rfl (by kernel_rfl) (fun _ _ _ h => h) (Or.inl ⟨by rfl, ?_⟩) ?_ ?_
    rotate_left
    · intro w'
      go_simp
      with_reducible rfl
    rotate_left
    · simp only [Act.put, List.setIfInBounds_toArray, List.set_cons_zero, List.set_cons_succ, i64_w, i32_w]
      rfl
    refine pure_ (i := 38) (N := some 6) (v := ?_) (a' := ?_) #[true, true, true, true, true, true, true, true, true, true, true, true, true, true, true, true, true, true, true, true, true, true, true, true, true, true, true, true, true, true, true, true, true, true, true, true, true, true, true] rfl rfl (by kernel_rfl) (fun _ _ _ h => h) (Or.inl ⟨by rfl, ?_⟩) ?_ ?_
    rotate_left
    · intro w'
      go_simp
      with_reducible rfl
    rotate_left
    · simp only [Act.put, List.setIfInBounds_toArray, List.set_cons_zero, List.set_cons_succ, i64_w, i32_w]
      rfl
    refine done_ (by kernel_rfl) ?_
    go_wp2
    go_ret
    exact ⟨by first | rfl | (simp; done), hHeld.1⟩
section
variable {w w0 w1 w2 : World} {g : Nat} {v v1 v2 u : Value}
/-- What a call on the object at g (its row v before, v' behind it) has turned: that block, that row, and what is new. -/
def Mv (w w' : World) (g : Nat) (v v' : Value) : Prop :=
  KeepBut w w' g v.ownBlock ∧ (∀ k, v'.ownBlock = some k → v.ownBlock = some k ∨ w.heap.size ≤ k) ∧ w'.os = w.os ∧ w'.tape = w.tape ∧ w'.output = w.output
theorem Mv.refl (w : World) (g : Nat) (v : Value) : Mv w w g v v := ⟨KeepBut.refl _ _ _, fun _ h => .inl h, rfl, rfl, rfl⟩
theorem Mv.of_below (h : Below w.heap.size w w1) (g : Nat) (v : Value) : Mv w w1 g v v := ⟨KeepBut.of_below h _ _, fun _ h => .inl h, h.os, h.tape, h.output⟩
theorem Mv.trans (h : Mv w w1 g v v1) (k : Mv w1 w2 g v1 v2) : Mv w w2 g v v2 := by
  refine ⟨⟨Nat.le_trans h.1.1 k.1.1, fun i hi hg hn => ?_⟩, fun i hi => ?_, k.2.2.1.trans h.2.2.1, k.2.2.2.1.trans h.2.2.2.1, k.2.2.2.2.trans h.2.2.2.2⟩
  · refine (k.1.2 i (Nat.lt_of_lt_of_le hi h.1.1) hg (fun e => ?_)).trans (h.1.2 i hi hg hn)
    rcases h.2.1 i e.symm with h1 | h1
    · exact hn h1.symm
    · omega
  · rcases k.2.1 i hi with h1 | h1
    · exact h.2.1 i h1
    · exact .inr (Nat.le_trans h.1.1 h1)
theorem Mv.below_ (h : Mv w w1 g v v1) (k : Below w1.heap.size w1 w2) : Mv w w2 g v v1 := h.trans (Mv.of_below k g v1)
theorem Mv.set (h : Mv w w1 g v v1) (i : Nat) (u : Value) : Mv w (w1.setCell ⟨g, i, none⟩ u) g v v1 := ⟨h.1.set_ i u, h.2.1, h.2.2.1, h.2.2.2.1, h.2.2.2.2⟩
theorem Mv.far (h : Mv w w1 g v v1) {p : Addr} (hp : w.heap.size ≤ p.block) (u : Value) : Mv w (w1.setCell p u) g v v1 := ⟨keep_far h.1 hp u, h.2.1, h.2.2.1, h.2.2.2.1, h.2.2.2.2⟩
theorem Mv.as (h : Mv w w1 g v v1) (e : v2.ownBlock = v1.ownBlock) : Mv w w1 g v v2 := ⟨h.1, by rw [e]; exact h.2.1, h.2.2⟩
theorem Mv.grown (h : Mv w w1 g v v1) (k : w1.grownBy w2 v1.ownBlock) (e : v2.ownBlock = v1.ownBlock ∨ ∃ b, v2.ownBlock = some b ∧ w1.heap.size ≤ b) : Mv w w2 g v v2 :=
  h.trans ⟨KeepBut.of_grown k g, fun i hi => by
    rcases e with e | ⟨b, e, hb⟩
    · exact .inl (e.symm.trans hi)
    · rw [e] at hi; injection hi with hi; exact .inr (hi ▸ hb), k.os, k.tape, k.output⟩
/-- A row of its own has been made, and is the object's now. -/
theorem Mv.fresh (h : Mv w w1 g v v1) (k : w1.grownBy w2 u.ownBlock) (hu : ∀ k, u.ownBlock = some k → w.heap.size ≤ k) (e : v2.ownBlock = u.ownBlock ∨ ∃ b, v2.ownBlock = some b ∧ w1.heap.size ≤ b) : Mv w w2 g v v2 := by
  refine ⟨⟨Nat.le_trans h.1.1 k.size, fun i hi hg hn => (k.block i (Nat.lt_of_lt_of_le hi h.1.1) (fun e2 => by have := hu i e2.symm; omega)).trans (h.1.2 i hi hg hn)⟩, fun i hi => .inr ?_, k.os.trans h.2.2.1, k.tape.trans h.2.2.2.1, k.output.trans h.2.2.2.2⟩
  rcases e with e | ⟨b, e, hb⟩
  · exact hu i (e.symm.trans hi)
  · rw [e] at hi; injection hi with hi; have := h.1.1; omega
/-- A row of its own has been made beside. -/
theorem Mv.beside (h : Mv w w1 g v v1) (k : w1.grownBy w2 u.ownBlock) (hu : ∀ k, u.ownBlock = some k → w.heap.size ≤ k) : Mv w w2 g v v1 :=
  ⟨⟨Nat.le_trans h.1.1 k.size, fun i hi hg hn => (k.block i (Nat.lt_of_lt_of_le hi h.1.1) (fun e2 => by have := hu i e2.symm; omega)).trans (h.1.2 i hi hg hn)⟩, h.2.1, k.os.trans h.2.2.1, k.tape.trans h.2.2.2.1, k.output.trans h.2.2.2.2⟩
theorem Mv.below_base {base : Nat} (m : Mv w w1 g v v1) (hb : base ≤ w.heap.size) (hg : base ≤ g) (hv : ∀ k, v.ownBlock = some k → base ≤ k) : Below base w w1 :=
  ⟨m.2.2.1, m.2.2.2.1, m.2.2.2.2, m.1.1, fun k hk => m.1.2 k (by omega) (by omega) (fun e => by have := hv k e.symm; omega)⟩
theorem Mv.keeps (m : Mv w w1 g v v1) {b : Nat} {o : Obj} (hb : w.heap[b]? = some o) (hg : b ≠ g) (hv : some b ≠ v.ownBlock) : w1.heap[b]? = some o := (m.1.2 b (blk_lt hb) hg hv).trans hb
end
section
variable {P : Program} {w : World} {ops : Array Oper} {rest : List Oper} {o : Oper} {a : Act} {Q : Exit → Act → World → Prop}
/-- A new struct. -/
theorem wp_alloc_cells (hg : o.guard = none) (t : TypeId) (hop : o.op = .alloc t) (z : Array Value) (hz : (P.info? t).map (·.zero) = some (some (.agg z)))
    (h : ∀ g, g = w.heap.size → ∀ w1, w1.heap[g]? = some (.cells z t (0, 0)) → Below w.heap.size w w1 → wpList P ops Q rest (a.put o.dst (.pointer (some ⟨g, 0, none⟩))) w1) : wpList P ops Q (o :: rest) a w := by
  refine Kd.event_run hg (w1 := w.alloc (.cells z t (0, 0))) (v := .pointer (some ⟨w.heap.size, 0, none⟩)) ?_ (h _ rfl _ (blk_new w _) (below_alloc (Below.refl _ _) _))
  have hzv : (zeroValue t).run P w = .ok (.agg z) w := by
    cases hq : P.info? t with
    | none => simp [hq] at hz
    | some i => simp [hq] at hz; simp [zeroValue, typeInfo, hq, hz]
  unfold execOp
  simp only [hop, Instr.alloc, Sem.run_bind, hzv, Result.andThen_ok]
  rfl
/-- A struct is written into its block. -/
theorem wp_store_cells (hg : o.guard = none) (t : TypeId) (x y : Operand) (hop : o.op = .store t x y) (hN : o.dst = none) (g : Nat) (cells : Array Value) (hx : a.eval x = .pointer (some ⟨g, 0, none⟩)) (hy : a.eval y = .agg cells) (t' : TypeId) (old : Array Value)
    (hb : w.heap[g]? = some (.cells old t' (0, 0))) (hi : (P.info? t).map (·.size) = some cells.size) (ho : old.size = cells.size) (h1 : cells.all (·.oneCell') = true)
    (h : ∀ w1, w1.heap[g]? = some (.cells cells t' (0, 0)) → Wrote w w1 g → wpList P ops Q rest a w1) : wpList P ops Q (o :: rest) a w := by
  refine wpList_plain hg fun K hK => wp_store_row t x y hop g cells hx hy t' old hb hi ho h1 ?_
  rw [hN]
  exact hK _ _ (h _ (setRow_heap w g _ _ _ _ hb) (Wrote.row _ _ _))
/-- A cell of a block is written. -/
theorem wp_put_cell (hg : o.guard = none) (t : TypeId) (x y : Operand) (hop : o.op = .store t x y) (hN : o.dst = none) (g i : Nat) (v : Value) (hv : v.oneCell' = true) (hvc : v.cells.toList = [v]) (hx : a.eval x = .pointer (some ⟨g, i, none⟩)) (hy : a.eval y = v) (t' : TypeId) (old : Array Value)
    (hb : w.heap[g]? = some (.cells old t' (0, 0))) (hi : (P.info? t).map (·.size) = some 1) (hl : i < old.size)
    (h : ∀ w1, w1.heap[g]? = some (.cells (old.setIfInBounds i v) t' (0, 0)) → Wrote w w1 g → wpList P ops Q rest a w1) : wpList P ops Q (o :: rest) a w := by
  have hc : w.cell? ⟨g, i, none⟩ = some old[i] := (blk_cell hb i).trans (by simp [hl])
  have hf := blk_frozen hb i
  have hrun : (storeVar t ⟨g, i, none⟩ v).run P w = .ok () (w.setCell ⟨g, i, none⟩ v) := by
    cases hq : P.info? t with
    | none => simp [hq] at hi
    | some inf =>
      have hs : inf.size = 1 := by simpa [hq] using hi
      have hz : (sizeOf t).run P w = .ok 1 w := by simp [sizeOf, typeInfo, hq, hs]
      have e0 : (⟨g, i, none⟩ : Addr).add 0 = ⟨g, i, none⟩ := Addr.add_mid g i 0
      have hsz : v.cells.size = 1 := by rw [← Array.length_toList, hvc]; rfl
      simp only [storeVar, Sem.run_bind, hz, Result.andThen_ok]
      simp [hsz, hvc, storeCells, e0, run_store P w _ v _ hv, hc, hf, Result.andThen]
  refine wpList_plain hg fun K hK => ?_
  unfold Oper.wp execOp
  simp only [hop, hx, hy, Instr.storeAt, Instr.sureAddr, Sem.run_bind, Sem.run_pure, Result.andThen_ok, hrun]
  show K (a.put o.dst undef) _
  rw [hN]
  exact hK _ _ (h _ (blk_set hb i _) (Wrote.set _ _ _ _))
end
/-- A range. -/
structure Rg where
  lo : Int
  hi : Int
  va : Int
def zR : Rg := ⟨0, 0, 0⟩
def kR : Kd Rg := Kd.iso (Kd.pair (Kd.int .i64) (Kd.pair (Kd.int .i64) (Kd.int .i64))) (fun x : Rg => (x.lo, x.hi, x.va))
theorem kR_open {w : World} {x : Rg} {cs : List Value} (h : kR.K w x cs) : cs = [.int .i64 x.lo, .int .i64 x.hi, .int .i64 x.va] := by
  obtain ⟨_, _, rfl, rfl, ⟨_, _, rfl, rfl, rfl⟩⟩ := h
  exact rfl
theorem kR_mk (w : World) (x : Rg) : kR.K w x [.int .i64 x.lo, .int .i64 x.hi, .int .i64 x.va] := ⟨[.int .i64 x.lo], [.int .i64 x.hi, .int .i64 x.va], rfl, rfl, ⟨[.int .i64 x.hi], [.int .i64 x.va], rfl, rfl, rfl⟩⟩
theorem kR_mkM (w : World) (base : Nat) (ok : Nat → Prop) (x : Rg) : kR.M w base ok x [.int .i64 x.lo, .int .i64 x.hi, .int .i64 x.va] := ⟨[.int .i64 x.lo], [.int .i64 x.hi, .int .i64 x.va], rfl, rfl, ⟨[.int .i64 x.hi], [.int .i64 x.va], rfl, rfl, rfl⟩⟩
def rgAt (l : List Rg) (i : Nat) : Rg := l.getD i zR
theorem at_Rg {w : World} {A : Option Addr} {n : Nat} {xs : List Rg} (h : Kd.C kR w A n xs) (i : Nat) (h1 : i < n) : ∃ ad, A = some ad ∧ w.cell? (ad.add (i * 3)) = some (.int .i64 (rgAt xs i).lo) ∧ w.cell? ⟨(ad.add (i * 3)).block, (ad.add (i * 3)).off + 1, none⟩ = some (.int .i64 (rgAt xs i).hi) ∧ w.cell? ⟨(ad.add (i * 3)).block, (ad.add (i * 3)).off + 2, none⟩ = some (.int .i64 (rgAt xs i).va) := by
  obtain ⟨ad, c, e, _, hK, hc0⟩ := Kd.C_get h zR (i : Int) (by omega) (by omega)
  rw [Int.toNat_natCast] at hK hc0
  have hc : ∀ j u, c[j]? = some u → w.cell? (ad.add (i * 3 + j)) = some u := hc0
  obtain rfl := kR_open hK
  exact ⟨ad, e, hc 0 _ rfl, by rw [← add_field _ _ 1 (by omega)]; exact hc 1 _ rfl, by rw [← add_field _ _ 2 (by omega)]; exact hc 2 _ rfl⟩
/-- What ranges have at a code: the last one that has it. -/
def valR (l : List Rg) (z c : Int) : Int := l.foldl (fun v r => if r.lo ≤ c ∧ c ≤ r.hi then r.va else v) z
theorem valR_snoc (l : List Rg) (r : Rg) (z c : Int) : valR (l ++ [r]) z c = if r.lo ≤ c ∧ c ≤ r.hi then r.va else valR l z c := by simp [valR, List.foldl_append]
theorem valR_take {l : List Rg} {m : Nat} (hm : m < l.length) (z c : Int) : valR (l.take (m + 1)) z c = if (rgAt l m).lo ≤ c ∧ c ≤ (rgAt l m).hi then (rgAt l m).va else valR (l.take m) z c := by
  rw [← valR_snoc]
  congr 1
  rw [List.take_add_one]
  simp [rgAt, List.getD, hm]
theorem valR_none {l : List Rg} {z c : Int} (h : ∀ r, r ∈ l → ¬ (r.lo ≤ c ∧ c ≤ r.hi)) : valR l z c = z := by
  unfold valR
  induction l generalizing z with
  | nil => rfl
  | cons r l ih => rw [List.foldl_cons, if_neg (h r (by simp))]; exact ih (fun q hq => h q (by simp [hq]))
theorem valR_app (a b : List Rg) (z c : Int) (h : ∀ r, r ∈ b → ¬ (r.lo ≤ c ∧ c ≤ r.hi)) : valR (a ++ b) z c = valR a z c := by
  unfold valR
  rw [List.foldl_append]
  exact valR_none h
theorem valR_end {l : List Rg} {m : Nat} {z c : Int} (h : ∀ j, m ≤ j → j < l.length → c < (rgAt l j).lo) : valR (l.take m) z c = valR l z c := by
  conv => rhs; rw [← List.take_append_drop m l]
  refine (valR_app _ _ _ _ (fun r hr => ?_)).symm
  obtain ⟨j, hj, e⟩ := List.mem_iff_getElem.1 hr
  rw [List.length_drop] at hj
  have := h (m + j) (by omega) (by omega)
  have e2 : rgAt l (m + j) = r := by rw [← e]; simp [rgAt, List.getD, show m + j < l.length by omega]
  rw [e2] at this
  omega
/-- Ranges that may be. -/
def OkL (l : List Rg) : Prop := (∀ i, i < l.length → 0 ≤ (rgAt l i).lo ∧ (rgAt l i).lo ≤ (rgAt l i).hi ∧ (rgAt l i).hi ≤ 1114111) ∧ ∀ i j, i < j → j < l.length → (rgAt l i).hi < (rgAt l j).lo
/-- The numbers of a part. -/
def blkOf (l : List Rg) (z : Int) (p : Nat) : List Int := (List.range 128).map fun k => valR l z ((128 * p + k : Nat) : Int)
theorem blkOf_len (l : List Rg) (z : Int) (p : Nat) : (blkOf l z p).length = 128 := by simp [blkOf]
theorem blkOf_at (l : List Rg) (z : Int) (p k : Nat) (hk : k < 128) : (blkOf l z p).getD k 0 = valR l z ((128 * p + k : Nat) : Int) := by simp [blkOf, List.getD, hk]
theorem info_blk : (Try.prog.info? 107).map (fun i => (i.zero, i.size, i.bytes)) = some (some (.agg (arr (rep 0))), 128, 1024) := by kernel_rfl
/-- A table at block g that is being built. -/
def TabB (w : World) (base g : Nat) (v1 v2 : Value) (fs : List Int) (bs : List (List Int)) (z : Int) : Prop :=
  w.heap[g]? = some (.cells #[v1, v2, .int .i64 z, .bool true] 105 (0, 0)) ∧ Kd.R (Kd.int .i64) 3 w base (fun k => k ≠ g) v1 fs ∧ Kd.R kB 107 w base (fun k => k ≠ g) v2 bs ∧ base ≤ g
theorem tabb_below {w w' : World} {base g : Nat} {v1 v2 : Value} {fs : List Int} {bs : List (List Int)} {z : Int} (h : TabB w base g v1 v2 fs bs z) (hb : Below w.heap.size w w') : TabB w' base g v1 v2 fs bs z :=
  ⟨blk_below h.1 hb, Kd.R_below h.2.1 hb, Kd.R_below h.2.2.1 hb, h.2.2.2⟩
/-- Where a block is, or will be. -/
def addB (l : List Int) (bs : List (List Int)) : List (List Int) := if l ∈ bs then bs else bs ++ [l]
def AddR (w : World) (base g : Nat) (v1 v2 : Value) (fs : List Int) (bs : List (List Int)) (z : Int) (l : List Int) (e : Ending) (w' : World) : Prop :=
  ∃ v2', e = .returned (.int .i64 ((bs.idxOf l : Nat) : Int)) ∧ TabB w' base g v1 v2' fs (addB l bs) z ∧ Mv w w' g v2 v2'
theorem idx_at {l : List Int} {bs : List (List Int)} {i : Nat} (hi : i < bs.length) (h : bs.getD i [] = l) (hn : ∀ j, j < i → bs.getD j [] ≠ l) : bs.idxOf l = i ∧ l ∈ bs := by
  have hm : l ∈ bs := by rw [← h]; simp [List.getD, hi]
  refine ⟨?_, hm⟩
  have h1 := List.idxOf_lt_length_of_mem hm
  have h2 : bs.getD (bs.idxOf l) [] = l := by simp [List.getD, h1]
  rcases Nat.lt_trichotomy (bs.idxOf l) i with h3 | h3 | h3
  · exact absurd h2 (hn _ h3)
  · exact h3
  · have h4 := List.not_of_lt_findIdx (p := fun x => x == l) (xs := bs) (i := i) h3
    simp [List.getD, hi] at h h4
    exact absurd h h4
theorem idx_no {l : List Int} {bs : List (List Int)} (hn : ∀ j, j < bs.length → bs.getD j [] ≠ l) : bs.idxOf l = bs.length ∧ ¬ l ∈ bs := by
  have hm : ¬ l ∈ bs := fun h => by
    obtain ⟨j, hj, e⟩ := List.mem_iff_getElem.1 h
    exact hn j hj (by simp [List.getD, hj, e])
  exact ⟨List.idxOf_eq_length hm, hm⟩
theorem arr_range {w : World} {b t : Nat} {l : List Int} (h : w.heap[b]? = some (.cells (arr l) t (0, 0))) : ∀ j v, (l.map (Value.int .i64))[j]? = some v → w.cell? ((⟨b, 0, none⟩ : Addr).add j) = some v := fun j v hv => by
  rw [Addr.add_mid, Nat.zero_add, blk_cell h]
  simpa [arr] using hv
set_option maxHeartbeats 8000000 in
set_option maxRecDepth 100000 in
theorem p_add {w : World} {base g : Nat} {v1 v2 : Value} {fs : List Int} {bs : List (List Int)} {z : Int} (h : TabB w base g v1 v2 fs bs z) (l : List Int) (hl : l.length = 128) (hm : bs.length ≤ 8704) :
    Calls Try.prog 82 #[.pointer (some ⟨g, 0, none⟩), .agg (arr l)] w (AddR w base g v1 v2 fs bs z l) := by
  unfold AddR
  have HT := Aside0.mk h
  have HLL := Aside0.mk hl
  have HLM := Aside0.mk hm
  obtain ⟨A2, c2, e, hc2, hC2⟩ := Kd.R_reads h.2.2.1
  have HV := Aside0.mk e
  have HC := Aside0.mk hC2
  have HK1 := Aside0.mk (show w.cell? ⟨g, 1, none⟩ = some (.slice A2 bs.length c2) by rw [← e]; exact (blk_cell h.1 1).trans rfl)
  clear h hl hm e hc2 hC2
  go_enter Try.func82, Try.ntmps82
  go_wp2_with (first | ((with_reducible refine gate_dst (N := 3) rfl ?_); refine box_event ?hg (N := 3) ?hd (cs := arr l) (t := 107) ?hr ?_; (case hd => rfl); (case hg => rfl); (case hr => first | (go_simp; done) | (go_simp; rfl)); intro g3 hg w1 hbox hb; have BX := Aside0.mk hbox; have HB := Aside0.mk hb; have HG3 := Aside0.mk (show w.heap.size ≤ g3 by omega); have k1 := pw_cell_below hb HK1.out; clear hg hbox hb))
  go_loopg [11] bs.length (fun kq v11 w' => ∃ (i : Nat), v11 = .int .i64 (i : Int) ∧ Aside0 (i ≤ bs.length ∧ bs.length - i = kq ∧ ∀ j, j < i → bs.getD j [] ≠ l) ∧ Aside0 (w'.heap[g3]? = some (.cells (arr l) 107 (0, 0))) ∧ Aside0 (Below w.heap.size w w'))
  case atStart => exact ⟨0, rfl, ⟨Nat.zero_le _, rfl, fun j hj => by omega⟩, BX, HB⟩
  case round =>
    clear BX HB k1
    obtain ⟨i, rfl, HI, BX, HB⟩ := hrel
    by_cases hlt : i < bs.length
    · have b0 : decide ((i : Int) < (bs.length : Int)) = true := decide_eq_true (by omega)
      have b1 : decide (i < bs.length) = true := decide_eq_true hlt
      have hw := (show wrap64 ((i : Int) + 1) = ((i + 1 : Nat) : Int) by have := HLM.out; unfold wrap64; omega)
      have hi0 : (0 : Int) ≤ (i : Int) := by omega
      have hi1 : (i : Int) < (bs.length : Int) := by omega
      replace hi0 := eq_true hi0
      replace hi1 := eq_true hi1
      have hi2 : (i < bs.length) = True := eq_true hlt
      have HLT := Aside0.mk hlt
      obtain ⟨hL, a2, e, x3⟩ := at_B (Kd.C_below HC.out HB.out) i hlt
      cases e
      have HL := Aside0.mk hL
      generalize hr : decide (bs.getD i [] = l) = r
      have HR := Aside0.mk hr
      have HS := Aside0.mk (show (fun w' => w'.cell? ⟨g, 1, none⟩ = some (.slice (some a2) bs.length c2) ∧ (∀ j v, ((bs.getD i []).map (Value.int .i64))[j]? = some v → w'.cell? ((a2.add (i * 128)).add j) = some v) ∧ (∀ j v, ((l).map (Value.int .i64))[j]? = some v → w'.cell? ((⟨g3, 0, none⟩ : Addr).add j) = some v)) wr.drew from ⟨pw_cell_below HB.out.drew HK1.out, fun j v hv => by rw [Go.Deep.add_add]; exact x3 j v hv, arr_range (blk_drew BX.out)⟩)
      clear hlt x3 hL hr
      go_wp2
      refine start_ (n := 9) (S := fun w' => w'.cell? ⟨g, 1, none⟩ = some (.slice (some a2) bs.length c2) ∧ (∀ j v, ((bs.getD i []).map (Value.int .i64))[j]? = some v → w'.cell? ((a2.add (i * 128)).add j) = some v) ∧ (∀ j v, ((l).map (Value.int .i64))[j]? = some v → w'.cell? ((⟨g3, 0, none⟩ : Addr).add j) = some v)) (ds := []) #[false, false, false, false, false, false, false, false, false] (by kernel_rfl) rfl rfl HS.out (fun hHeld => ?_)
      refine pure_ (i := 0) (N := some 14) (v := ?_) (a' := ?_) #[true, false, false, false, false, false, false, false, false] rfl rfl (by kernel_rfl) (fun _ _ _ h => h) (Or.inl ⟨by rfl, ?_⟩) ?_ ?_
      rotate_left
      · intro w'
        go_simp
        with_reducible rfl
      rotate_left
      · simp only [Act.put, List.setIfInBounds_toArray, List.set_cons_zero, List.set_cons_succ, i64_w, i32_w]
        rfl
      refine pure_ (i := 1) (N := some 15) (v := ?_) (a' := ?_) #[true, true, false, false, false, false, false, false, false] rfl rfl (by kernel_rfl) (fun _ _ _ h => h) (Or.inl ⟨by rfl, ?_⟩) ?_ ?_
      rotate_left
      · intro w'
        go_simp
        with_reducible rfl
      rotate_left
      · simp only [Act.put, List.setIfInBounds_toArray, List.set_cons_zero, List.set_cons_succ, i64_w, i32_w]
        rfl
      refine pure_ (i := 2) (N := some 16) (v := ?_) (a' := ?_) #[true, true, true, false, false, false, false, false, false] rfl rfl (by kernel_rfl) (fun _ _ _ h => h) (Or.inl ⟨by rfl, ?_⟩) ?_ ?_
      rotate_left
      · intro w'
        go_simp
        with_reducible rfl
      rotate_left
      · simp only [Act.put, List.setIfInBounds_toArray, List.set_cons_zero, List.set_cons_succ, i64_w, i32_w]
        rfl
      refine take_ (i := 3) (N := some 17) (v := ?_) (a' := ?_) #[true, true, true, true, false, false, false, false, false] rfl rfl (by kernel_rfl) (fun _ _ _ h => h) (Or.inl ⟨by rfl, ?_⟩) hHeld ?_ ?_
      rotate_left
      · rintro w' ⟨s0, s1, s2⟩
        go_simp
        with_reducible rfl
      rotate_left
      · simp only [Act.put, List.setIfInBounds_toArray, List.set_cons_zero, List.set_cons_succ, i64_w, i32_w]
        rfl
      refine pure_ (i := 4) (N := some 18) (v := ?_) (a' := ?_) #[true, true, true, true, true, false, false, false, false] rfl rfl (by kernel_rfl) (fun _ _ _ h => h) (Or.inl ⟨by rfl, ?_⟩) ?_ ?_
      rotate_left
      · intro w'
        go_simp
        with_reducible rfl
      rotate_left
      · simp only [Act.put, List.setIfInBounds_toArray, List.set_cons_zero, List.set_cons_succ, i64_w, i32_w]
        rfl
      refine pure_ (i := 5) (N := some 19) (v := ?_) (a' := ?_) #[true, true, true, true, true, true, false, false, false] rfl rfl (by kernel_rfl) (fun _ _ _ h => h) (Or.inl ⟨by rfl, ?_⟩) ?_ ?_
      rotate_left
      · intro w'
        go_simp
        with_reducible rfl
      rotate_left
      · simp only [Act.put, List.setIfInBounds_toArray, List.set_cons_zero, List.set_cons_succ, i64_w, i32_w]
        rfl
      refine take_ (i := 6) (N := some 20) (v := .agg (arr (bs.getD i []))) (a' := ?_) #[true, true, true, true, true, true, true, false, false] rfl rfl (by kernel_rfl) (fun _ _ _ h => h) (Or.inl ⟨by rfl, ?_⟩) hHeld ?_ ?_
      · rintro w' ⟨s0, s1, s2⟩
        exact exec_load_arr 107 (.tmp 19) rfl (a2.add (i * 128)) rfl (bs.getD i []) s1 128 3 Try.underlying107 size_blk HL.out
      rotate_left
      · simp only [Act.put, List.setIfInBounds_toArray, List.set_cons_zero, List.set_cons_succ, i64_w, i32_w]
        rfl
      refine take_ (i := 7) (N := some 21) (v := .agg (arr l)) (a' := ?_) #[true, true, true, true, true, true, true, true, false] rfl rfl (by kernel_rfl) (fun _ _ _ h => h) (Or.inl ⟨by rfl, ?_⟩) hHeld ?_ ?_
      · rintro w' ⟨s0, s1, s2⟩
        exact exec_load_arr 107 (.tmp 3) rfl ⟨g3, 0, none⟩ rfl l s2 128 3 Try.underlying107 size_blk HLL.out
      rotate_left
      · simp only [Act.put, List.setIfInBounds_toArray, List.set_cons_zero, List.set_cons_succ, i64_w, i32_w]
        rfl
      refine pure_ (i := 8) (N := some 22) (v := .bool r) (a' := ?_) #[true, true, true, true, true, true, true, true, true] rfl rfl (by kernel_rfl) (fun _ _ _ h => h) (Or.inl ⟨by rfl, ?_⟩) ?_ ?_
      · intro w'
        rw [← HR.out]
        exact exec_eq_arr false 107 107 (.tmp 20) (.tmp 21) rfl (bs.getD i []) l rfl rfl (by kernel_rfl) 128 3 Try.underlying107 Try.underlying3 size_int HL.out HLL.out
      rotate_left
      · simp only [Act.put, List.setIfInBounds_toArray, List.set_cons_zero, List.set_cons_succ, i64_w, i32_w]
        rfl
      refine done_ (by kernel_rfl) ?_
      cases r with
      | true =>
        go_wp2
        go_ret
        have he := idx_at HLT.out (of_decide_eq_true HR.out) HI.out.2.2
        exact ⟨v2, by rw [he.1]; rfl, by unfold addB; rw [if_pos he.2]; exact tabb_below HT.out HB.out.drew, Mv.of_below HB.out.drew _ _⟩
      | false =>
        go_wp2
        go_roundg (bs.length - (i + 1))
        case measure => have := HI.out; have := HLT.out; omega
        case rel => exact ⟨i + 1, by first | rfl | go_num | rw [hw], ⟨by have := HLT.out; omega, rfl, fun j hj => by
          by_cases e : j = i
          · subst e; exact of_decide_eq_false HR.out
          · exact HI.out.2.2 j (by omega)⟩, ⟨blk_drew BX.out⟩, ⟨HB.out.drew⟩⟩
    · have b0 : decide ((i : Int) < (bs.length : Int)) = false := decide_eq_false (by omega)
      have b1 : decide (i < bs.length) = false := decide_eq_false hlt
      have HN := Aside0.mk (idx_no (l := l) (bs := bs) (fun j hj => HI.out.2.2 j (by omega)))
      clear hlt
      have HT6 := Aside0.mk (tabb_below HT.out HB.out.drew)
      have BX6 := Aside0.mk (blk_drew BX.out)
      have HM1 := Aside0.mk (Mv.of_below HB.out.drew g v2)
      have HBB := Aside0.mk (show Below base w wr.drew from HB.out.drew.mono (by have h1 := blk_lt HT.out.1; have h2 := HT.out.2.2.2; omega))
      go_wp2
      refine start_ (n := 11) (S := fun w' => w'.cell? ⟨g, 1, none⟩ = some v2 ∧ (∀ j v, ((l).map (Value.int .i64))[j]? = some v → w'.cell? ((⟨g3, 0, none⟩ : Addr).add j) = some v)) (ds := [7, 10]) #[false, false, false, false, false, false, false, false, false, false, false] (by kernel_rfl) rfl rfl ⟨(blk_cell HT6.out.1 1).trans rfl, arr_range BX6.out⟩ (fun hHeld => ?_)
      generalize wr.drew = w6 at HT6 BX6 HM1 HBB hHeld ⊢
      refine pure_ (i := 0) (N := some 25) (v := ?_) (a' := ?_) #[true, false, false, false, false, false, false, false, false, false, false] rfl rfl (by kernel_rfl) (fun _ _ _ h => h) (Or.inl ⟨by rfl, ?_⟩) ?_ ?_
      rotate_left
      · intro w'
        go_simp
        with_reducible rfl
      rotate_left
      · simp only [Act.put, List.setIfInBounds_toArray, List.set_cons_zero, List.set_cons_succ, i64_w, i32_w]
        rfl
      refine pure_ (i := 1) (N := some 26) (v := ?_) (a' := ?_) #[true, true, false, false, false, false, false, false, false, false, false] rfl rfl (by kernel_rfl) (fun _ _ _ h => h) (Or.inl ⟨by rfl, ?_⟩) ?_ ?_
      rotate_left
      · intro w'
        go_simp
        with_reducible rfl
      rotate_left
      · simp only [Act.put, List.setIfInBounds_toArray, List.set_cons_zero, List.set_cons_succ, i64_w, i32_w]
        rfl
      refine pure_ (i := 2) (N := some 27) (v := ?_) (a' := ?_) #[true, true, true, false, false, false, false, false, false, false, false] rfl rfl (by kernel_rfl) (fun _ _ _ h => h) (Or.inl ⟨by rfl, ?_⟩) ?_ ?_
      rotate_left
      · intro w'
        go_simp
        with_reducible rfl
      rotate_left
      · simp only [Act.put, List.setIfInBounds_toArray, List.set_cons_zero, List.set_cons_succ, i64_w, i32_w]
        rfl
      refine pure_ (i := 3) (N := some 28) (v := ?_) (a' := ?_) #[true, true, true, true, false, false, false, false, false, false, false] rfl rfl (by kernel_rfl) (fun _ _ _ h => h) (Or.inl ⟨by rfl, ?_⟩) ?_ ?_
      rotate_left
      · intro w'
        go_simp
        with_reducible rfl
      rotate_left
      · simp only [Act.put, List.setIfInBounds_toArray, List.set_cons_zero, List.set_cons_succ, i64_w, i32_w]
        rfl
      refine take_ (i := 4) (N := some 29) (v := ?_) (a' := ?_) #[true, true, true, true, true, false, false, false, false, false, false] rfl rfl (by kernel_rfl) (fun _ _ _ h => h) (Or.inl ⟨by rfl, ?_⟩) hHeld ?_ ?_
      rotate_left
      · rintro w' ⟨s0, s1⟩
        go_simp
        with_reducible rfl
      rotate_left
      · simp only [Act.put, List.setIfInBounds_toArray, List.set_cons_zero, List.set_cons_succ, i64_w, i32_w]
        rfl
      refine take_ (i := 5) (N := some 30) (v := .agg (arr l)) (a' := ?_) #[true, true, true, true, true, true, false, false, false, false, false] rfl rfl (by kernel_rfl) (fun _ _ _ h => h) (Or.inl ⟨by rfl, ?_⟩) hHeld ?_ ?_
      · rintro w' ⟨s0, s1⟩
        exact exec_load_arr 107 (.tmp 3) rfl ⟨g3, 0, none⟩ rfl l s1 128 3 Try.underlying107 size_blk HLL.out
      rotate_left
      · simp only [Act.put, List.setIfInBounds_toArray, List.set_cons_zero, List.set_cons_succ, i64_w, i32_w]
        rfl
      refine one_ (i := 6) (N := some 31) #[true, true, true, true, true, true, true, false, false, false, false] rfl rfl (by kernel_rfl) (by decide) (fun K hK => ?_)
      refine value_ (w1 := w6.alloc (.cells (arr l) 107)) (v := .slice (some ⟨w6.heap.size, 0, none⟩) 1 1) (by rfl) rfl ?_ ?_
      · exact exec_row_one 101 107 (.tmp 30) rfl l rfl 128 Try.underlying101 size_blk zero_blk HLL.out (by decide) (by decide)
      refine hK.out _ _ ⟨(blk_cell (blk_alloc HT6.out.1 _) 1).trans rfl, arr_range (blk_alloc BX6.out _)⟩ (fun hHeld => ?_)
      clear hK K
      refine norm_ (a' := ?_) ?_ ?_
      rotate_left
      · show Act.put _ (some 31) _ = _
        simp only [Act.put, List.setIfInBounds_toArray, List.set_cons_zero, List.set_cons_succ, i64_w, i32_w]
        rfl
      refine last_ (i := 7) (N := some 32) #[true, true, true, true, true, true, true, true, false, false, false] rfl rfl (by kernel_rfl) (by decide) (fun K hK => ?_)
      refine Kd.R_append_step kB (w0 := w) base (by rfl) (.tmp 29) (.tmp 31) 101 107 (.agg (arr (rep 0))) 1024 rfl Try.underlying101 info_blk (by simp [Value.cells, arr_size, kB, rep_len]) (by decide) (by omega) v2 bs l (l.map (Value.int .i64)) (fun k => k ≠ g) (fun _ => False) rfl rfl ?aP (fun _ hk => hk.elim) ?aF ?aO ?aB ?aS ?aL ?_
      (case aP => exact ⟨HLL.out, rfl⟩)
      (case aB => exact HBB.out)
      (case aF => exact (fun k hk => by have := blk_lt HT6.out.1; omega))
      (case aO => exact HT6.out.2.2.1)
      (case aS => exact (by have := blk_lt HT6.out.1; have := HT6.out.2.2.2; omega))
      (case aL => have := HLM.out; omega)
      intro v3 w4 ho hb hg_ hat
      obtain ⟨A3, c3, e3⟩ := Kd.R_slice ho
      generalize hn3 : (bs ++ [l]).length = n3 at e3
      have HN3 := Aside0.mk (show n3 = bs.length + 1 by rw [← hn3]; simp)
      clear hn3
      subst e3
      have hG := Aside0.mk (blk_grown HT6.out.1 hg_ (Kd.R_away HT6.out.2.2.1 (fun _ hk => hk)))
      have HO := Aside0.mk ho
      have HR1 := Aside0.mk (Kd.R_over' HT6.out.2.1 (Kd.R_typed HT6.out.2.2.1) (by decide) hg_)
      have HM2 := Aside0.mk (HM1.out.grown hg_ hat)
      clear ho hb hg_ hat
      refine hK.out _ _ ?_
      clear hK K
      refine norm_ (a' := ?_) ?_ ?_
      rotate_left
      · show Act.put _ (some 32) _ = _
        simp only [Act.put, List.setIfInBounds_toArray, List.set_cons_zero, List.set_cons_succ, i64_w, i32_w]
        rfl
      refine pure_ (i := 8) (N := some 33) (v := ?_) (a' := ?_) #[true, true, true, true, true, true, true, true, true, false, false] rfl rfl (by kernel_rfl) (fun _ _ _ h => h) (Or.inl ⟨by rfl, ?_⟩) ?_ ?_
      rotate_left
      · intro w'
        go_simp
        with_reducible rfl
      rotate_left
      · simp only [Act.put, List.setIfInBounds_toArray, List.set_cons_zero, List.set_cons_succ, i64_w, i32_w]
        rfl
      refine pure_ (i := 9) (N := some 34) (v := ?_) (a' := ?_) #[true, true, true, true, true, true, true, true, true, true, false] rfl rfl (by kernel_rfl) (fun _ _ _ h => h) (Or.inl ⟨by rfl, ?_⟩) ?_ ?_
      rotate_left
      · intro w'
        go_simp
        with_reducible rfl
      rotate_left
      · simp only [Act.put, List.setIfInBounds_toArray, List.set_cons_zero, List.set_cons_succ, i64_w, i32_w]
        rfl
      refine last_ (i := 10) (N := none) #[true, true, true, true, true, true, true, true, true, true, true] rfl rfl (by kernel_rfl) (by decide) (fun K hK => ?_)
      have hs := (blk_cell hG.out 1).trans rfl
      have hf := blk_frozen hG.out 1
      refine skip_ (w1 := w4.setCell ⟨g, 1, none⟩ (.slice A3 n3 c3)) (by rfl) rfl ?_ ?_
      · first | (go_simp; done) | (go_simp; rfl)
      refine hK.out _ _ ?_
      clear hK K hs hf
      refine done_ (by kernel_rfl) ?_
      have HX := Aside0.mk (show TabB (w4.setCell ⟨g, 1, none⟩ (.slice A3 n3 c3)) base g v1 (.slice A3 n3 c3) fs (bs ++ [l]) z from ⟨blk_put hG.out 1 _ rfl, Kd.R_far HR1.out (p := ⟨g, 1, none⟩) (fun _ hk => hk) _, Kd.R_far HO.out (p := ⟨g, 1, none⟩) (fun _ hk => hk) _, HT.out.2.2.2⟩)
      have HMX := Aside0.mk (HM2.out.set 1 (.slice A3 n3 c3))
      generalize w4.setCell ⟨g, 1, none⟩ (.slice A3 n3 c3) = w5 at HX HMX ⊢
      have kx := (blk_cell HX.out.1 1).trans rfl
      have hw3 := (show wrap64 ((n3 : Int) - 1) = (bs.length : Int) by have := HN3.out; have := HLM.out; unfold wrap64; omega)
      go_wp2
      go_ret
      exact ⟨.slice A3 n3 c3, by rw [HN.out.1]; first | rfl | (simp [hw3]; done), by unfold addB; rw [if_neg HN.out.2]; exact HX.out, HMX.out⟩
theorem zero_rng : (Try.prog.info? 66).map (·.zero) = some (some (.agg #[.int .i64 0, .int .i64 0, .int .i64 0])) := by kernel_rfl
theorem size_rng : (Try.prog.info? 66).map (·.size) = some 3 := by kernel_rfl
theorem rep_at (z : Int) (j : Nat) (hj : j < 128) : (rep z).getD j 0 = z := by
  unfold rep
  rw [List.getD_eq_getElem?_getD, List.getElem?_replicate, if_pos hj]; rfl
theorem set_at (b : List Int) (k j : Nat) (v : Int) (hj : j < b.length) : (b.set k v).getD j 0 = if k = j then v else b.getD j 0 := by
  by_cases e : k = j
  · subst e; simp [List.getD, hj]
  · rw [if_neg e]; simp [List.getD, List.getElem?_set_ne e]
theorem blk_is {l : List Rg} {z : Int} {p : Nat} {b : List Int} (hl : b.length = 128) (h : ∀ k, k < 128 → b.getD k 0 = valR l z ((128 * p + k : Nat) : Int)) : b = blkOf l z p := by
  apply List.ext_getElem (by rw [hl, blkOf_len])
  intro k h1 h2
  have h3 := h k (by omega)
  have h4 := blkOf_at l z p k (by omega)
  rw [← h4] at h3
  simpa [List.getD, h1, h2] using h3
def FilR (w : World) (l : List Rg) (p : Nat) (z : Int) (e : Ending) (w' : World) : Prop :=
  ∃ m : Nat, e = .returned (.tuple #[.agg (arr (blkOf l z p)), .int .i64 (m : Int)]) ∧ m ≤ l.length ∧ (∀ j, j < m → (rgAt l j).hi < ((128 * (p + 1) : Nat) : Int)) ∧ Below w.heap.size w w'
/-- How far the first m ranges have filled a part. -/
def Fil (l : List Rg) (z : Int) (p m : Nat) (b : List Int) : Prop := m ≤ l.length ∧ b.length = 128 ∧ (∀ k, k < 128 → b.getD k 0 = valR (l.take m) z ((128 * p + k : Nat) : Int)) ∧ ∀ j, j < m → (rgAt l j).hi < ((128 * (p + 1) : Nat) : Int)
/-- Within a range: its codes from the first one on, ahead of c. -/
def FilIn (l : List Rg) (z : Int) (p m : Nat) (b : List Int) (mx mn c : Int) : Prop := b.length = 128 ∧ mx ≤ c ∧ (c ≤ mn + 1 ∨ c = mx) ∧ ∀ k, k < 128 → b.getD k 0 = if mx ≤ ((128 * p + k : Nat) : Int) ∧ ((128 * p + k : Nat) : Int) < c then (rgAt l m).va else valR (l.take m) z ((128 * p + k : Nat) : Int)
theorem fil_end {l : List Rg} {z : Int} {p m : Nat} {b : List Int} (hO : OkL l) (h : Fil l z p m b) (hm : m < l.length → ((128 * (p + 1) : Nat) : Int) ≤ (rgAt l m).lo) : b = blkOf l z p := by
  refine blk_is h.2.1 (fun k hk => (h.2.2.1 k hk).trans (valR_end fun j h1 h2 => ?_))
  have h3 := hm (by omega)
  rcases Nat.lt_or_ge m j with h4 | h4
  · have h5 := hO.2 m j h4 h2
    have h6 := (hO.1 m (by omega)).2.1
    omega
  · have e : m = j := by omega
    subst e
    omega
theorem fil_begin {l : List Rg} {z : Int} {p m : Nat} (hm : m ≤ l.length) (h : ∀ j, j < m → (rgAt l j).hi < ((128 * p : Nat) : Int)) : Fil l z p m (rep z) := by
  refine ⟨hm, rep_len, fun k hk => ?_, fun j hj => by have := h j hj; omega⟩
  rw [rep_at z k hk, valR_none]
  intro r hr
  obtain ⟨j, hj, e⟩ := List.mem_iff_getElem.1 hr
  rw [List.length_take] at hj
  have := h j (by omega)
  have e2 : rgAt l j = r := by rw [← e]; simp [rgAt, List.getD, show j < l.length by omega]
  rw [e2] at this
  omega
theorem filin_begin {l : List Rg} {z : Int} {p m : Nat} {b : List Int} {mx mn : Int} (h : Fil l z p m b) : FilIn l z p m b mx mn mx :=
  ⟨h.2.1, Int.le_refl _, .inr rfl, fun k hk => by rw [if_neg (by omega)]; exact h.2.2.1 k hk⟩
theorem filin_next {l : List Rg} {z : Int} {p m k0 : Nat} {b : List Int} {mx mn c : Int} (h : FilIn l z p m b mx mn c) (hc : c ≤ mn) (hk : c = ((128 * p + k0 : Nat) : Int)) (hk0 : k0 < 128) : FilIn l z p m (b.set k0 (rgAt l m).va) mx mn (c + 1) := by
  refine ⟨by rw [List.length_set]; exact h.1, by have := h.2.1; omega, .inl (by omega), fun k hk1 => ?_⟩
  rw [set_at _ _ _ _ (by rw [h.1]; exact hk1)]
  have h2 := h.2.1
  by_cases e : k0 = k
  · subst e; rw [if_pos rfl, if_pos (by omega)]
  · rw [if_neg e, h.2.2.2 k hk1]
    congr 1
    apply propext
    omega
/-- A range is done: it goes on behind the part, or the next one follows. -/
theorem filin_end {l : List Rg} {z : Int} {p m : Nat} {b : List Int} {mx mn c : Int} (h : FilIn l z p m b mx mn c) (hm : m < l.length) (hc : ¬ c ≤ mn) (hmx : mx = if (rgAt l m).lo < ((128 * p : Nat) : Int) then ((128 * p : Nat) : Int) else (rgAt l m).lo) (hmn : mn = if ((128 * p + 127 : Nat) : Int) < (rgAt l m).hi then ((128 * p + 127 : Nat) : Int) else (rgAt l m).hi) :
    b.length = 128 ∧ ∀ k, k < 128 → b.getD k 0 = valR (l.take (m + 1)) z ((128 * p + k : Nat) : Int) := by
  refine ⟨h.1, fun k hk => ?_⟩
  rw [valR_take hm, h.2.2.2 k hk]
  have h2 := h.2.1
  have h3 := h.2.2.1
  congr 1
  apply propext
  split at hmx <;> split at hmn <;> omega
theorem fil_next {l : List Rg} {z : Int} {p m : Nat} {b : List Int} (h0 : ∀ j, j < m → (rgAt l j).hi < ((128 * (p + 1) : Nat) : Int)) (h : b.length = 128 ∧ ∀ k, k < 128 → b.getD k 0 = valR (l.take (m + 1)) z ((128 * p + k : Nat) : Int)) (hm : m < l.length) (hh : (rgAt l m).hi < ((128 * (p + 1) : Nat) : Int)) : Fil l z p (m + 1) b := by
  refine ⟨hm, h.1, h.2, fun j hj => ?_⟩
  rcases Nat.lt_or_ge j m with h1 | h1
  · exact h0 j h1
  · rw [show j = m by omega]; exact hh
theorem fil_break {l : List Rg} {z : Int} {p m : Nat} {b : List Int} (hO : OkL l) (h : b.length = 128 ∧ ∀ k, k < 128 → b.getD k 0 = valR (l.take (m + 1)) z ((128 * p + k : Nat) : Int)) (hm : m < l.length) (hh : ¬ (rgAt l m).hi < ((128 * (p + 1) : Nat) : Int)) : b = blkOf l z p := by
  refine blk_is h.1 (fun k hk => (h.2 k hk).trans (valR_end fun j h1 h2 => ?_))
  have h3 := hO.2 m j (by omega) h2
  omega
set_option maxHeartbeats 8000000 in
set_option maxRecDepth 100000 in
theorem p_filled {w : World} {A : Option Addr} {cc : Nat} {l : List Rg} (hC : Kd.C kR w A l.length l) (hO : OkL l) (hlen : l.length ≤ 4096) (p : Nat) (hp : p < 8704) (m0 : Nat) (hm0 : m0 ≤ l.length) (hbef : ∀ j, j < m0 → (rgAt l j).hi < ((128 * p : Nat) : Int)) (z : Int) :
    Calls Try.prog 81 #[.slice A l.length cc, .int .i64 (p : Int), .int .i64 (m0 : Int), .int .i64 z] w (FilR w l p z) := by
  unfold FilR
  have HC := Aside0.mk hC
  have HO := Aside0.mk hO
  have HLEN := Aside0.mk hlen
  have HP := Aside0.mk hp
  have HF0 := Aside0.mk (fil_begin (z := z) hm0 hbef)
  obtain ⟨lo, hlo⟩ : ∃ lo : Int, lo = ((128 * p : Nat) : Int) := ⟨_, rfl⟩
  have HLO := Aside0.mk hlo
  have hw0 : IntKind.i64.wrap ((p : Int) * 128) = lo := (i64_w _).trans (by unfold wrap64; omega)
  obtain ⟨up, hup⟩ : ∃ up : Int, wrap64 (lo + 128) = up := ⟨_, rfl⟩
  have HUP := Aside0.mk (show up = lo + 128 by rw [← hup]; unfold wrap64; omega)
  replace hup : IntKind.i64.wrap (lo + 128) = up := (i64_w _).trans hup
  obtain ⟨um, hum⟩ : ∃ um : Int, wrap64 (up - 1) = um := ⟨_, rfl⟩
  have HUM := Aside0.mk (show um = lo + 127 by have := HUP.out; rw [← hum]; unfold wrap64; omega)
  replace hum : IntKind.i64.wrap (up - 1) = um := (i64_w _).trans hum
  have hk39 := Try.underlying66
  clear hC hO hlen hp hm0 hbef hlo
  go_enter Try.func81, Try.ntmps81
  go_wp2_with (first | ((with_reducible refine gate_dst (N := 8) rfl ?_); refine wp_alloc_arr rfl 107 rfl (rep 0) zero_blk ?_; intro g8 hg w1 hb hB; have H8 := Aside0.mk hb; have HB1 := Aside0.mk hB; have HG8 := Aside0.mk (show w.heap.size ≤ g8 by omega); clear hg hb hB) | (go_at_call 98; (with_reducible refine (p_even z _).mono ?_); rintro e w2 ⟨rfl, hb⟩; have H82 := Aside0.mk (blk_below H8.out hb); have HB2 := Aside0.mk (below_step HB1.out hb); clear hb) | ((with_reducible refine gate_dst (N := 10) rfl ?_); refine wp_alloc_arr rfl 107 rfl (rep 0) zero_blk ?_; intro g10 hg w3 hb hB; have H10 := Aside0.mk hb; have hl8 := blk_lt H82.out; have H83 := Aside0.mk (blk_below H82.out hB); have HB3 := Aside0.mk (below_step HB2.out hB); have HG10 := Aside0.mk (show w.heap.size ≤ g10 ∧ g8 ≠ g10 by have := HB2.out.size; omega); clear hg hb hB hl8) | ((with_reducible refine gate_store (t := 107) (p := 10) rfl ?_); refine wp_store_arr rfl 107 _ _ rfl rfl g10 (rep z) rfl rfl 107 _ H10.out 128 size_blk rep_len rep_len ?_; intro w4 h5 hw5; have H104 := Aside0.mk h5; have H84 := Aside0.mk (hw5.blk H83.out HG10.out.2); have HB4 := Aside0.mk (hw5.below HB3.out HG10.out.1); clear h5 hw5))
  go_loopg [2] (l.length + 1) (fun kq v2 w' => ∃ (m : Nat) (b : List Int), v2 = .int .i64 (m : Int) ∧ Aside0 (Fil l z p m b ∧ l.length + 1 - m ≤ kq) ∧ Aside0 (w'.heap[g10]? = some (.cells (arr b) 107 (0, 0))) ∧ Aside0 (w'.heap[g8]? = some (.cells (arr (rep 0)) 107 (0, 0))) ∧ Aside0 (Below w.heap.size w w'))
  case atStart => exact ⟨m0, _, rfl, ⟨HF0.out, Nat.sub_le _ _⟩, H104, H84, HB4⟩
  case round =>
    clear H104 H84 HB4 HF0
    obtain ⟨m, b, rfl, HF, HX10, HX8, HB⟩ := hrel
    have hm := HF.out.1.1
    have HBL := Aside0.mk HF.out.1.2.1
    by_cases hlt : m < l.length
    · have b0 : decide ((m : Int) < (l.length : Int)) = true := decide_eq_true (by omega)
      have b1 : decide (m < l.length) = true := decide_eq_true hlt
      have q0 := eq_true (show (m : Int) < (l.length : Int) by omega)
      have q1 := eq_true hlt
      have q2 := eq_true (show (0 : Int) ≤ (m : Int) by omega)
      obtain ⟨ad, e, x0_, x1_, x2_⟩ := at_Rg (Kd.C_below HC.out HB.out) m hlt
      cases e
      obtain ⟨x0, hx0⟩ : ∃ x, (rgAt l m).lo = x := ⟨_, rfl⟩
      obtain ⟨x1, hx1⟩ : ∃ x, (rgAt l m).hi = x := ⟨_, rfl⟩
      obtain ⟨x2, hx2⟩ : ∃ x, (rgAt l m).va = x := ⟨_, rfl⟩
      rw [hx0] at x0_
      rw [hx1] at x1_
      rw [hx2] at x2_
      have HX := Aside0.mk (And.intro hx0 (And.intro hx1 hx2))
      have HLT := Aside0.mk hlt
      have HOM := HO.out.1 m hlt
      rw [hx0, hx1] at HOM
      have HOM := Aside0.mk HOM
      clear hx0 hx1 hx2
      by_cases hin : x0 < up
      · have b2 : decide (x0 < up) = true := decide_eq_true hin
        obtain ⟨mx, hmx⟩ : ∃ mx, (if x0 < lo then lo else x0) = mx := ⟨_, rfl⟩
        obtain ⟨mn, hmn⟩ : ∃ mn, (if um < x1 then um else x1) = mn := ⟨_, rfl⟩
        have HMX := Aside0.mk hmx
        have HMN := Aside0.mk hmn
        have HIN_ := Aside0.mk hin
        clear hlt hm hin
        go_wp2_with (first | ((with_reducible refine gate_dst (N := 12) rfl ?_); refine wp_alloc_cells rfl 66 rfl _ zero_rng ?_; intro g12 hg w5 hb hB; have H12 := Aside0.mk hb; have HL10 := blk_lt HX10.out; have H105 := Aside0.mk (blk_below HX10.out hB); have H85 := Aside0.mk (blk_below HX8.out hB); have HB5 := Aside0.mk (below_step HB.out hB); have HG12 := Aside0.mk (show w.heap.size ≤ g12 ∧ g10 ≠ g12 ∧ g8 ≠ g12 by have := HB.out.size; have := blk_lt HX8.out; omega); have c0 := (blk_cell H12.out 0).trans rfl; have c1 := (blk_cell H12.out 1).trans rfl; have c2 := (blk_cell H12.out 2).trans rfl; have f0 := blk_frozen H12.out 0; have f1 := blk_frozen H12.out 1; have f2 := blk_frozen H12.out 2; clear hg hb hB HL10))
        clear x0_ x1_ x2_ q0 q1 q2 b0 b1 b2
        go_loopg [13] (mn + 1 - mx).toNat (fun kq v13 w' => ∃ (c : Int) (b : List Int), v13 = .int .i64 c ∧ Aside0 (FilIn l z p m b mx mn c ∧ (mn + 1 - c).toNat ≤ kq) ∧ Aside0 (w'.heap[g10]? = some (.cells (arr b) 107 (0, 0))) ∧ Aside0 (w'.heap[g12]? = some (.cells #[.int .i64 x0, .int .i64 x1, .int .i64 x2] 66 (0, 0))) ∧ Aside0 (w'.heap[g8]? = some (.cells (arr (rep 0)) 107 (0, 0))) ∧ Aside0 (Below w.heap.size w w'))
        case atStart =>
          have hw5 := ((Wrote.set w5 g12 0 (.int .i64 x0)).trans (Wrote.set _ g12 1 (.int .i64 x1))).trans (Wrote.set _ g12 2 (.int .i64 x2))
          exact ⟨mx, b, rfl, ⟨filin_begin HF.out.1, Nat.le_refl _⟩, ⟨hw5.blk H105.out HG12.out.2.1⟩, ⟨(blk_set (blk_set (blk_set H12.out 0 _) 1 _) 2 _).trans rfl⟩, ⟨hw5.blk H85.out HG12.out.2.2⟩, ⟨hw5.below HB5.out HG12.out.1⟩⟩
        case round =>
          clear HX10 HX8 HB H12 H105 H85 HB5 HBL c0 c1 c2 f0 f1 f2
          have HFJ := Aside0.mk HF.out.1.2.2.2
          have HFK := Aside0.mk HF.out.2
          clear HF
          obtain ⟨c, b, rfl, HIN, HX10, HX12, HX8, HB⟩ := hrel
          have HBL := Aside0.mk HIN.out.1.1
          have k1 := (blk_cell HX12.out 1).trans rfl
          have k2 := (blk_cell HX12.out 2).trans rfl
          have hcl := HIN.out.1.2.1
          have hmxl : lo ≤ mx := by rw [← hmx]; split <;> omega
          have hmnu : mn ≤ um := by rw [← hmn]; split <;> omega
          by_cases hc : c ≤ mn
          · have d0 : decide (c ≤ mn) = true := decide_eq_true hc
            obtain ⟨k, hk⟩ : ∃ k : Nat, c - lo = (k : Int) := ⟨(c - lo).toNat, by omega⟩
            have hlv := HLO.out
            have hpv := HP.out
            have huv := HUM.out
            have hwk : IntKind.i64.wrap (c - lo) = (k : Int) := (i64_w _).trans (by rw [hk]; unfold wrap64; omega)
            have hk0 : k < 128 := by omega
            have HK0 := Aside0.mk hk0
            have hwc : IntKind.i64.wrap (c + 1) = c + 1 := (i64_w _).trans (by unfold wrap64; omega)
            have e0 := eq_true (show (0 : Int) ≤ (k : Int) by omega)
            have e1 := eq_true (show (k : Int) < 128 by omega)
            have HNX := Aside0.mk (filin_next HIN.out.1 hc (k0 := k) (by omega) hk0)
            rw [HX.out.2.2] at HNX
            have HMC := Aside0.mk (show (mn + 1 - (c + 1)).toNat < (mn + 1 - c).toNat by omega)
            clear hk hk0 hc hcl hmxl hmnu hlv hpv huv
            obtain ⟨b0_, hb0_⟩ : ∃ v, (arr b)[k]? = some v := ⟨_, arr_get b k (by rw [HBL.out]; exact HK0.out)⟩
            have c0 := (blk_cell HX10.out k).trans hb0_
            have f0 := blk_frozen HX10.out k
            clear hb0_
            go_wp2
            have hw7 := Wrote.set wr g10 k (.int .i64 x2)
            go_roundg (mn + 1 - (c + 1)).toNat
            case measure => have h1_ := HIN.out.2; have h2_ := HMC.out; omega
            case rel => exact ⟨c + 1, _, by first | rfl | rw [hwc], ⟨HNX.out, Nat.le_refl _⟩, ⟨(blk_set HX10.out k _).trans (by rw [arr_set])⟩, ⟨hw7.blk HX12.out (Ne.symm HG12.out.2.1)⟩, ⟨hw7.blk HX8.out HG10.out.2⟩, ⟨hw7.below HB.out HG10.out.1⟩⟩
          · have d0 : decide (c ≤ mn) = false := decide_eq_false hc
            have HFE := Aside0.mk (filin_end HIN.out.1 HLT.out hc (by rw [HX.out.1, ← HLO.out]; exact hmx.symm) (by rw [HX.out.2.1, show ((128 * p + 127 : Nat) : Int) = um by have := HLO.out; have := HUM.out; omega]; exact hmn.symm))
            clear hc hcl hmxl hmnu
            by_cases hbr : up ≤ x1
            · have d1 : decide (x1 ≥ up) = true := decide_eq_true hbr
              have d2 : decide (up ≤ x1) = true := decide_eq_true hbr
              have HE := Aside0.mk (fil_break HO.out HFE.out HLT.out (by rw [HX.out.2.1]; have := HLO.out; have := HUP.out; omega))
              have HM := Aside0.mk (And.intro (Nat.le_of_lt HLT.out) HFJ.out)
              clear hbr
              go_wp2_with (first | ((with_reducible refine gate_dst (N := 63) rfl ?_); refine wp_load_arr rfl 107 _ rfl g10 rfl 107 b HX10.out 128 3 Try.underlying107 size_blk HBL.out ?_) | ((with_reducible refine gate_store (t := 107) (p := 8) rfl ?_); refine wp_store_arr rfl 107 _ _ rfl rfl g8 b rfl rfl 107 _ HX8.out 128 size_blk HBL.out rep_len ?_; intro w9 h5 hw5; have HX9 := Aside0.mk h5; have HB9 := Aside0.mk (hw5.below HB.out HG8.out); clear h5 hw5))
              (try simp only [Exit.inBlock, Exit.then])
              refine bodyPost_ret (results_list (rs := [.cell 8 107, .tmp 9]) rfl (by simp) (.cell g8 107 (arr b) (0, 0) _ rfl HX9.out Try.underlying107 rfl (by rw [size_blk, arr_size, HBL.out]) (.tmp .nil))) rfl ?_
              exact ⟨m, by rw [HE.out]; rfl, HM.out.1, HM.out.2, HB9.out⟩
            · have d1 : decide (x1 ≥ up) = false := decide_eq_false hbr
              have d2 : decide (up ≤ x1) = false := decide_eq_false hbr
              have HFN := Aside0.mk (fil_next HFJ.out HFE.out HLT.out (by rw [HX.out.2.1]; have := HLO.out; have := HUP.out; omega))
              have hwm := (show wrap64 ((m : Int) + 1) = ((m + 1 : Nat) : Int) by have := HLT.out; have := HLEN.out; unfold wrap64; omega)
              clear hbr
              go_wp2
              go_roundg (l.length + 1 - (m + 1))
              case measure => have h1_ := HFK.out; have h2_ := HLT.out; omega
              case rel => exact ⟨m + 1, b, by first | rfl | go_num | rw [hwm], ⟨HFN.out, Nat.le_refl _⟩, HX10, HX8, HB⟩
      · have b2 : decide (x0 < up) = false := decide_eq_false hin
        have HE := Aside0.mk (fil_end HO.out HF.out.1 (fun _ => by rw [HX.out.1]; have := HLO.out; have := HUP.out; omega))
        have HM := Aside0.mk (And.intro hm HF.out.1.2.2.2)
        clear hlt hm hin
        go_wp2_with (first | ((with_reducible refine gate_dst (N := 63) rfl ?_); refine wp_load_arr rfl 107 _ rfl g10 rfl 107 b HX10.out 128 3 Try.underlying107 size_blk HBL.out ?_) | ((with_reducible refine gate_store (t := 107) (p := 8) rfl ?_); refine wp_store_arr rfl 107 _ _ rfl rfl g8 b rfl rfl 107 _ HX8.out 128 size_blk HBL.out rep_len ?_; intro w9 h5 hw5; have HX9 := Aside0.mk h5; have HB9 := Aside0.mk (hw5.below HB.out HG8.out); clear h5 hw5))
        (try simp only [Exit.inBlock, Exit.then])
        refine bodyPost_ret (results_list (rs := [.cell 8 107, .tmp 9]) rfl (by simp) (.cell g8 107 (arr b) (0, 0) _ rfl HX9.out Try.underlying107 rfl (by rw [size_blk, arr_size, HBL.out]) (.tmp .nil))) rfl ?_
        exact ⟨m, by rw [HE.out]; rfl, HM.out.1, HM.out.2, HB9.out⟩
    · have b0 : decide ((m : Int) < (l.length : Int)) = false := decide_eq_false (by omega)
      have b1 : decide (m < l.length) = false := decide_eq_false hlt
      have HE := Aside0.mk (fil_end HO.out HF.out.1 (fun h => absurd h hlt))
      have HM := Aside0.mk (And.intro hm HF.out.1.2.2.2)
      clear hlt hm
      go_wp2_with (first | ((with_reducible refine gate_dst (N := 63) rfl ?_); refine wp_load_arr rfl 107 _ rfl g10 rfl 107 b HX10.out 128 3 Try.underlying107 size_blk HBL.out ?_) | ((with_reducible refine gate_store (t := 107) (p := 8) rfl ?_); refine wp_store_arr rfl 107 _ _ rfl rfl g8 b rfl rfl 107 _ HX8.out 128 size_blk HBL.out rep_len ?_; intro w9 h5 hw5; have HX9 := Aside0.mk h5; have HB9 := Aside0.mk (hw5.below HB.out HG8.out); clear h5 hw5))
      (try simp only [Exit.inBlock, Exit.then])
      refine bodyPost_ret (results_list (rs := [.cell 8 107, .tmp 9]) rfl (by simp) (.cell g8 107 (arr b) (0, 0) _ rfl HX9.out Try.underlying107 rfl (by rw [size_blk, arr_size, HBL.out]) (.tmp .nil))) rfl ?_
      exact ⟨m, by rw [HE.out]; rfl, HM.out.1, HM.out.2, HB9.out⟩
def chkL : List Rg → Int → Int
  | [], _ => 0
  | r :: l, last => if r.lo ≤ last ∨ r.hi < r.lo ∨ 1114111 < r.hi then 10 else chkL l r.hi
/-- What may answers. -/
def chk (l : List Rg) : Int := if 4096 < l.length then 6 else chkL l (-1)
theorem chk_step {l : List Rg} {i : Nat} (h : i < l.length) (last : Int) : chkL (l.drop i) last = if (rgAt l i).lo ≤ last ∨ (rgAt l i).hi < (rgAt l i).lo ∨ 1114111 < (rgAt l i).hi then 10 else chkL (l.drop (i + 1)) (rgAt l i).hi := by
  rw [List.drop_eq_getElem_cons h]
  have e : rgAt l i = l[i] := by simp [rgAt, List.getD, h]
  rw [e]
  rfl
theorem chk_end {l : List Rg} {i : Nat} (h : ¬ i < l.length) (last : Int) : chkL (l.drop i) last = 0 := by
  rw [List.drop_eq_nil_of_le (by omega)]
  rfl
theorem chkL_ok : ∀ {l : List Rg} {last : Int}, chkL l last = 0 → (∀ i, i < l.length → last < (rgAt l i).lo ∧ (rgAt l i).lo ≤ (rgAt l i).hi ∧ (rgAt l i).hi ≤ 1114111) ∧ ∀ i j, i < j → j < l.length → (rgAt l i).hi < (rgAt l j).lo
  | [], _, _ => ⟨fun i hi => absurd hi (by simp), fun i j _ hj => absurd hj (by simp)⟩
  | r :: l, last, h => by
    unfold chkL at h
    split at h
    · exact absurd h (by decide)
    · rename_i hn
      obtain ⟨h1, h2⟩ := chkL_ok h
      refine ⟨fun i hi => ?_, fun i j hij hj => ?_⟩
      · cases i with
        | zero => show last < r.lo ∧ r.lo ≤ r.hi ∧ r.hi ≤ 1114111; omega
        | succ i =>
          have h3 := h1 i (by simpa using hi)
          show last < (rgAt l i).lo ∧ (rgAt l i).lo ≤ (rgAt l i).hi ∧ (rgAt l i).hi ≤ 1114111
          omega
      · cases j with
        | zero => omega
        | succ j =>
          have h3 := h1 j (by simpa using hj)
          cases i with
          | zero => exact h3.1
          | succ i => exact h2 i j (by omega) (by simpa using hj)
theorem chk_ok {l : List Rg} (h : chk l = 0) : l.length ≤ 4096 ∧ OkL l := by
  unfold chk at h
  split at h
  · exact absurd h (by decide)
  · obtain ⟨h1, h2⟩ := chkL_ok h
    exact ⟨by omega, fun i hi => by have := h1 i hi; omega, h2⟩
theorem chkL_is : ∀ (l : List Rg) (last : Int), chkL l last = 0 ∨ chkL l last = 10
  | [], _ => .inl rfl
  | r :: l, last => by unfold chkL; split; exact .inr rfl; exact chkL_is l _
theorem chk_is (l : List Rg) : chk l = 0 ∨ chk l = 6 ∨ chk l = 10 := by
  unfold chk; split
  · exact .inr (.inl rfl)
  · rcases chkL_is l (-1) with h | h
    · exact .inl h
    · exact .inr (.inr h)
set_option maxHeartbeats 8000000 in
set_option maxRecDepth 100000 in
theorem p_may {w : World} {A : Option Addr} {cc : Nat} {l : List Rg} (hC : Kd.C kR w A l.length l) :
    Calls Try.prog 80 #[.slice A l.length cc] w (fun e w' => e = .returned (.int .i64 (chk l)) ∧ Below w.heap.size w w') := by
  have HC := Aside0.mk hC
  have hk39 := Try.underlying66
  by_cases hl : 4096 < l.length
  · have e1 : chk l = 6 := by unfold chk; rw [if_pos hl]
    have b0 : decide ((l.length : Int) > 4096) = true := decide_eq_true (by omega)
    have b1 : decide (4096 < l.length) = true := decide_eq_true (by omega)
    have b2 : decide ((4096 : Int) < (l.length : Int)) = true := decide_eq_true (by omega)
    rw [e1]
    clear hC hl e1
    go_enter Try.func80, Try.ntmps80
    go_wp2
    go_ret
    exact ⟨by first | rfl | (simp; done), by first | exact Below.refl _ _ | exact (Below.refl _ _).drew⟩
  · have e1 : chk l = chkL l (-1) := by unfold chk; rw [if_neg hl]
    have b0 : decide ((l.length : Int) > 4096) = false := decide_eq_false (by omega)
    have b1 : decide (4096 < l.length) = false := decide_eq_false (by omega)
    have b2 : decide ((4096 : Int) < (l.length : Int)) = false := decide_eq_false (by omega)
    have HL := Aside0.mk (show l.length ≤ 4096 by omega)
    rw [e1]
    clear hC hl e1
    go_enter Try.func80, Try.ntmps80
    go_wp2
    go_loopg [3, 11] (l.length + 1) (fun kq v3 v11 w' => ∃ (i : Nat) (last : Int), v3 = .int .i64 last ∧ v11 = .int .i64 (i : Int) ∧ Aside0 (l.length + 1 - i ≤ kq ∧ chkL (l.drop i) last = chkL l (-1)) ∧ Aside0 (Below w.heap.size w w'))
    case atStart => exact ⟨0, -1, rfl, rfl, ⟨Nat.sub_le _ _, rfl⟩, ⟨by first | exact Below.refl _ _ | exact (Below.refl _ _).drew⟩⟩
    case round =>
      obtain ⟨i, last, rfl, rfl, HI, HB⟩ := hrel
      by_cases hlt : i < l.length
      · have q0 := decide_eq_true (show (i : Int) < (l.length : Int) by omega)
        have q1 := decide_eq_true hlt
        have r0 := eq_true (show (i : Int) < (l.length : Int) by omega)
        have r1 := eq_true hlt
        have r2 := eq_true (show (0 : Int) ≤ (i : Int) by omega)
        obtain ⟨ad, e, x0_, x1_, x2_⟩ := at_Rg (Kd.C_below HC.out HB.out) i hlt
        cases e
        have HST := Aside0.mk (chk_step hlt last)
        obtain ⟨x0, hx0⟩ : ∃ x, (rgAt l i).lo = x := ⟨_, rfl⟩
        obtain ⟨x1, hx1⟩ : ∃ x, (rgAt l i).hi = x := ⟨_, rfl⟩
        obtain ⟨x2, hx2⟩ : ∃ x, (rgAt l i).va = x := ⟨_, rfl⟩
        rw [hx0] at x0_
        rw [hx1] at x1_
        rw [hx2] at x2_
        have HX := Aside0.mk (And.intro hx0 (And.intro hx1 hx2))
        have HLT := Aside0.mk hlt
        have hwi : IntKind.i64.wrap ((i : Int) + 1) = ((i + 1 : Nat) : Int) := (i64_w _).trans (by have := HL.out; unfold wrap64; omega)
        clear hx0 hx1 hx2
        by_cases h1 : x0 ≤ last
        · have d1 : decide (x0 ≤ last) = true := decide_eq_true h1
          have HR := Aside0.mk (HI.out.2.symm.trans (HST.out.trans (if_pos (.inl (by rw [HX.out.1]; exact h1)))))
          clear h1 hlt
          go_wp2_with (first | ((with_reducible refine gate_dst (N := 5) rfl ?_); refine wp_alloc_cells rfl 66 rfl _ zero_rng ?_; intro g5 hg w5 hb hB; have H5 := Aside0.mk hb; have HB5 := Aside0.mk (below_step HB.out hB); have HG5 := Aside0.mk (show w.heap.size ≤ g5 by have := HB.out.size; omega); have c0 := (blk_cell H5.out 0).trans rfl; have c1 := (blk_cell H5.out 1).trans rfl; have c2 := (blk_cell H5.out 2).trans rfl; have f0 := blk_frozen H5.out 0; have f1 := blk_frozen H5.out 1; have f2 := blk_frozen H5.out 2; clear hg hb hB))
          go_ret
          exact ⟨by rw [HR.out]; first | rfl | (simp; done), ((((Wrote.set w5 g5 0 (.int .i64 x0)).trans (Wrote.set _ g5 1 (.int .i64 x1))).trans (Wrote.set _ g5 2 (.int .i64 x2))).below HB5.out HG5.out)⟩
        · by_cases h2 : x1 < x0
          · have d1 : decide (x0 ≤ last) = false := decide_eq_false h1
            have d2 : decide (x1 < x0) = true := decide_eq_true h2
            have HR := Aside0.mk (HI.out.2.symm.trans (HST.out.trans (if_pos (.inr (.inl (by rw [HX.out.1, HX.out.2.1]; exact h2))))))
            clear h1 h2 hlt
            go_wp2_with (first | ((with_reducible refine gate_dst (N := 5) rfl ?_); refine wp_alloc_cells rfl 66 rfl _ zero_rng ?_; intro g5 hg w5 hb hB; have H5 := Aside0.mk hb; have HB5 := Aside0.mk (below_step HB.out hB); have HG5 := Aside0.mk (show w.heap.size ≤ g5 by have := HB.out.size; omega); have c0 := (blk_cell H5.out 0).trans rfl; have c1 := (blk_cell H5.out 1).trans rfl; have c2 := (blk_cell H5.out 2).trans rfl; have f0 := blk_frozen H5.out 0; have f1 := blk_frozen H5.out 1; have f2 := blk_frozen H5.out 2; clear hg hb hB))
            go_ret
            exact ⟨by rw [HR.out]; first | rfl | (simp; done), ((((Wrote.set w5 g5 0 (.int .i64 x0)).trans (Wrote.set _ g5 1 (.int .i64 x1))).trans (Wrote.set _ g5 2 (.int .i64 x2))).below HB5.out HG5.out)⟩
          · by_cases h3 : 1114111 < x1
            · have d1 : decide (x0 ≤ last) = false := decide_eq_false h1
              have d2 : decide (x1 < x0) = false := decide_eq_false h2
              have d3 : decide (x1 > 1114111) = true := decide_eq_true h3
              have d4 : decide (1114111 < x1) = true := decide_eq_true h3
              have HR := Aside0.mk (HI.out.2.symm.trans (HST.out.trans (if_pos (.inr (.inr (by rw [HX.out.2.1]; exact h3))))))
              clear h1 h2 h3 hlt
              go_wp2_with (first | ((with_reducible refine gate_dst (N := 5) rfl ?_); refine wp_alloc_cells rfl 66 rfl _ zero_rng ?_; intro g5 hg w5 hb hB; have H5 := Aside0.mk hb; have HB5 := Aside0.mk (below_step HB.out hB); have HG5 := Aside0.mk (show w.heap.size ≤ g5 by have := HB.out.size; omega); have c0 := (blk_cell H5.out 0).trans rfl; have c1 := (blk_cell H5.out 1).trans rfl; have c2 := (blk_cell H5.out 2).trans rfl; have f0 := blk_frozen H5.out 0; have f1 := blk_frozen H5.out 1; have f2 := blk_frozen H5.out 2; clear hg hb hB))
              go_ret
              exact ⟨by rw [HR.out]; first | rfl | (simp; done), ((((Wrote.set w5 g5 0 (.int .i64 x0)).trans (Wrote.set _ g5 1 (.int .i64 x1))).trans (Wrote.set _ g5 2 (.int .i64 x2))).below HB5.out HG5.out)⟩
            · have d1 : decide (x0 ≤ last) = false := decide_eq_false h1
              have d2 : decide (x1 < x0) = false := decide_eq_false h2
              have d3 : decide (x1 > 1114111) = false := decide_eq_false h3
              have d4 : decide (1114111 < x1) = false := decide_eq_false h3
              have HR := Aside0.mk ((HST.out.trans (if_neg (by rw [HX.out.1, HX.out.2.1]; omega))).symm.trans HI.out.2)
              rw [HX.out.2.1] at HR
              clear h1 h2 h3 hlt
              go_wp2_with (first | ((with_reducible refine gate_dst (N := 5) rfl ?_); refine wp_alloc_cells rfl 66 rfl _ zero_rng ?_; intro g5 hg w5 hb hB; have H5 := Aside0.mk hb; have HB5 := Aside0.mk (below_step HB.out hB); have HG5 := Aside0.mk (show w.heap.size ≤ g5 by have := HB.out.size; omega); have c0 := (blk_cell H5.out 0).trans rfl; have c1 := (blk_cell H5.out 1).trans rfl; have c2 := (blk_cell H5.out 2).trans rfl; have f0 := blk_frozen H5.out 0; have f1 := blk_frozen H5.out 1; have f2 := blk_frozen H5.out 2; clear hg hb hB))
              go_roundg (l.length + 1 - (i + 1))
              case measure => have h1_ := HI.out.1; have h2_ := HLT.out; omega
              case rel => exact ⟨i + 1, x1, rfl, by first | rfl | go_num | rw [hwi], ⟨Nat.le_refl _, HR.out⟩, ⟨((((Wrote.set w5 g5 0 (.int .i64 x0)).trans (Wrote.set _ g5 1 (.int .i64 x1))).trans (Wrote.set _ g5 2 (.int .i64 x2))).below HB5.out HG5.out)⟩⟩
      · have q0 := decide_eq_false (show ¬ (i : Int) < (l.length : Int) by omega)
        have q1 := decide_eq_false hlt
        have HR := Aside0.mk (HI.out.2.symm.trans (chk_end hlt last))
        clear hlt
        go_wp2
        go_ret
        exact ⟨by rw [HR.out]; first | rfl | (simp; done), HB.out⟩
end Go.Proofs.Ytmkgihmchkphaaa.Stk
