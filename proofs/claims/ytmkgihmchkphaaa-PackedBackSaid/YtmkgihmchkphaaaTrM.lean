/- Words of ours: what a call on an object keeps. -/
import Derived.Test.YtmkgihmchkphaaaTrP3
namespace Go.Proofs.Ytmkgihmchkphaaa.Stk
open Go.RowKit Go.Proofs.YtmkgihmchkphaaaW.PrintWords Go.Proofs.YtmkgihmchkphaaaW.PrintLast Go.Proofs.YtmkgihmchkphaaaW.PrintMore
attribute [local go_sem] max2_int min2_int max_two min_two max_three min_three max_four min_four   -- for this text's walks alone
set_option linter.unusedVariables false
set_option linter.unusedSimpArgs false
section
variable {w w0 w1 w2 : World} {g : Nat} {v v1 v2 u : Value}
/-- What a call on the object at g (its row v before, v' behind it) has turned: that block, that row, and what is new. -/
def Mv (w w' : World) (g : Nat) (v v' : Value) : Prop :=
  KeepBut w w' g v.ownBlock ∧ (∀ k, v'.ownBlock = some k → v.ownBlock = some k ∨ w.heap.size ≤ k) ∧ w'.os = w.os ∧ w'.tape = w.tape ∧ w'.output = w.output
theorem Mv.refl (w : World) (g : Nat) (v : Value) : Mv w w g v v := ⟨KeepBut.refl _ _ _, fun _ h => .inl h, rfl, rfl, rfl⟩
theorem Mv.of_below (h : Below w.heap.size w w1) (g : Nat) (v : Value) : Mv w w1 g v v := ⟨KeepBut.of_below h _ _, fun _ h => .inl h, h.os, h.tape, h.output⟩
theorem Mv.trans (h : Mv w w1 g v v1) (k : Mv w1 w2 g v1 v2) : Mv w w2 g v v2 := by
  refine ⟨⟨Nat.le_trans h.1.1 k.1.1, fun i hi hg hn => ?_⟩, fun i hi => ?_, k.2.2.1.trans h.2.2.1, k.2.2.2.1.trans h.2.2.2.1, k.2.2.2.2.trans h.2.2.2.2⟩
  · refine (k.1.2 i (Nat.lt_of_lt_of_le hi h.1.1) hg (fun e => ?_)).trans (h.1.2 i hi hg hn)
    rcases h.2.1 i e.symm with h1 | h1
    · exact hn h1.symm
    · omega
  · rcases k.2.1 i hi with h1 | h1
    · exact h.2.1 i h1
    · exact .inr (Nat.le_trans h.1.1 h1)
theorem Mv.below_ (h : Mv w w1 g v v1) (k : Below w1.heap.size w1 w2) : Mv w w2 g v v1 := h.trans (Mv.of_below k g v1)
theorem Mv.set (h : Mv w w1 g v v1) (i : Nat) (u : Value) : Mv w (w1.setCell ⟨g, i, none⟩ u) g v v1 := ⟨h.1.set_ i u, h.2.1, h.2.2.1, h.2.2.2.1, h.2.2.2.2⟩
theorem Mv.far (h : Mv w w1 g v v1) {p : Addr} (hp : w.heap.size ≤ p.block) (u : Value) : Mv w (w1.setCell p u) g v v1 := ⟨keep_far h.1 hp u, h.2.1, h.2.2.1, h.2.2.2.1, h.2.2.2.2⟩
theorem Mv.as (h : Mv w w1 g v v1) (e : v2.ownBlock = v1.ownBlock) : Mv w w1 g v v2 := ⟨h.1, by rw [e]; exact h.2.1, h.2.2⟩
theorem Mv.grown (h : Mv w w1 g v v1) (k : w1.grownBy w2 v1.ownBlock) (e : v2.ownBlock = v1.ownBlock ∨ ∃ b, v2.ownBlock = some b ∧ w1.heap.size ≤ b) : Mv w w2 g v v2 :=
  h.trans ⟨KeepBut.of_grown k g, fun i hi => by
    rcases e with e | ⟨b, e, hb⟩
    · exact .inl (e.symm.trans hi)
    · rw [e] at hi; injection hi with hi; exact .inr (hi ▸ hb), k.os, k.tape, k.output⟩
/-- A row of its own has been made, and is the object's now. -/
theorem Mv.fresh (h : Mv w w1 g v v1) (k : w1.grownBy w2 u.ownBlock) (hu : ∀ k, u.ownBlock = some k → w.heap.size ≤ k) (e : v2.ownBlock = u.ownBlock ∨ ∃ b, v2.ownBlock = some b ∧ w1.heap.size ≤ b) : Mv w w2 g v v2 := by
  refine ⟨⟨Nat.le_trans h.1.1 k.size, fun i hi hg hn => (k.block i (Nat.lt_of_lt_of_le hi h.1.1) (fun e2 => by have := hu i e2.symm; omega)).trans (h.1.2 i hi hg hn)⟩, fun i hi => .inr ?_, k.os.trans h.2.2.1, k.tape.trans h.2.2.2.1, k.output.trans h.2.2.2.2⟩
  rcases e with e | ⟨b, e, hb⟩
  · exact hu i (e.symm.trans hi)
  · rw [e] at hi; injection hi with hi; have := h.1.1; omega
/-- A row of its own has been made beside. -/
theorem Mv.beside (h : Mv w w1 g v v1) (k : w1.grownBy w2 u.ownBlock) (hu : ∀ k, u.ownBlock = some k → w.heap.size ≤ k) : Mv w w2 g v v1 :=
  ⟨⟨Nat.le_trans h.1.1 k.size, fun i hi hg hn => (k.block i (Nat.lt_of_lt_of_le hi h.1.1) (fun e2 => by have := hu i e2.symm; omega)).trans (h.1.2 i hi hg hn)⟩, h.2.1, k.os.trans h.2.2.1, k.tape.trans h.2.2.2.1, k.output.trans h.2.2.2.2⟩
theorem Mv.below_base {base : Nat} (m : Mv w w1 g v v1) (hb : base ≤ w.heap.size) (hg : base ≤ g) (hv : ∀ k, v.ownBlock = some k → base ≤ k) : Below base w w1 :=
  ⟨m.2.2.1, m.2.2.2.1, m.2.2.2.2, m.1.1, fun k hk => m.1.2 k (by omega) (by omega) (fun e => by have := hv k e.symm; omega)⟩
theorem Mv.keeps (m : Mv w w1 g v v1) {b : Nat} {o : Obj} (hb : w.heap[b]? = some o) (hg : b ≠ g) (hv : some b ≠ v.ownBlock) : w1.heap[b]? = some o := (m.1.2 b (blk_lt hb) hg hv).trans hb
end
section
variable {P : Program} {w : World} {ops : Array Oper} {rest : List Oper} {o : Oper} {a : Act} {Q : Exit → Act → World → Prop}
/-- A new struct. -/
theorem wp_alloc_cells (hg : o.guard = none) (t : TypeId) (hop : o.op = .alloc t) (z : Array Value) (hz : (P.info? t).map (·.zero) = some (some (.agg z)))
    (h : ∀ g, g = w.heap.size → ∀ w1, w1.heap[g]? = some (.cells z t (0, 0)) → Below w.heap.size w w1 → wpList P ops Q rest (a.put o.dst (.pointer (some ⟨g, 0, none⟩))) w1) : wpList P ops Q (o :: rest) a w := by
  refine Kd.event_run hg (w1 := w.alloc (.cells z t (0, 0))) (v := .pointer (some ⟨w.heap.size, 0, none⟩)) ?_ (h _ rfl _ (blk_new w _) (below_alloc (Below.refl _ _) _))
  have hzv : (zeroValue t).run P w = .ok (.agg z) w := by
    cases hq : P.info? t with
    | none => simp [hq] at hz
    | some i => simp [hq] at hz; simp [zeroValue, typeInfo, hq, hz]
  unfold execOp
  simp only [hop, Instr.alloc, Sem.run_bind, hzv, Result.andThen_ok]
  rfl
/-- A struct is written into its block. -/
theorem wp_store_cells (hg : o.guard = none) (t : TypeId) (x y : Operand) (hop : o.op = .store t x y) (hN : o.dst = none) (g : Nat) (cells : Array Value) (hx : a.eval x = .pointer (some ⟨g, 0, none⟩)) (hy : a.eval y = .agg cells) (t' : TypeId) (old : Array Value)
    (hb : w.heap[g]? = some (.cells old t' (0, 0))) (hi : (P.info? t).map (·.size) = some cells.size) (ho : old.size = cells.size) (h1 : cells.all (·.oneCell') = true)
    (h : ∀ w1, w1.heap[g]? = some (.cells cells t' (0, 0)) → Wrote w w1 g → wpList P ops Q rest a w1) : wpList P ops Q (o :: rest) a w := by
  refine wpList_plain hg fun K hK => wp_store_row t x y hop g cells hx hy t' old hb hi ho h1 ?_
  rw [hN]
  exact hK _ _ (h _ (setRow_heap w g _ _ _ _ hb) (Wrote.row _ _ _))
/-- A cell of a block is written. -/
theorem wp_put_cell (hg : o.guard = none) (t : TypeId) (x y : Operand) (hop : o.op = .store t x y) (hN : o.dst = none) (g i : Nat) (v : Value) (hv : v.oneCell' = true) (hvc : v.cells.toList = [v]) (hx : a.eval x = .pointer (some ⟨g, i, none⟩)) (hy : a.eval y = v) (t' : TypeId) (old : Array Value)
    (hb : w.heap[g]? = some (.cells old t' (0, 0))) (hi : (P.info? t).map (·.size) = some 1) (hl : i < old.size)
    (h : ∀ w1, w1.heap[g]? = some (.cells (old.setIfInBounds i v) t' (0, 0)) → Wrote w w1 g → wpList P ops Q rest a w1) : wpList P ops Q (o :: rest) a w := by
  have hc : w.cell? ⟨g, i, none⟩ = some old[i] := (blk_cell hb i).trans (by simp [hl])
  have hf := blk_frozen hb i
  have hrun : (storeVar t ⟨g, i, none⟩ v).run P w = .ok () (w.setCell ⟨g, i, none⟩ v) := by
    cases hq : P.info? t with
    | none => simp [hq] at hi
    | some inf =>
      have hs : inf.size = 1 := by simpa [hq] using hi
      have hz : (sizeOf t).run P w = .ok 1 w := by simp [sizeOf, typeInfo, hq, hs]
      have e0 : (⟨g, i, none⟩ : Addr).add 0 = ⟨g, i, none⟩ := Addr.add_mid g i 0
      have hsz : v.cells.size = 1 := by rw [← Array.length_toList, hvc]; rfl
      simp only [storeVar, Sem.run_bind, hz, Result.andThen_ok]
      simp [hsz, hvc, storeCells, e0, run_store P w _ v _ hv, hc, hf, Result.andThen]
  refine wpList_plain hg fun K hK => ?_
  unfold Oper.wp execOp
  simp only [hop, hx, hy, Instr.storeAt, Instr.sureAddr, Sem.run_bind, Sem.run_pure, Result.andThen_ok, hrun]
  show K (a.put o.dst undef) _
  rw [hN]
  exact hK _ _ (h _ (blk_set hb i _) (Wrote.set _ _ _ _))
end
/-- A range. -/
structure Rg where
  lo : Int
  hi : Int
  va : Int
def zR : Rg := ⟨0, 0, 0⟩
def kR : Kd Rg := Kd.iso (Kd.pair (Kd.int .i64) (Kd.pair (Kd.int .i64) (Kd.int .i64))) (fun x : Rg => (x.lo, x.hi, x.va))
theorem kR_open {w : World} {x : Rg} {cs : List Value} (h : kR.K w x cs) : cs = [.int .i64 x.lo, .int .i64 x.hi, .int .i64 x.va] := by
  obtain ⟨_, _, rfl, rfl, ⟨_, _, rfl, rfl, rfl⟩⟩ := h
  exact rfl
theorem kR_mk (w : World) (x : Rg) : kR.K w x [.int .i64 x.lo, .int .i64 x.hi, .int .i64 x.va] := ⟨[.int .i64 x.lo], [.int .i64 x.hi, .int .i64 x.va], rfl, rfl, ⟨[.int .i64 x.hi], [.int .i64 x.va], rfl, rfl, rfl⟩⟩
theorem kR_mkM (w : World) (base : Nat) (ok : Nat → Prop) (x : Rg) : kR.M w base ok x [.int .i64 x.lo, .int .i64 x.hi, .int .i64 x.va] := ⟨[.int .i64 x.lo], [.int .i64 x.hi, .int .i64 x.va], rfl, rfl, ⟨[.int .i64 x.hi], [.int .i64 x.va], rfl, rfl, rfl⟩⟩
def rgAt (l : List Rg) (i : Nat) : Rg := l.getD i zR
theorem at_Rg {w : World} {A : Option Addr} {n : Nat} {xs : List Rg} (h : Kd.C kR w A n xs) (i : Nat) (h1 : i < n) : ∃ ad, A = some ad ∧ w.cell? (ad.add (i * 3)) = some (.int .i64 (rgAt xs i).lo) ∧ w.cell? ⟨(ad.add (i * 3)).block, (ad.add (i * 3)).off + 1, none⟩ = some (.int .i64 (rgAt xs i).hi) ∧ w.cell? ⟨(ad.add (i * 3)).block, (ad.add (i * 3)).off + 2, none⟩ = some (.int .i64 (rgAt xs i).va) := by
  obtain ⟨ad, c, e, _, hK, hc0⟩ := Kd.C_get h zR (i : Int) (by omega) (by omega)
  rw [Int.toNat_natCast] at hK hc0
  have hc : ∀ j u, c[j]? = some u → w.cell? (ad.add (i * 3 + j)) = some u := hc0
  obtain rfl := kR_open hK
  exact ⟨ad, e, hc 0 _ rfl, by rw [← add_field _ _ 1 (by omega)]; exact hc 1 _ rfl, by rw [← add_field _ _ 2 (by omega)]; exact hc 2 _ rfl⟩
/-- What ranges have at a code: the last one that has it. -/
def valR (l : List Rg) (z c : Int) : Int := l.foldl (fun v r => if r.lo ≤ c ∧ c ≤ r.hi then r.va else v) z
theorem valR_snoc (l : List Rg) (r : Rg) (z c : Int) : valR (l ++ [r]) z c = if r.lo ≤ c ∧ c ≤ r.hi then r.va else valR l z c := by simp [valR, List.foldl_append]
theorem valR_take {l : List Rg} {m : Nat} (hm : m < l.length) (z c : Int) : valR (l.take (m + 1)) z c = if (rgAt l m).lo ≤ c ∧ c ≤ (rgAt l m).hi then (rgAt l m).va else valR (l.take m) z c := by
  rw [← valR_snoc]
  congr 1
  rw [List.take_add_one]
  simp [rgAt, List.getD, hm]
theorem valR_none {l : List Rg} {z c : Int} (h : ∀ r, r ∈ l → ¬ (r.lo ≤ c ∧ c ≤ r.hi)) : valR l z c = z := by
  unfold valR
  induction l generalizing z with
  | nil => rfl
  | cons r l ih => rw [List.foldl_cons, if_neg (h r (by simp))]; exact ih (fun q hq => h q (by simp [hq]))
theorem valR_app (a b : List Rg) (z c : Int) (h : ∀ r, r ∈ b → ¬ (r.lo ≤ c ∧ c ≤ r.hi)) : valR (a ++ b) z c = valR a z c := by
  unfold valR
  rw [List.foldl_append]
  exact valR_none h
theorem valR_end {l : List Rg} {m : Nat} {z c : Int} (h : ∀ j, m ≤ j → j < l.length → c < (rgAt l j).lo) : valR (l.take m) z c = valR l z c := by
  conv => rhs; rw [← List.take_append_drop m l]
  refine (valR_app _ _ _ _ (fun r hr => ?_)).symm
  obtain ⟨j, hj, e⟩ := List.mem_iff_getElem.1 hr
  rw [List.length_drop] at hj
  have := h (m + j) (by omega) (by omega)
  have e2 : rgAt l (m + j) = r := by rw [← e]; simp [rgAt, List.getD, show m + j < l.length by omega]
  rw [e2] at this
  omega
/-- Ranges that may be. -/
def OkL (l : List Rg) : Prop := (∀ i, i < l.length → 0 ≤ (rgAt l i).lo ∧ (rgAt l i).lo ≤ (rgAt l i).hi ∧ (rgAt l i).hi ≤ 1114111) ∧ ∀ i j, i < j → j < l.length → (rgAt l i).hi < (rgAt l j).lo
/-- The numbers of a part. -/
def blkOf (l : List Rg) (z : Int) (p : Nat) : List Int := (List.range 128).map fun k => valR l z ((128 * p + k : Nat) : Int)
theorem blkOf_len (l : List Rg) (z : Int) (p : Nat) : (blkOf l z p).length = 128 := by simp [blkOf]
theorem blkOf_at (l : List Rg) (z : Int) (p k : Nat) (hk : k < 128) : (blkOf l z p).getD k 0 = valR l z ((128 * p + k : Nat) : Int) := by simp [blkOf, List.getD, hk]
end Go.Proofs.Ytmkgihmchkphaaa.Stk
