import Derived.Test.YtbkdaafphcfpdaaProg
import Derived.Below
import Derived.Deep.Draws
import Derived.Deep.AppendLies
import Derived.Maps.AppendAt
import Derived.OwnWalk
import Derived.Laws.BytesArg
import Derived.Laws.MakeOwn
import Derived.Laws.OwnMore
import Derived.Deep.OwnRows
import Derived.Tactics
import Derived.Lib.ConvBytes
import Derived.Laws.Slices
import Derived.WalkKit
import Derived.KernelRfl
import Derived.RowKit3
import Derived.Deep.LoopGhost
import Derived.Deep.QuietTactic
import Derived.BigQuiet
import Derived.WideLaws
import Derived.Deep.DeepCutAuto
import Derived.Deep.CutBlock
import Derived.Deep.RegionHeld3
import Derived.Laws.Rows
import Derived.Lib.AppendStr
import Derived.ArgAppend
import Derived.Laws.IdiomCopy
import Derived.OrdersHeld
import Derived.Laws.BitsLemmas
import Derived.RowKit
import Derived.Test.YtbkdaafphcfpdaaWWords
import Derived.Test.YtbkdaafphcfpdaaWLast
import Derived.Test.YtbkdaafphcfpdaaWTab
import Derived.Test.YtbkdaafphcfpdaaWFour
import Derived.Test.YtbkdaafphcfpdaaWQPut
import Derived.Test.YtbkdaafphcfpdaaWApart
import Derived.Test.YtbkdaafphcfpdaaWArr
import Derived.Test.YtbkdaafphcfpdaaWZeros
import Derived.Test.YtbkdaafphcfpdaaWFoot
import Derived.Test.YtbkdaafphcfpdaaWKept
import Derived.Test.YtbkdaafphcfpdaaWShare
import Derived.Test.YtbkdaafphcfpdaaWN
import Derived.Test.YtbkdaafphcfpdaaWFootNe
import Derived.Test.YtbkdaafphcfpdaaWAt
import Derived.Test.YtbkdaafphcfpdaaWEqStruct
import Derived.Test.YtbkdaafphcfpdaaWRepsOne
import Derived.Test.YtbkdaafphcfpdaaWInv
import Derived.Test.YtbkdaafphcfpdaaWInvWords
import Derived.Test.YtbkdaafphcfpdaaWGuard
import Derived.Test.YtbkdaafphcfpdaaWNEv
import Derived.Test.YtbkdaafphcfpdaaWMore
import Derived.Maps.OwnSet
namespace Go.Proofs.Ytbkdaafphcfpdaa.Stk
open Go.RowKit Go.Proofs.YtbkdaafphcfpdaaW.PrintWords Go.Proofs.YtbkdaafphcfpdaaW.PrintLast Go.Proofs.YtbkdaafphcfpdaaW.PrintMore
attribute [local go_sem] max2_int min2_int max_two min_two max_three min_three max_four min_four   -- for this text's walks alone
set_option linter.unusedVariables false
set_option linter.unusedSimpArgs false
def mR (v : Value) : Option (DataW Value × List MemPlace) := some (.held v, [])
def MapIs (P : Program) (k : TypeId) (w : World) (b n : Nat) (f : Int → Option Value) : Prop :=
  ∃ D, w.ownsMap P k mR b n D ∧ Go.Maps.IsMap D ∧ ∀ a, (Lit.int .i64 a).wf = true → Go.Maps.has D (.int .i64 a) = (f a).isSome ∧ ∀ v, f a = some v → ∀ z, D.atKey (.int .i64 a) z = .held v
section
variable {P : Program} {k : TypeId} {w w' w1 : World} {b n : Nat} {f : Int → Option Value}
theorem map_made (w : World) (P : Program) (k : TypeId) : MapIs P k (w.alloc (.map #[] 0)) w.heap.size 0 (fun _ => none) :=
  ⟨_, World.ownsMap_made w P k mR, Go.Maps.isMap_empty, fun _ _ => ⟨rfl, fun _ h => by cases h⟩⟩
theorem map_lt (h : MapIs P k w b n f) : b < w.heap.size := h.elim fun _ h => h.1.lt
theorem map_more (h : MapIs P k w b n f) {m : Nat} (hm : n ≤ m) : MapIs P k w b m f := h.elim fun D h => ⟨D, h.1.mono hm, h.2⟩
theorem map_same (h : MapIs P k w b n f) (he : w'.heap[b]? = w.heap[b]?) : MapIs P k w' b n f := by
  obtain ⟨D, ⟨es, clock, hb, r⟩, h2⟩ := h
  exact ⟨D, ⟨es, clock, he.trans hb, r⟩, h2⟩
theorem map_below (h : MapIs P k w b n f) (hb : Below w.heap.size w w') : MapIs P k w' b n f := map_same h (hb.block b (map_lt h))
theorem map_keep (h : MapIs P k w b n f) {g : Nat} {row : Option Nat} (hk : KeepBut w w' g row) (hg : b ≠ g) (hr : some b ≠ row) : MapIs P k w' b n f := map_same h (hk.2 b (map_lt h) hg hr)
theorem map_block (h : MapIs P k w b n f) : ∃ es clock, w.heap[b]? = some (.map es clock) := h.elim fun _ h => h.1.elim fun es h => h.elim fun c h => ⟨es, c, h.1⟩
theorem map_ne (h : MapIs P k w b n f) {g : Nat} {cs : Array Value} {t : TypeId} {z : Nat × Nat} (hg : w.heap[g]? = some (.cells cs t z)) : b ≠ g := by
  rintro rfl
  obtain ⟨es, c, hb⟩ := map_block h
  rw [hb] at hg; cases hg
theorem map_cell (h : MapIs P k w b n f) {a : Addr} {v : Value} (hc : w.cell? a = some v) : a.block ≠ b := by
  intro e
  obtain ⟨es, c, hb⟩ := map_block h
  rw [← e] at hb
  simp [World.cell?, hb] at hc
def mput (f : Int → Option Value) (a : Int) (v : Value) : Int → Option Value := fun x => if x = a then some v else f x
def mdel (f : Int → Option Value) (a : Int) : Int → Option Value := fun x => if x = a then none else f x
theorem map_look (c : Bool) {t e : TypeId} (h : MapIs P k w b n f) (hk : P.underlying k = some (.int .i64)) (ht : P.underlying t = some (.map k e)) {z : Value} (hz : (zeroValue e).run P w = .ok z w) {a : Int} (ha : (Lit.int .i64 a).wf = true) :
    (Instr.lookup t (.map (some b)) (.int .i64 a) c).run P w = .ok (if c then .tuple #[(f a).getD z, .bool (f a).isSome] else (f a).getD z) w := by
  obtain ⟨D, ho, hD, hf⟩ := h
  obtain ⟨f1, f2⟩ := hf a ha
  have key : ∀ v ps, mR v = some (D.atKey (.int .i64 a) (.held z), ps) → v = (f a).getD z := by
    intro v ps hv
    simp only [mR, Option.some.injEq, Prod.mk.injEq] at hv
    obtain ⟨hv, _⟩ := hv
    cases hfa : f a with
    | none =>
      rw [hfa] at f1
      rw [Go.Maps.atKey_of_not_has f1] at hv
      cases hv; rfl
    | some u =>
      rw [f2 u hfa] at hv
      cases hv; rfl
  cases c with
  | false =>
    obtain ⟨v, ps, hrun, hv⟩ := ho.lookup (Go.Maps.int_keyed hk) ht hz (zd := .held z) (zp := []) rfl (Go.Maps.keyOf_int_mk hk ha)
    rw [key v ps hv] at hrun; exact hrun
  | true =>
    obtain ⟨v, ps, hrun, hv⟩ := ho.look_ok (Go.Maps.int_keyed hk) ht hz (zd := .held z) (zp := []) rfl (Go.Maps.keyOf_int_mk hk ha)
    rw [key v ps hv, f1] at hrun; exact hrun
theorem map_store {t e : TypeId} (h : MapIs P k w b n f) (hk : P.underlying k = some (.int .i64)) (ht : P.underlying t = some (.map k e)) (hn : n < maxLen) {a : Int} (ha : (Lit.int .i64 a).wf = true) (v : Value) :
    ∃ w', (Instr.mapUpdate t (.map (some b)) (.int .i64 a) v).run P w = .ok () w' ∧ MapIs P k w' b (n + 1) (mput f a v) ∧ w.grownBy w' (some b) := by
  obtain ⟨D, ho, hD, hf⟩ := h
  obtain ⟨w', hrun, ho', hg⟩ := ho.update (Go.Maps.int_keyed hk) ht hn (Go.Maps.keyOf_int_mk hk ha) (d := .held v) (ps := []) (val := v) rfl
  refine ⟨w', hrun, ⟨_, ho', hD.put _ _, fun x hx => ?_⟩, hg⟩
  unfold mput
  by_cases e : x = a
  · subst e
    rw [if_pos rfl]
    have hkl : WideAt.IsKeyLit (Lit.int .i64 x) := (Go.Maps.int_keyed hk).key (Go.Maps.keyOf_int_mk hk hx)
    exact ⟨Go.Maps.has_put_same hD hkl _, fun u hu z => by cases hu; exact Go.Maps.atKey_put_same hD hkl _ _⟩
  · rw [if_neg e]
    have hne : Lit.int .i64 x ≠ Lit.int .i64 a := fun h => e (by injection h)
    exact ⟨(Go.Maps.has_put_other hne _).trans (hf x hx).1, fun u hu z => (Go.Maps.atKey_put_other hne _ _).trans ((hf x hx).2 u hu z)⟩
theorem map_drop {t e : TypeId} (h : MapIs P k w b n f) (hk : P.underlying k = some (.int .i64)) (ht : P.underlying t = some (.map k e)) {a : Int} (ha : (Lit.int .i64 a).wf = true) (ty : TypeId) :
    ∃ w', (Builtin.delete_ #[t, k] ty #[.map (some b), .int .i64 a]).run P w = .ok (.tuple #[]) w' ∧ MapIs P k w' b n (mdel f a) ∧ w.grownBy w' (some b) := by
  obtain ⟨D, ho, hD, hf⟩ := h
  obtain ⟨w', hrun, ho', hg⟩ := ho.drop (Go.Maps.int_keyed hk) ht (Go.Maps.keyOf_int_mk hk ha) ty
  refine ⟨w', hrun, ⟨_, ho', hD.del _, fun x hx => ?_⟩, hg.grown⟩
  unfold mdel
  by_cases e : x = a
  · subst e
    rw [if_pos rfl]
    exact ⟨Go.Maps.has_del_same, fun u hu => by cases hu⟩
  · rw [if_neg e]
    have hne : Lit.int .i64 x ≠ Lit.int .i64 a := fun h => e (by injection h)
    exact ⟨(Go.Maps.has_del_other hne).trans (hf x hx).1, fun u hu z => (Go.Maps.atKey_del_other hne _).trans ((hf x hx).2 u hu z)⟩
end
section
variable {P : Program} {k : TypeId} {w : World} {b n : Nat} {f : Int → Option Value} {ops : Array Oper} {rest : List Oper} {o : Oper} {a : Act} {Q : Exit → Act → World → Prop}
theorem wp_map_put (hg : o.guard = none) (m x v : Operand) (t : TypeId) (hop : o.op = Op.mapUpdate t m x v) (e : TypeId) (h : MapIs P k w b n f) (hk : P.underlying k = some (.int .i64)) (ht : P.underlying t = some (.map k e)) (hn : n < maxLen)
    (hm : a.eval m = .map (some b)) (key : Int) (val : Value) (hx : a.eval x = .int .i64 key) (hv : a.eval v = val) (ha : (Lit.int .i64 key).wf = true)
    (hK : ∀ w', MapIs P k w' b (n + 1) (mput f key val) → w.grownBy w' (some b) → wpList P ops Q rest (a.put o.dst undef) w') : wpList P ops Q (o :: rest) a w := by
  refine wpList_plain hg fun K' hK' => ?_
  obtain ⟨w', hrun, r1, r2⟩ := map_store h hk ht hn ha val
  unfold Oper.wp
  simp [execOp, hop, hm, hx, hv, hrun, Result.andThen]
  exact hK' _ _ (hK w' r1 r2)
theorem wp_map_del (hg : o.guard = none) (m x : Operand) (t : TypeId) (hop : o.op = Op.call { callee := Callee.builtin Builtin.delete, args := #[m, x], argTypes := #[t, k] }) (e : TypeId) (h : MapIs P k w b n f) (hk : P.underlying k = some (.int .i64)) (ht : P.underlying t = some (.map k e))
    (hm : a.eval m = .map (some b)) (key : Int) (hx : a.eval x = .int .i64 key) (ha : (Lit.int .i64 key).wf = true)
    (hK : ∀ w', MapIs P k w' b n (mdel f key) → w.grownBy w' (some b) → wpList P ops Q rest (a.put o.dst (.tuple #[])) w') : wpList P ops Q (o :: rest) a w := by
  refine wpList_plain hg fun K' hK' => ?_
  obtain ⟨w', hrun, r1, r2⟩ := map_drop h hk ht ha o.type
  unfold Oper.wp
  simp [execOp, hop, resolve, invoke, builtin, hm, hx, hrun, Result.andThen]
  exact hK' _ _ (hK w' r1 r2)
theorem wp_map_look (hg : o.guard = none) (m x : Operand) (t : TypeId) (c : Bool) (hop : o.op = Op.lookup t m x c) (e : TypeId) (h : MapIs P k w b n f) (hk : P.underlying k = some (.int .i64)) (ht : P.underlying t = some (.map k e)) {z : Value} (hz : (zeroValue e).run P w = .ok z w)
    (hm : a.eval m = .map (some b)) (key : Int) (hx : a.eval x = .int .i64 key) (ha : (Lit.int .i64 key).wf = true)
    (hK : wpList P ops Q rest (a.put o.dst (if c then .tuple #[(f key).getD z, .bool (f key).isSome] else (f key).getD z)) w) : wpList P ops Q (o :: rest) a w := by
  refine wpList_plain hg fun K' hK' => ?_
  unfold Oper.wp
  simp [execOp, hop, hm, hx, map_look c h hk ht hz ha, Result.andThen]
  exact hK' _ _ hK
end
end Go.Proofs.Ytbkdaafphcfpdaa.Stk
