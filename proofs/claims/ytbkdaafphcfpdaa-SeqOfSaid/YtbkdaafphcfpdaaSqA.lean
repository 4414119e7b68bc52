import Derived.Test.YtbkdaafphcfpdaaProg
import Derived.Below
import Derived.Deep.Draws
import Derived.Deep.AppendLies
import Derived.Maps.AppendAt
import Derived.OwnWalk
import Derived.Laws.BytesArg
import Derived.Laws.MakeOwn
import Derived.Laws.OwnMore
import Derived.Deep.OwnRows
import Derived.Tactics
import Derived.Lib.ConvBytes
import Derived.Laws.Slices
import Derived.WalkKit
import Derived.KernelRfl
import Derived.RowKit3
import Derived.Deep.LoopGhost
import Derived.Deep.QuietTactic
import Derived.BigQuiet
import Derived.WideLaws
import Derived.Deep.DeepCutAuto
import Derived.Deep.CutBlock
import Derived.Deep.RegionHeld3
import Derived.Laws.Rows
import Derived.Lib.AppendStr
import Derived.ArgAppend
import Derived.Laws.IdiomCopy
import Derived.OrdersHeld
import Derived.Laws.BitsLemmas
import Derived.RowKit
import Derived.Test.YtbkdaafphcfpdaaWWords
import Derived.Test.YtbkdaafphcfpdaaWLast
import Derived.Test.YtbkdaafphcfpdaaWTab
import Derived.Test.YtbkdaafphcfpdaaWFour
import Derived.Test.YtbkdaafphcfpdaaWQPut
import Derived.Test.YtbkdaafphcfpdaaWApart
import Derived.Test.YtbkdaafphcfpdaaWArr
import Derived.Test.YtbkdaafphcfpdaaWZeros
import Derived.Test.YtbkdaafphcfpdaaWFoot
import Derived.Test.YtbkdaafphcfpdaaWKept
import Derived.Test.YtbkdaafphcfpdaaWShare
import Derived.Test.YtbkdaafphcfpdaaWN
import Derived.Test.YtbkdaafphcfpdaaWFootNe
import Derived.Test.YtbkdaafphcfpdaaWAt
import Derived.Test.YtbkdaafphcfpdaaWEqStruct
import Derived.Test.YtbkdaafphcfpdaaWRepsOne
import Derived.Test.YtbkdaafphcfpdaaWInv
import Derived.Test.YtbkdaafphcfpdaaWInvWords
import Derived.Test.YtbkdaafphcfpdaaWGuard
import Derived.Test.YtbkdaafphcfpdaaWNEv
import Derived.Test.YtbkdaafphcfpdaaWMore
import Derived.Maps.OwnSet
namespace Go.Proofs.Ytbkdaafphcfpdaa.Stk
open Go.RowKit Go.Proofs.YtbkdaafphcfpdaaW.PrintWords Go.Proofs.YtbkdaafphcfpdaaW.PrintLast Go.Proofs.YtbkdaafphcfpdaaW.PrintMore
attribute [local go_sem] max2_int min2_int max_two min_two max_three min_three max_four min_four   -- for this text's walks alone
set_option linter.unusedVariables false
set_option linter.unusedSimpArgs false
def mR (v : Value) : Option (DataW Value × List MemPlace) := some (.held v, [])
def MapIs (P : Program) (k : TypeId) (w : World) (b n : Nat) (f : Int → Option Value) : Prop :=
  ∃ D, w.ownsMap P k mR b n D ∧ Go.Maps.IsMap D ∧ ∀ a, (Lit.int .i64 a).wf = true → Go.Maps.has D (.int .i64 a) = (f a).isSome ∧ ∀ v, f a = some v → ∀ z, D.atKey (.int .i64 a) z = .held v
section
variable {P : Program} {k : TypeId} {w w' w1 : World} {b n : Nat} {f : Int → Option Value}
theorem map_made (w : World) (P : Program) (k : TypeId) : MapIs P k (w.alloc (.map #[] 0)) w.heap.size 0 (fun _ => none) :=
  ⟨_, World.ownsMap_made w P k mR, Go.Maps.isMap_empty, fun _ _ => ⟨rfl, fun _ h => by cases h⟩⟩
theorem map_lt (h : MapIs P k w b n f) : b < w.heap.size := h.elim fun _ h => h.1.lt
theorem map_more (h : MapIs P k w b n f) {m : Nat} (hm : n ≤ m) : MapIs P k w b m f := h.elim fun D h => ⟨D, h.1.mono hm, h.2⟩
theorem map_same (h : MapIs P k w b n f) (he : w'.heap[b]? = w.heap[b]?) : MapIs P k w' b n f := by
  obtain ⟨D, ⟨es, clock, hb, r⟩, h2⟩ := h
  exact ⟨D, ⟨es, clock, he.trans hb, r⟩, h2⟩
theorem map_below (h : MapIs P k w b n f) (hb : Below w.heap.size w w') : MapIs P k w' b n f := map_same h (hb.block b (map_lt h))
theorem map_keep (h : MapIs P k w b n f) {g : Nat} {row : Option Nat} (hk : KeepBut w w' g row) (hg : b ≠ g) (hr : some b ≠ row) : MapIs P k w' b n f := map_same h (hk.2 b (map_lt h) hg hr)
theorem map_block (h : MapIs P k w b n f) : ∃ es clock, w.heap[b]? = some (.map es clock) := h.elim fun _ h => h.1.elim fun es h => h.elim fun c h => ⟨es, c, h.1⟩
theorem map_ne (h : MapIs P k w b n f) {g : Nat} {cs : Array Value} {t : TypeId} {z : Nat × Nat} (hg : w.heap[g]? = some (.cells cs t z)) : b ≠ g := by
  rintro rfl
  obtain ⟨es, c, hb⟩ := map_block h
  rw [hb] at hg; cases hg
theorem map_cell (h : MapIs P k w b n f) {a : Addr} {v : Value} (hc : w.cell? a = some v) : a.block ≠ b := by
  intro e
  obtain ⟨es, c, hb⟩ := map_block h
  rw [← e] at hb
  simp [World.cell?, hb] at hc
def mput (f : Int → Option Value) (a : Int) (v : Value) : Int → Option Value := fun x => if x = a then some v else f x
def mdel (f : Int → Option Value) (a : Int) : Int → Option Value := fun x => if x = a then none else f x
theorem map_look (c : Bool) {t e : TypeId} (h : MapIs P k w b n f) (hk : P.underlying k = some (.int .i64)) (ht : P.underlying t = some (.map k e)) {z : Value} (hz : (zeroValue e).run P w = .ok z w) {a : Int} (ha : (Lit.int .i64 a).wf = true) :
    (Instr.lookup t (.map (some b)) (.int .i64 a) c).run P w = .ok (if c then .tuple #[(f a).getD z, .bool (f a).isSome] else (f a).getD z) w := by
  obtain ⟨D, ho, hD, hf⟩ := h
  obtain ⟨f1, f2⟩ := hf a ha
  have key : ∀ v ps, mR v = some (D.atKey (.int .i64 a) (.held z), ps) → v = (f a).getD z := by
    intro v ps hv
    simp only [mR, Option.some.injEq, Prod.mk.injEq] at hv
    obtain ⟨hv, _⟩ := hv
    cases hfa : f a with
    | none =>
      rw [hfa] at f1
      rw [Go.Maps.atKey_of_not_has f1] at hv
      cases hv; rfl
    | some u =>
      rw [f2 u hfa] at hv
      cases hv; rfl
  cases c with
  | false =>
    obtain ⟨v, ps, hrun, hv⟩ := ho.lookup (Go.Maps.int_keyed hk) ht hz (zd := .held z) (zp := []) rfl (Go.Maps.keyOf_int_mk hk ha)
    rw [key v ps hv] at hrun; exact hrun
  | true =>
    obtain ⟨v, ps, hrun, hv⟩ := ho.look_ok (Go.Maps.int_keyed hk) ht hz (zd := .held z) (zp := []) rfl (Go.Maps.keyOf_int_mk hk ha)
    rw [key v ps hv, f1] at hrun; exact hrun
theorem map_store {t e : TypeId} (h : MapIs P k w b n f) (hk : P.underlying k = some (.int .i64)) (ht : P.underlying t = some (.map k e)) (hn : n < maxLen) {a : Int} (ha : (Lit.int .i64 a).wf = true) (v : Value) :
    ∃ w', (Instr.mapUpdate t (.map (some b)) (.int .i64 a) v).run P w = .ok () w' ∧ MapIs P k w' b (n + 1) (mput f a v) ∧ w.grownBy w' (some b) := by
  obtain ⟨D, ho, hD, hf⟩ := h
  obtain ⟨w', hrun, ho', hg⟩ := ho.update (Go.Maps.int_keyed hk) ht hn (Go.Maps.keyOf_int_mk hk ha) (d := .held v) (ps := []) (val := v) rfl
  refine ⟨w', hrun, ⟨_, ho', hD.put _ _, fun x hx => ?_⟩, hg⟩
  unfold mput
  by_cases e : x = a
  · subst e
    rw [if_pos rfl]
    have hkl : WideAt.IsKeyLit (Lit.int .i64 x) := (Go.Maps.int_keyed hk).key (Go.Maps.keyOf_int_mk hk hx)
    exact ⟨Go.Maps.has_put_same hD hkl _, fun u hu z => by cases hu; exact Go.Maps.atKey_put_same hD hkl _ _⟩
  · rw [if_neg e]
    have hne : Lit.int .i64 x ≠ Lit.int .i64 a := fun h => e (by injection h)
    exact ⟨(Go.Maps.has_put_other hne _).trans (hf x hx).1, fun u hu z => (Go.Maps.atKey_put_other hne _ _).trans ((hf x hx).2 u hu z)⟩
theorem map_drop {t e : TypeId} (h : MapIs P k w b n f) (hk : P.underlying k = some (.int .i64)) (ht : P.underlying t = some (.map k e)) {a : Int} (ha : (Lit.int .i64 a).wf = true) (ty : TypeId) :
    ∃ w', (Builtin.delete_ #[t, k] ty #[.map (some b), .int .i64 a]).run P w = .ok (.tuple #[]) w' ∧ MapIs P k w' b n (mdel f a) ∧ w.grownBy w' (some b) := by
  obtain ⟨D, ho, hD, hf⟩ := h
  obtain ⟨w', hrun, ho', hg⟩ := ho.drop (Go.Maps.int_keyed hk) ht (Go.Maps.keyOf_int_mk hk ha) ty
  refine ⟨w', hrun, ⟨_, ho', hD.del _, fun x hx => ?_⟩, hg.grown⟩
  unfold mdel
  by_cases e : x = a
  · subst e
    rw [if_pos rfl]
    exact ⟨Go.Maps.has_del_same, fun u hu => by cases hu⟩
  · rw [if_neg e]
    have hne : Lit.int .i64 x ≠ Lit.int .i64 a := fun h => e (by injection h)
    exact ⟨(Go.Maps.has_del_other hne).trans (hf x hx).1, fun u hu z => (Go.Maps.atKey_del_other hne _).trans ((hf x hx).2 u hu z)⟩
end
section
variable {P : Program} {k : TypeId} {w : World} {b n : Nat} {f : Int → Option Value} {ops : Array Oper} {rest : List Oper} {o : Oper} {a : Act} {Q : Exit → Act → World → Prop}
theorem wp_map_put (hg : o.guard = none) (m x v : Operand) (t : TypeId) (hop : o.op = Op.mapUpdate t m x v) (e : TypeId) (h : MapIs P k w b n f) (hk : P.underlying k = some (.int .i64)) (ht : P.underlying t = some (.map k e)) (hn : n < maxLen)
    (hm : a.eval m = .map (some b)) (key : Int) (val : Value) (hx : a.eval x = .int .i64 key) (hv : a.eval v = val) (ha : (Lit.int .i64 key).wf = true)
    (hK : ∀ w', MapIs P k w' b (n + 1) (mput f key val) → w.grownBy w' (some b) → wpList P ops Q rest (a.put o.dst undef) w') : wpList P ops Q (o :: rest) a w := by
  refine wpList_plain hg fun K' hK' => ?_
  obtain ⟨w', hrun, r1, r2⟩ := map_store h hk ht hn ha val
  unfold Oper.wp
  simp [execOp, hop, hm, hx, hv, hrun, Result.andThen]
  exact hK' _ _ (hK w' r1 r2)
theorem wp_map_del (hg : o.guard = none) (m x : Operand) (t : TypeId) (hop : o.op = Op.call { callee := Callee.builtin Builtin.delete, args := #[m, x], argTypes := #[t, k] }) (e : TypeId) (h : MapIs P k w b n f) (hk : P.underlying k = some (.int .i64)) (ht : P.underlying t = some (.map k e))
    (hm : a.eval m = .map (some b)) (key : Int) (hx : a.eval x = .int .i64 key) (ha : (Lit.int .i64 key).wf = true)
    (hK : ∀ w', MapIs P k w' b n (mdel f key) → w.grownBy w' (some b) → wpList P ops Q rest (a.put o.dst (.tuple #[])) w') : wpList P ops Q (o :: rest) a w := by
  refine wpList_plain hg fun K' hK' => ?_
  obtain ⟨w', hrun, r1, r2⟩ := map_drop h hk ht ha o.type
  unfold Oper.wp
  simp [execOp, hop, resolve, invoke, builtin, hm, hx, hrun, Result.andThen]
  exact hK' _ _ (hK w' r1 r2)
theorem wp_map_look (hg : o.guard = none) (m x : Operand) (t : TypeId) (c : Bool) (hop : o.op = Op.lookup t m x c) (e : TypeId) (h : MapIs P k w b n f) (hk : P.underlying k = some (.int .i64)) (ht : P.underlying t = some (.map k e)) {z : Value} (hz : (zeroValue e).run P w = .ok z w)
    (hm : a.eval m = .map (some b)) (key : Int) (hx : a.eval x = .int .i64 key) (ha : (Lit.int .i64 key).wf = true)
    (hK : wpList P ops Q rest (a.put o.dst (if c then .tuple #[(f key).getD z, .bool (f key).isSome] else (f key).getD z)) w) : wpList P ops Q (o :: rest) a w := by
  refine wpList_plain hg fun K' hK' => ?_
  unfold Oper.wp
  simp [execOp, hop, hm, hx, map_look c h hk ht hz ha, Result.andThen]
  exact hK' _ _ hK
end
def Tx (w : World) (g rb : Nat) (L B M K : List Int) (bs : Int) (f : Int → Option Value) : Prop :=
  ∃ (Al : Option Addr) (cl : Nat) (Ab : Option Addr) (cb : Nat) (Am : Option Addr) (cm : Nat) (Ak : Option Addr) (ck n : Nat),
    w.heap[g]? = some (.cells #[.slice Al L.length cl, .slice Ab B.length cb, .slice Am M.length cm, .slice Ak K.length ck, .map (some rb), .int .i64 bs] 80 (0, 0)) ∧
    (L.length ≤ cl ∧ Kd.C (Kd.int .i64) w Al L.length L) ∧ (B.length ≤ cb ∧ Kd.C (Kd.int .i64) w Ab B.length B) ∧ (M.length ≤ cm ∧ Kd.C (Kd.int .i64) w Am M.length M) ∧ (K.length ≤ ck ∧ Kd.C (Kd.int .i64) w Ak K.length K) ∧ MapIs Try.prog 3 w rb n f
section
variable {w w' : World} {g rb : Nat} {L B M K : List Int} {bs : Int} {f : Int → Option Value}
theorem tx_below (h : Tx w g rb L B M K bs f) (hb : Below w.heap.size w w') : Tx w' g rb L B M K bs f := by
  obtain ⟨Al, cl, Ab, cb, Am, cm, Ak, ck, n, hG, hl, hb_, hm, hk, hM⟩ := h
  exact ⟨Al, cl, Ab, cb, Am, cm, Ak, ck, n, blk_below hG hb, ⟨hl.1, Kd.C_below hl.2 hb⟩, ⟨hb_.1, Kd.C_below hb_.2 hb⟩, ⟨hm.1, Kd.C_below hm.2 hb⟩, ⟨hk.1, Kd.C_below hk.2 hb⟩, map_below hM hb⟩
theorem tx_lt (h : Tx w g rb L B M K bs f) : g < w.heap.size := by
  obtain ⟨Al, cl, Ab, cb, Am, cm, Ak, ck, n, hG, _⟩ := h
  exact blk_lt hG
theorem c_but {A : Option Addr} {n b : Nat} {xs : List Int} (h : Kd.C (Kd.int .i64) w A n xs) (hk : KeepBut w w' b none) {es : Array MapEntry} {c : Nat} (hb : w.heap[b]? = some (.map es c)) : Kd.C (Kd.int .i64) w' A n xs := by
  refine Kd.C_keep (d := (0 : Int)) h hk (fun ad hA hn e => ?_)
  subst hA
  obtain ⟨ad', e', hc⟩ := Kd.at_int h 0 (by omega) (by exact_mod_cast hn)
  cases e'
  rw [← e] at hb
  simp [World.cell?, Addr.add, hb] at hc
theorem tx_but (h : Tx w g rb L B M K bs f) {b : Nat} (hk : KeepBut w w' b none) {es : Array MapEntry} {c : Nat} (hb : w.heap[b]? = some (.map es c)) (hr : rb ≠ b) : Tx w' g rb L B M K bs f := by
  obtain ⟨Al, cl, Ab, cb, Am, cm, Ak, ck, n, hG, hl, hb_, hm, hk_, hM⟩ := h
  exact ⟨Al, cl, Ab, cb, Am, cm, Ak, ck, n, (hk.2 g (blk_lt hG) (by rintro rfl; rw [hb] at hG; cases hG) (by simp)).trans hG, ⟨hl.1, c_but hl.2 hk hb⟩, ⟨hb_.1, c_but hb_.2 hk hb⟩, ⟨hm.1, c_but hm.2 hk hb⟩, ⟨hk_.1, c_but hk_.2 hk hb⟩, map_keep hM hk hr (by simp)⟩
end
def isoB (c : Int) : Bool := if c = 19 then true else if c = 20 then true else if c = 21 then true else false
def nearF (L K : List Int) (bs n : Int) : Option Int := if n < 0 then some bs else if n < (K.length : Int) then (if 0 ≤ rd K n then (if rd K n < (L.length : Int) then some (rd L (rd K n)) else none) else none) else some bs
def dirF (a b : Int) : Int := if Go.bits .and .i64 (mx a b) 1 = 1 then 1 else 0
set_option maxHeartbeats 8000000 in
set_option maxRecDepth 100000 in
theorem p_dir (a b : Int) (w : World) : Calls Try.prog 53 #[.int .i64 a, .int .i64 b] w fun e w' => e = .returned (.int .i64 (dirF a b)) ∧ Drawn0 w w' := by
  unfold dirF
  obtain ⟨m, hm⟩ : ∃ m, mx a b = m := ⟨_, rfl⟩
  have hm_ : (if a < b then b else a) = m := hm
  rw [hm]
  by_cases c : Go.bits .and .i64 m 1 = 1
  · rw [if_pos c]
    have c1 : (Go.bits .and .i64 m 1 == 1) = true := beq_iff_eq.mpr c
    clear c
    go_enter Try.func53, Try.ntmps53
    go_wp2
    go_ret
    exact ⟨by first | rfl | (simp; done) | (simp [*]; done), by repeat (first | exact Drawn0.refl _ | apply Drawn0.step)⟩
  · rw [if_neg c]
    have c1 : (Go.bits .and .i64 m 1 == 1) = false := beq_eq_false_iff_ne.mpr c
    clear c
    go_enter Try.func53, Try.ntmps53
    go_wp2
    go_ret
    exact ⟨by first | rfl | (simp; done) | (simp [*]; done), by repeat (first | exact Drawn0.refl _ | apply Drawn0.step)⟩
set_option maxHeartbeats 8000000 in
set_option maxRecDepth 100000 in
theorem p_iso {w : World} {g rb : Nat} {L B M K : List Int} {bs : Int} {f : Int → Option Value} (h : Tx w g rb L B M K bs f) (i : Int) (h0 : 0 ≤ i) (h1 : i < (B.length : Int)) (h2 : i < (M.length : Int)) :
    Calls Try.prog 36 #[.pointer (some ⟨g, 0, none⟩), .int .i64 i] w fun e w' => e = .returned (.tuple #[.int .i64 (if isoB (rd B i) = true then rd M i else 0), .bool (isoB (rd B i))]) ∧ Drawn0 w w' := by
  obtain ⟨Al, cl, Ab, cb, Am, cm, Ak, ck, n, hG, hl, hb, hm, hk, hM⟩ := h
  have k1 := (blk_cell hG 1).trans rfl
  have k2 := (blk_cell hG 2).trans rfl
  obtain ⟨ab, e, xb⟩ := Kd.at_int hb.2 i h0 h1
  cases e
  obtain ⟨am, e, xm⟩ := Kd.at_int hm.2 i h0 h2
  cases e
  have d0 : decide (0 ≤ i) = true := decide_eq_true h0
  have d1 : decide (i < (B.length : Int)) = true := decide_eq_true h1
  have d2 : decide (i < (M.length : Int)) = true := decide_eq_true h2
  replace h0 := eq_true h0
  replace h1 := eq_true h1
  replace h2 := eq_true h2
  clear hl hb hm hk hM
  unfold isoB
  by_cases c19 : rd B i = 19
  · simp only [if_pos c19, if_true]
    rw [c19] at xb
    go_enter Try.func36, Try.ntmps36
    go_wp2
    go_ret2
    exact ⟨by first | rfl | (simp; done) | (simp [*]; done), by repeat (first | exact Drawn0.refl _ | apply Drawn0.step)⟩
  by_cases c20 : rd B i = 20
  · simp only [if_neg c19, if_pos c20, if_true]
    have e19 : (rd B i == 19) = false := beq_eq_false_iff_ne.mpr c19
    have d19 : decide (rd B i = 19) = false := decide_eq_false c19
    rw [c20] at xb
    go_enter Try.func36, Try.ntmps36
    go_wp2
    go_ret2
    exact ⟨by first | rfl | (simp; done) | (simp [*]; done), by repeat (first | exact Drawn0.refl _ | apply Drawn0.step)⟩
  by_cases c21 : rd B i = 21
  · simp only [if_neg c19, if_neg c20, if_pos c21, if_true]
    have e19 : (rd B i == 19) = false := beq_eq_false_iff_ne.mpr c19
    have d19 : decide (rd B i = 19) = false := decide_eq_false c19
    have e20 : (rd B i == 20) = false := beq_eq_false_iff_ne.mpr c20
    have d20 : decide (rd B i = 20) = false := decide_eq_false c20
    rw [c21] at xb
    go_enter Try.func36, Try.ntmps36
    go_wp2
    go_ret2
    exact ⟨by first | rfl | (simp; done) | (simp [*]; done), by repeat (first | exact Drawn0.refl _ | apply Drawn0.step)⟩
  · simp only [if_neg c19, if_neg c20, if_neg c21, Bool.false_eq_true, if_false]
    have e19 : (rd B i == 19) = false := beq_eq_false_iff_ne.mpr c19
    have d19 : decide (rd B i = 19) = false := decide_eq_false c19
    have e20 : (rd B i == 20) = false := beq_eq_false_iff_ne.mpr c20
    have d20 : decide (rd B i = 20) = false := decide_eq_false c20
    have e21 : (rd B i == 21) = false := beq_eq_false_iff_ne.mpr c21
    have d21 : decide (rd B i = 21) = false := decide_eq_false c21
    go_enter Try.func36, Try.ntmps36
    go_wp2
    go_ret2
    exact ⟨by first | rfl | (simp; done) | (simp [*]; done), by repeat (first | exact Drawn0.refl _ | apply Drawn0.step)⟩
set_option maxHeartbeats 8000000 in
set_option maxRecDepth 100000 in
theorem p_near {w : World} {g rb : Nat} {L B M K : List Int} {bs : Int} {f : Int → Option Value} (h : Tx w g rb L B M K bs f) (i y r v : Int) (hi : (Lit.int .i64 i).wf = true) (hf : (f i).getD (.int .i64 0) = .int .i64 r) (hv : nearF L K bs (wrap64 (r + y)) = some v) :
    Calls Try.prog 54 #[.pointer (some ⟨g, 0, none⟩), .int .i64 i, .int .i64 y] w fun e w' => e = .returned (.int .i64 v) ∧ Drawn0 w w' := by
  obtain ⟨Al, cl, Ab, cb, Am, cm, Ak, ck, n, hG, hl, hb, hm, hk, hM⟩ := h
  have HM := Aside0.mk hM
  have k0 := (blk_cell hG 0).trans rfl
  have k3 := (blk_cell hG 3).trans rfl
  have k4 := (blk_cell hG 4).trans rfl
  have k5 := (blk_cell hG 5).trans rfl
  obtain ⟨m, hn⟩ : ∃ m, wrap64 (r + y) = m := ⟨_, rfl⟩
  have hnw : IntKind.i64.wrap (r + y) = m := (i64_w _).trans hn
  rw [hn] at hv
  unfold nearF at hv
  by_cases c1 : m < 0
  · rw [if_pos c1] at hv
    obtain rfl := Option.some.inj hv
    have b1 : decide (m < 0) = true := decide_eq_true c1
    clear hl hb hm hk hM hv
    go_enter Try.func54, Try.ntmps54
    go_wp2_with (first | (at_lookup; refine wp_map_look rfl _ _ 78 false rfl 3 HM.out (by kernel_rfl) (by kernel_rfl) (z := .int .i64 0) (by kernel_rfl) rfl i rfl hi ?_; simp only [hf, Bool.false_eq_true, if_false]))
    go_ret
    exact ⟨by first | rfl | (simp; done) | (simp [*]; done), by repeat (first | exact Drawn0.refl _ | apply Drawn0.step)⟩
  rw [if_neg c1] at hv
  have b1 : decide (m < 0) = false := decide_eq_false c1
  by_cases c2 : m < (K.length : Int)
  · rw [if_pos c2] at hv
    by_cases c3 : 0 ≤ rd K m
    · rw [if_pos c3] at hv
      by_cases c4 : rd K m < (L.length : Int)
      · rw [if_pos c4] at hv
        obtain rfl := Option.some.inj hv
        have b2 : decide (m < (K.length : Int)) = true := decide_eq_true c2
        have b3 : decide ((K.length : Int) ≤ m) = false := decide_eq_false (by omega)
        have c0 : 0 ≤ m := by omega
        obtain ⟨ak, e, xk⟩ := Kd.at_int hk.2 m c0 c2
        cases e
        obtain ⟨al, e, xl⟩ := Kd.at_int hl.2 (rd K m) c3 c4
        cases e
        have b4 : decide (0 ≤ rd K m) = true := decide_eq_true c3
        have b5 : decide (rd K m < (L.length : Int)) = true := decide_eq_true c4
        have b6 : decide (0 ≤ m) = true := decide_eq_true c0
        replace c0 := eq_true c0
        replace c2 := eq_true c2
        replace c3 := eq_true c3
        replace c4 := eq_true c4
        clear hl hb hm hk hM hv
        go_enter Try.func54, Try.ntmps54
        go_wp2_with (first | (at_lookup; refine wp_map_look rfl _ _ 78 false rfl 3 HM.out (by kernel_rfl) (by kernel_rfl) (z := .int .i64 0) (by kernel_rfl) rfl i rfl hi ?_; simp only [hf, Bool.false_eq_true, if_false]))
        go_quiet (first | done)
        go_wp2
        go_ret
        exact ⟨by first | rfl | (simp; done) | (simp [*]; done), by repeat (first | exact Drawn0.refl _ | apply Drawn0.step)⟩
      · rw [if_neg c4] at hv; cases hv
    · rw [if_neg c3] at hv; cases hv
  · rw [if_neg c2] at hv
    obtain rfl := Option.some.inj hv
    have b2 : decide (m < (K.length : Int)) = false := decide_eq_false c2
    have b3 : decide ((K.length : Int) ≤ m) = true := decide_eq_true (by omega)
    clear hl hb hm hk hM hv
    go_enter Try.func54, Try.ntmps54
    go_wp2_with (first | (at_lookup; refine wp_map_look rfl _ _ 78 false rfl 3 HM.out (by kernel_rfl) (by kernel_rfl) (z := .int .i64 0) (by kernel_rfl) rfl i rfl hi ?_; simp only [hf, Bool.false_eq_true, if_false]))
    go_ret
    exact ⟨by first | rfl | (simp; done) | (simp [*]; done), by repeat (first | exact Drawn0.refl _ | apply Drawn0.step)⟩
theorem add0 (a : Addr) : a.add 0 = a := by simp [Addr.add]
theorem b_step {w W w2 : World} {r : Nat} (hr : w.heap.size = r) (h : Below r w W) (k : Below W.heap.size W w2) : Below r w w2 := by
  subst hr; exact below_step h k
theorem b_cell {w W : World} {r : Nat} {a : Addr} {v : Value} (hr : w.heap.size = r) (h : Below r w W) (hc : w.cell? a = some v) : W.cell? a = some v := by
  subst hr; exact (h.cell (World.block_lt_of_cell? w _ hc)).trans hc
theorem b_set {w W : World} {r q j : Nat} {v : Value} (hr : w.heap.size = r) (h : Below r w W) (hq : r ≤ q) : Below r w (W.setCell ⟨q, j, none⟩ v) := by
  subst hr; exact below_set h hq
theorem b_near {w : World} {g rb : Nat} {L B M K : List Int} {bs : Int} {f : Int → Option Value} (h : Tx w g rb L B M K bs f) (i y r v : Int) (hi : (Lit.int .i64 i).wf = true) (hf : (f i).getD (.int .i64 0) = .int .i64 r) (hv : nearF L K bs (wrap64 (r + y)) = some v) :
    Calls Try.prog 54 #[.pointer (some ⟨g, 0, none⟩), .int .i64 i, .int .i64 y] w fun e w' => e = .returned (.int .i64 v) ∧ Below w.heap.size w w' :=
  (p_near h i y r v hi hf hv).mono fun _ _ ⟨a, n, e⟩ => ⟨a, by rw [e]; exact pw_below_drewN (Below.refl _ _) n⟩
theorem b_iso {w : World} {g rb : Nat} {L B M K : List Int} {bs : Int} {f : Int → Option Value} (h : Tx w g rb L B M K bs f) (i : Int) (h0 : 0 ≤ i) (h1 : i < (B.length : Int)) (h2 : i < (M.length : Int)) :
    Calls Try.prog 36 #[.pointer (some ⟨g, 0, none⟩), .int .i64 i] w fun e w' => e = .returned (.tuple #[.int .i64 (if isoB (rd B i) = true then rd M i else 0), .bool (isoB (rd B i))]) ∧ Below w.heap.size w w' :=
  (p_iso h i h0 h1 h2).mono fun _ _ ⟨a, n, e⟩ => ⟨a, by rw [e]; exact pw_below_drewN (Below.refl _ _) n⟩
theorem b_dir (a b : Int) (w : World) : Calls Try.prog 53 #[.int .i64 a, .int .i64 b] w fun e w' => e = .returned (.int .i64 (dirF a b)) ∧ Below w.heap.size w w' :=
  (p_dir a b w).mono fun _ _ ⟨a, n, e⟩ => ⟨a, by rw [e]; exact pw_below_drewN (Below.refl _ _) n⟩
set_option maxHeartbeats 8000000 in
set_option maxRecDepth 100000 in
theorem p_seq_no {w : World} {g rb : Nat} {L B M K at_ : List Int} {bs : Int} {f : Int → Option Value} (h : Tx w g rb L B M K bs f) {A : Option Addr} {c : Nat} (hA : Kd.C (Kd.int .i64) w A at_.length at_) (x y z r1 r2 v1 v2 : Int) (hz : wrap64 ((at_.length : Int) - 1) = z) (hz0 : 0 ≤ z) (hz1 : z < (at_.length : Int)) (hx : rd at_ 0 = x) (hy : rd at_ z = y)
    (hx0 : 0 ≤ x) (hx1 : x < (L.length : Int)) (hy0 : 0 ≤ y) (hy1 : y < (L.length : Int)) (hy2 : y < (B.length : Int)) (hy3 : y < (M.length : Int)) (wx : (Lit.int .i64 x).wf = true) (wy : (Lit.int .i64 y).wf = true)
    (hf1 : (f x).getD (.int .i64 0) = .int .i64 r1) (hf2 : (f y).getD (.int .i64 0) = .int .i64 r2) (hv1 : nearF L K bs (wrap64 (r1 + -1)) = some v1) (hv2 : nearF L K bs (wrap64 (r2 + 1)) = some v2) (hi : isoB (rd B y) = false) :
    Calls Try.prog 37 #[.pointer (some ⟨g, 0, none⟩), .slice A at_.length c] w fun e w' => e = .returned (.agg #[.slice A at_.length c, .int .i64 (rd L x), .int .i64 (dirF (rd L x) v1), .int .i64 (dirF (rd L y) v2)]) ∧ Below w.heap.size w w' := by
  have HT := Aside0.mk h
  have HA := Aside0.mk hA
  have hl0 : 0 < (at_.length : Int) := by omega
  obtain ⟨aa, e, xa0⟩ := Kd.at_int hA 0 (by omega) hl0
  cases e
  obtain ⟨_, e, xa1⟩ := Kd.at_int hA z hz0 hz1
  cases e
  rw [hx] at xa0
  rw [hy] at xa1
  have HN1 := Aside0.mk (fun (W : World) (hb : Below w.heap.size w W) => b_near (tx_below h hb) x (-1) r1 v1 wx hf1 hv1)
  have HN2 := Aside0.mk (fun (W : World) (hb : Below w.heap.size w W) => b_near (tx_below h hb) y 1 r2 v2 wy hf2 hv2)
  have HI := Aside0.mk (fun (W : World) (hb : Below w.heap.size w W) => (show Calls Try.prog 36 #[.pointer (some ⟨g, 0, none⟩), .int .i64 y] W (fun e w' => e = .returned (.tuple #[.int .i64 0, .bool false]) ∧ Below W.heap.size W w') from by
    have h1 := b_iso (tx_below h hb) y hy0 hy2 hy3
    rw [hi] at h1
    simpa using h1))
  obtain ⟨Al, cl, Ab, cb, Am, cm, Ak, ck, n, hG, hl, hb, hm, hk, hM⟩ := h
  have k0 := (blk_cell hG 0).trans rfl
  have k1 := (blk_cell hG 1).trans rfl
  have k5 := (blk_cell hG 5).trans rfl
  obtain ⟨al, e, xl⟩ := Kd.at_int hl.2 x hx0 hx1
  cases e
  obtain ⟨_, e, yl⟩ := Kd.at_int hl.2 y hy0 hy1
  cases e
  have HX := Aside0.mk (show w.cell? ⟨g, 0, none⟩ = some (.slice (some al) L.length cl) ∧ w.cell? ⟨g, 1, none⟩ = some (.slice Ab B.length cb) ∧ w.cell? ⟨g, 5, none⟩ = some (.int .i64 bs) ∧ w.cell? (al.add x.toNat) = some (.int .i64 (rd L x)) ∧ w.cell? (al.add y.toNat) = some (.int .i64 (rd L y)) ∧ w.cell? aa = some (.int .i64 x) ∧ w.cell? (aa.add z.toNat) = some (.int .i64 y) from ⟨k0, k1, k5, xl, yl, (congrArg w.cell? (add0 aa)).symm.trans xa0, xa1⟩)
  clear hl hb hm hk hM hG k0 k1 k5 xl yl xa0 xa1 hA
  have hzw : IntKind.i64.wrap ((at_.length : Int) - 1) = z := (i64_w _).trans hz
  have d0 : decide (0 < (at_.length : Int)) = true := decide_eq_true hl0
  have d1 : decide (0 ≤ z) = true := decide_eq_true hz0
  have d2 : decide (z < (at_.length : Int)) = true := decide_eq_true hz1
  have d3 : decide (0 ≤ x) = true := decide_eq_true hx0
  have d4 : decide (x < (L.length : Int)) = true := decide_eq_true hx1
  have d5 : decide (0 ≤ y) = true := decide_eq_true hy0
  have d6 : decide (y < (L.length : Int)) = true := decide_eq_true hy1
  have hl1 : (0 < at_.length) = True := eq_true (by omega)
  replace hl0 := eq_true hl0
  replace hz0 := eq_true hz0
  replace hz1 := eq_true hz1
  replace hx0 := eq_true hx0
  replace hx1 := eq_true hx1
  replace hy0 := eq_true hy0
  replace hy1 := eq_true hy1
  clear hz hx hy hf1 hf2 hv1 hv2 wx wy hy2 hy3
  go_enter Try.func37, Try.ntmps37
  go_wp2
  have HB1 := Aside0.mk (below_alloc (Below.refl w.heap.size w) (.cells #[.slice none 0 0, .int .i64 0, .int .i64 0, .int .i64 0] 42))
  have BR := Aside0.mk (blk_new w (.cells #[.slice none 0 0, .int .i64 0, .int .i64 0, .int .i64 0] 42))
  have hq0 : (w.alloc (.cells #[.slice none 0 0, .int .i64 0, .int .i64 0, .int .i64 0] 42)).cell? aa = some (.int .i64 x) := (HB1.out.cell (World.block_lt_of_cell? w _ HX.out.2.2.2.2.2.1)).trans HX.out.2.2.2.2.2.1
  have hq1 : (w.alloc (.cells #[.slice none 0 0, .int .i64 0, .int .i64 0, .int .i64 0] 42)).cell? (aa.add z.toNat) = some (.int .i64 y) := (HB1.out.cell (World.block_lt_of_cell? w _ HX.out.2.2.2.2.2.2)).trans HX.out.2.2.2.2.2.2
  generalize hr : w.heap.size = r at HB1 BR HN1 HN2 HI ⊢
  generalize hw1 : w.alloc (.cells #[.slice none 0 0, .int .i64 0, .int .i64 0, .int .i64 0] 42) = w1 at HB1 BR hq0 hq1 ⊢
  go_quiet (first | done)
  have HB2 := Aside0.mk (show Below r w (w1.drewN nq) from pw_below_drewN HB1.out nq)
  have BR2 := Aside0.mk (blk_below BR.out (pw_below_drewN (Below.refl _ w1) nq))
  clear hq0 hq1 hw1 HB1 BR
  generalize w1.drewN nq = w2 at HB2 BR2 ⊢
  have l0 := (HB2.out.cell (hr ▸ World.block_lt_of_cell? w _ HX.out.1)).trans HX.out.1
  have l1 := (HB2.out.cell (hr ▸ World.block_lt_of_cell? w _ HX.out.2.2.2.1)).trans HX.out.2.2.2.1
  go_wp2
  have HB3 := Aside0.mk (b_step hr HB2.out (below_alloc (Below.refl _ w2) (.cells #[.slice (some aa) at_.length c, .int .i64 (rd L x), .int .i64 0, .int .i64 0] 42)))
  have BQ3 := Aside0.mk (blk_new w2 (.cells #[.slice (some aa) at_.length c, .int .i64 (rd L x), .int .i64 0, .int .i64 0] 42))
  have BR3 := Aside0.mk (blk_alloc BR2.out (.cells #[.slice (some aa) at_.length c, .int .i64 (rd L x), .int .i64 0, .int .i64 0] 42))
  have HQR := Aside0.mk (show r < w2.heap.size from blk_lt BR2.out)
  clear HB2 BR2 l0 l1
  generalize hq : w2.heap.size = q at BQ3 HQR ⊢
  generalize hw3 : w2.alloc (.cells #[.slice (some aa) at_.length c, .int .i64 (rd L x), .int .i64 0, .int .i64 0] 42) = w3 at BQ3 BR3 HB3 ⊢
  clear hw3 hq
  replace HB3 := Aside0.mk (below_drew1 HB3.out)
  replace BQ3 := Aside0.mk (blk_below BQ3.out (below_drew (Below.refl _ _)))
  replace BR3 := Aside0.mk (blk_below BR3.out (below_drew (Below.refl _ _)))
  have HS3 := Aside0.mk (show w3.drew.cell? ⟨q, 1, none⟩ = some (.int .i64 (rd L x)) from (blk_cell BQ3.out 1).trans rfl)
  refine start_ (n := 8) (S := fun w' => w'.cell? ⟨q, 1, none⟩ = some (.int .i64 (rd L x))) (ds := [7]) #[false, false, false, false, false, false, false, false] (by kernel_rfl) rfl rfl HS3.out (fun hHeld => ?_)
  generalize w3.drew = w3d at HB3 BQ3 BR3 HS3 hHeld ⊢
  refine pure_ (i := 0) (N := some 29) (v := ?_) (a' := ?_) #[true, false, false, false, false, false, false, false] rfl rfl (by kernel_rfl) (fun _ _ _ h => h) (Or.inl ⟨by rfl, ?_⟩) ?_ ?_
  rotate_left
  · intro w'
    go_simp
    with_reducible rfl
  rotate_left
  · simp only [Act.put, List.setIfInBounds_toArray, List.set_cons_zero, List.set_cons_succ, i64_w, i32_w]
    rfl
  refine take_ (i := 1) (N := some 30) (v := ?_) (a' := ?_) #[true, true, false, false, false, false, false, false] rfl rfl (by kernel_rfl) (fun _ _ _ h => h) (Or.inl ⟨by rfl, ?_⟩) hHeld ?_ ?_
  rotate_left
  · rintro w' s0
    go_simp
    with_reducible rfl
  rotate_left
  · simp only [Act.put, List.setIfInBounds_toArray, List.set_cons_zero, List.set_cons_succ, i64_w, i32_w]
    rfl
  refine pure_ (i := 2) (N := some 31) (v := ?_) (a' := ?_) #[true, true, true, false, false, false, false, false] rfl rfl (by kernel_rfl) (fun _ _ _ h => h) (Or.inl ⟨by rfl, ?_⟩) ?_ ?_
  rotate_left
  · intro w'
    go_simp
    with_reducible rfl
  rotate_left
  · simp only [Act.put, List.setIfInBounds_toArray, List.set_cons_zero, List.set_cons_succ, i64_w, i32_w]
    rfl
  refine pure_ (i := 3) (N := some 32) (v := ?_) (a' := ?_) #[true, true, true, true, false, false, false, false] rfl rfl (by kernel_rfl) (fun _ _ _ h => h) (Or.inl ⟨by rfl, ?_⟩) ?_ ?_
  rotate_left
  · intro w'
    go_simp
    with_reducible rfl
  rotate_left
  · simp only [Act.put, List.setIfInBounds_toArray, List.set_cons_zero, List.set_cons_succ, i64_w, i32_w]
    rfl
  refine one_ (i := 4) (N := some 33) #[true, true, true, true, true, false, false, false] rfl rfl (by kernel_rfl) (by decide) (fun K hK => ?_)
  refine (goes_ Try.func54 (by kernel_rfl) rfl #[.pointer (some ⟨g, 0, none⟩), .int .i64 x, .int .i64 (-1)] (by rfl) rfl rfl (by (try simp only [List.map_toArray, List.map_cons, List.map_nil]); first | done | rfl) ?_)
  (with_reducible refine (HN1.out _ HB3.out).mono ?_)
  rintro e w4 ⟨rfl, hb⟩
  refine ⟨_, rfl, ?_⟩
  have HB4 := Aside0.mk (b_step hr HB3.out hb)
  have BQ4 := Aside0.mk (blk_below BQ3.out hb)
  have BR4 := Aside0.mk (blk_below BR3.out hb)
  clear hb
  refine hK.out _ _ ((blk_cell BQ4.out 1).trans rfl) (fun hHeld => ?_)
  clear hK K
  refine norm_ (a' := ?_) ?_ ?_
  rotate_left
  · show Act.put _ (some 33) _ = _
    simp only [Act.put, List.setIfInBounds_toArray, List.set_cons_zero, List.set_cons_succ, i64_w, i32_w]
    rfl
  refine one_ (i := 5) (N := some 34) #[true, true, true, true, true, true, false, false] rfl rfl (by kernel_rfl) (by decide) (fun K hK => ?_)
  refine (goes_ Try.func53 (by kernel_rfl) rfl #[.int .i64 (rd L x), .int .i64 v1] (by rfl) rfl rfl (by (try simp only [List.map_toArray, List.map_cons, List.map_nil]); first | done | rfl) ?_)
  (with_reducible refine (b_dir _ _ _).mono ?_)
  rintro e w5 ⟨rfl, hb⟩
  refine ⟨_, rfl, ?_⟩
  have HB5 := Aside0.mk (b_step hr HB4.out hb)
  have BQ5 := Aside0.mk (blk_below BQ4.out hb)
  have BR5 := Aside0.mk (blk_below BR4.out hb)
  clear hb
  refine hK.out _ _ ((blk_cell BQ5.out 1).trans rfl) (fun hHeld => ?_)
  clear hK K
  refine norm_ (a' := ?_) ?_ ?_
  rotate_left
  · show Act.put _ (some 34) _ = _
    simp only [Act.put, List.setIfInBounds_toArray, List.set_cons_zero, List.set_cons_succ, i64_w, i32_w]
    rfl
  refine pure_ (i := 6) (N := some 35) (v := ?_) (a' := ?_) #[true, true, true, true, true, true, true, false] rfl rfl (by kernel_rfl) (fun _ _ _ h => h) (Or.inl ⟨by rfl, ?_⟩) ?_ ?_
  rotate_left
  · intro w'
    go_simp
    with_reducible rfl
  rotate_left
  · simp only [Act.put, List.setIfInBounds_toArray, List.set_cons_zero, List.set_cons_succ, i64_w, i32_w]
    rfl
  refine last_ (i := 7) (N := none) #[true, true, true, true, true, true, true, true] rfl rfl (by kernel_rfl) (by decide) (fun K hK => ?_)
  have hs := (blk_cell BQ5.out 2).trans rfl
  have hf := blk_frozen BQ5.out 2
  refine skip_ (w1 := w5.setCell ⟨q, 2, none⟩ (.int .i64 (dirF (rd L x) v1))) (by rfl) rfl ?_ ?_
  · first | (go_simp; done) | (go_simp; rfl)
  refine hK.out _ _ ?_
  clear hK K hs hf
  refine done_ (by kernel_rfl) ?_
  have HB6 := Aside0.mk (b_set (j := 2) (v := .int .i64 (dirF (rd L x) v1)) hr HB5.out (Nat.le_of_lt HQR.out))
  have BQ6 := Aside0.mk (blk_put BQ5.out 2 (.int .i64 (dirF (rd L x) v1)) rfl)
  have BR6 := Aside0.mk (blk_far (p := ⟨q, 2, none⟩) BR5.out (Nat.ne_of_lt HQR.out) (.int .i64 (dirF (rd L x) v1)))
  clear HB5 BQ5 BR5 HB4 BQ4 BR4 HB3 BQ3 BR3 HS3
  generalize w5.setCell ⟨q, 2, none⟩ (.int .i64 (dirF (rd L x) v1)) = w6 at HB6 BQ6 BR6 ⊢
  go_wp2_with (first | (go_at_call 54; (with_reducible refine (HN2.out _ HB6.out).mono ?_); rintro e w7 ⟨rfl, hb⟩; have HB7 := Aside0.mk (b_step hr HB6.out hb); have BQ7 := Aside0.mk (blk_below BQ6.out hb); have BR7 := Aside0.mk (blk_below BR6.out hb); clear hb) | (go_at_call 36; (with_reducible refine (HI.out _ HB7.out).mono ?_); rintro e w8 ⟨rfl, hb⟩; have HB8 := Aside0.mk (b_step hr HB7.out hb); have BQ8 := Aside0.mk (blk_below BQ7.out hb); have BR8 := Aside0.mk (blk_below BR7.out hb); clear hb; have l0 := b_cell hr HB8.out HX.out.1; have l1 := b_cell hr HB8.out HX.out.2.1; have l5 := b_cell hr HB8.out HX.out.2.2.1; have ly := b_cell hr HB8.out HX.out.2.2.2.2.1) | (go_at_call 53; (with_reducible refine (b_dir _ _ _).mono ?_); rintro e w9 ⟨rfl, hb⟩; have HB9 := Aside0.mk (b_step hr HB8.out hb); have BQ9 := Aside0.mk (blk_below BQ8.out hb); have BR9 := Aside0.mk (blk_below BR8.out hb); clear hb l0 l1 l5 ly; have q3 := (blk_cell BQ9.out 3).trans rfl; have g3 := blk_frozen BQ9.out 3) | ((with_reducible refine gate_store (t := 3) (p := 68) rfl ?_); refine store_event (t := 3) (p := 68) (v := .tmp 67) (w1 := w9.setCell ⟨q, 3, none⟩ (.int .i64 (dirF (rd L y) v2))) ?hg ?ho ?hn ?hr ?_; (case ho => rfl); (case hg => rfl); (case hn => rfl); (case hr => first | (go_simp; done) | (go_simp; rfl)); intro w10 hw; have HB10 := Aside0.mk (show Below r w w10 by rw [hw]; exact b_set hr HB9.out (Nat.le_of_lt HQR.out)); have bq := (show w10.heap[q]? = some (.cells #[.slice (some aa) at_.length c, .int .i64 (rd L x), .int .i64 (dirF (rd L x) v1), .int .i64 (dirF (rd L y) v2)] 42 (0, 0)) by rw [hw]; exact blk_put BQ9.out 3 (.int .i64 (dirF (rd L y) v2)) rfl); have b0 := (show w10.heap[r]? = some (.cells #[.slice none 0 0, .int .i64 0, .int .i64 0, .int .i64 0] 42 (0, 0)) by rw [hw]; exact blk_far (p := ⟨q, 3, none⟩) BR9.out (Nat.ne_of_lt HQR.out) _); clear hw q3 g3; have q0 := (blk_cell bq 0).trans rfl; have q1 := (blk_cell bq 1).trans rfl; have q2 := (blk_cell bq 2).trans rfl; have q3 := (blk_cell bq 3).trans rfl; have c0 := (blk_cell b0 0).trans rfl; have f0 := blk_frozen b0 0; have b1 := blk_put b0 0 (.slice (some aa) at_.length c) rfl; have c1 := (blk_cell b1 1).trans rfl; have f1 := blk_frozen b1 1; have b2 := blk_put b1 1 (.int .i64 (rd L x)) rfl; have c2 := (blk_cell b2 2).trans rfl; have f2 := blk_frozen b2 2; have b3 := blk_put b2 2 (.int .i64 (dirF (rd L x) v1)) rfl; have c3 := (blk_cell b3 3).trans rfl; have f3 := blk_frozen b3 3; have b4 := blk_put b3 3 (.int .i64 (dirF (rd L y) v2)) rfl; have HBE := Aside0.mk (b_set (j := 3) (v := .int .i64 (dirF (rd L y) v2)) hr (b_set (j := 2) (v := .int .i64 (dirF (rd L x) v1)) hr (b_set (j := 1) (v := .int .i64 (rd L x)) hr (b_set (j := 0) (v := .slice (some aa) at_.length c) hr HB10.out (Nat.le_refl r)) (Nat.le_refl r)) (Nat.le_refl r)) (Nat.le_refl r)); have B4 := Aside0.mk b4; clear bq b0 b1 b2 b3 b4))
  (try simp only [Exit.inBlock, Exit.then])
  refine bodyPost_ret (results_single rfl (Vals.cell r 42 _ (0, 0) _ rfl B4.out Try.underlying42 rfl (by kernel_rfl) .nil)) rfl ?_
  exact ⟨by first | rfl | simp [*], by rw [hr]; exact HBE.out⟩
set_option maxHeartbeats 8000000 in
set_option maxRecDepth 100000 in
theorem p_seq_mid {w : World} {g rb : Nat} {L B M K at_ : List Int} {bs : Int} {f : Int → Option Value} (h : Tx w g rb L B M K bs f) {A : Option Addr} {c : Nat} (hA : Kd.C (Kd.int .i64) w A at_.length at_) (x y z r1 r2 v1 v2 : Int) (hz : wrap64 ((at_.length : Int) - 1) = z) (hz0 : 0 ≤ z) (hz1 : z < (at_.length : Int)) (hx : rd at_ 0 = x) (hy : rd at_ z = y)
    (hx0 : 0 ≤ x) (hx1 : x < (L.length : Int)) (hy0 : 0 ≤ y) (hy1 : y < (L.length : Int)) (hy2 : y < (B.length : Int)) (hy3 : y < (M.length : Int)) (wx : (Lit.int .i64 x).wf = true) (wy : (Lit.int .i64 y).wf = true)
    (hf1 : (f x).getD (.int .i64 0) = .int .i64 r1) (hf2 : (f y).getD (.int .i64 0) = .int .i64 r2) (hv1 : nearF L K bs (wrap64 (r1 + -1)) = some v1) (hv2 : nearF L K bs (wrap64 (r2 + 1)) = some v2) (hi : isoB (rd B y) = true) (hmm : ¬ rd M y = (B.length : Int)) :
    Calls Try.prog 37 #[.pointer (some ⟨g, 0, none⟩), .slice A at_.length c] w fun e w' => e = .returned (.agg #[.slice A at_.length c, .int .i64 (rd L x), .int .i64 (dirF (rd L x) v1), .int .i64 (dirF (rd L y) v2)]) ∧ Below w.heap.size w w' := by
  have HT := Aside0.mk h
  have HA := Aside0.mk hA
  have hl0 : 0 < (at_.length : Int) := by omega
  obtain ⟨aa, e, xa0⟩ := Kd.at_int hA 0 (by omega) hl0
  cases e
  obtain ⟨_, e, xa1⟩ := Kd.at_int hA z hz0 hz1
  cases e
  rw [hx] at xa0
  rw [hy] at xa1
  have HN1 := Aside0.mk (fun (W : World) (hb : Below w.heap.size w W) => b_near (tx_below h hb) x (-1) r1 v1 wx hf1 hv1)
  have HN2 := Aside0.mk (fun (W : World) (hb : Below w.heap.size w W) => b_near (tx_below h hb) y 1 r2 v2 wy hf2 hv2)
  have HI := Aside0.mk (fun (W : World) (hb : Below w.heap.size w W) => (show Calls Try.prog 36 #[.pointer (some ⟨g, 0, none⟩), .int .i64 y] W (fun e w' => e = .returned (.tuple #[.int .i64 (rd M y), .bool true]) ∧ Below W.heap.size W w') from by
    have h1 := b_iso (tx_below h hb) y hy0 hy2 hy3
    rw [hi] at h1
    simpa using h1))
  have m0 : (rd M y == (B.length : Int)) = false := beq_eq_false_iff_ne.mpr hmm
  clear hmm
  obtain ⟨Al, cl, Ab, cb, Am, cm, Ak, ck, n, hG, hl, hb, hm, hk, hM⟩ := h
  have k0 := (blk_cell hG 0).trans rfl
  have k1 := (blk_cell hG 1).trans rfl
  have k5 := (blk_cell hG 5).trans rfl
  obtain ⟨al, e, xl⟩ := Kd.at_int hl.2 x hx0 hx1
  cases e
  obtain ⟨_, e, yl⟩ := Kd.at_int hl.2 y hy0 hy1
  cases e
  have HX := Aside0.mk (show w.cell? ⟨g, 0, none⟩ = some (.slice (some al) L.length cl) ∧ w.cell? ⟨g, 1, none⟩ = some (.slice Ab B.length cb) ∧ w.cell? ⟨g, 5, none⟩ = some (.int .i64 bs) ∧ w.cell? (al.add x.toNat) = some (.int .i64 (rd L x)) ∧ w.cell? (al.add y.toNat) = some (.int .i64 (rd L y)) ∧ w.cell? aa = some (.int .i64 x) ∧ w.cell? (aa.add z.toNat) = some (.int .i64 y) from ⟨k0, k1, k5, xl, yl, (congrArg w.cell? (add0 aa)).symm.trans xa0, xa1⟩)
  clear hl hb hm hk hM hG k0 k1 k5 xl yl xa0 xa1 hA
  have hzw : IntKind.i64.wrap ((at_.length : Int) - 1) = z := (i64_w _).trans hz
  have d0 : decide (0 < (at_.length : Int)) = true := decide_eq_true hl0
  have d1 : decide (0 ≤ z) = true := decide_eq_true hz0
  have d2 : decide (z < (at_.length : Int)) = true := decide_eq_true hz1
  have d3 : decide (0 ≤ x) = true := decide_eq_true hx0
  have d4 : decide (x < (L.length : Int)) = true := decide_eq_true hx1
  have d5 : decide (0 ≤ y) = true := decide_eq_true hy0
  have d6 : decide (y < (L.length : Int)) = true := decide_eq_true hy1
  have hl1 : (0 < at_.length) = True := eq_true (by omega)
  replace hl0 := eq_true hl0
  replace hz0 := eq_true hz0
  replace hz1 := eq_true hz1
  replace hx0 := eq_true hx0
  replace hx1 := eq_true hx1
  replace hy0 := eq_true hy0
  replace hy1 := eq_true hy1
  clear hz hx hy hf1 hf2 hv1 hv2 wx wy hy2 hy3
  go_enter Try.func37, Try.ntmps37
  go_wp2
  have HB1 := Aside0.mk (below_alloc (Below.refl w.heap.size w) (.cells #[.slice none 0 0, .int .i64 0, .int .i64 0, .int .i64 0] 42))
  have BR := Aside0.mk (blk_new w (.cells #[.slice none 0 0, .int .i64 0, .int .i64 0, .int .i64 0] 42))
  have hq0 : (w.alloc (.cells #[.slice none 0 0, .int .i64 0, .int .i64 0, .int .i64 0] 42)).cell? aa = some (.int .i64 x) := (HB1.out.cell (World.block_lt_of_cell? w _ HX.out.2.2.2.2.2.1)).trans HX.out.2.2.2.2.2.1
  have hq1 : (w.alloc (.cells #[.slice none 0 0, .int .i64 0, .int .i64 0, .int .i64 0] 42)).cell? (aa.add z.toNat) = some (.int .i64 y) := (HB1.out.cell (World.block_lt_of_cell? w _ HX.out.2.2.2.2.2.2)).trans HX.out.2.2.2.2.2.2
  generalize hr : w.heap.size = r at HB1 BR HN1 HN2 HI ⊢
  generalize hw1 : w.alloc (.cells #[.slice none 0 0, .int .i64 0, .int .i64 0, .int .i64 0] 42) = w1 at HB1 BR hq0 hq1 ⊢
  go_quiet (first | done)
  have HB2 := Aside0.mk (show Below r w (w1.drewN nq) from pw_below_drewN HB1.out nq)
  have BR2 := Aside0.mk (blk_below BR.out (pw_below_drewN (Below.refl _ w1) nq))
  clear hq0 hq1 hw1 HB1 BR
  generalize w1.drewN nq = w2 at HB2 BR2 ⊢
  have l0 := (HB2.out.cell (hr ▸ World.block_lt_of_cell? w _ HX.out.1)).trans HX.out.1
  have l1 := (HB2.out.cell (hr ▸ World.block_lt_of_cell? w _ HX.out.2.2.2.1)).trans HX.out.2.2.2.1
  go_wp2
  have HB3 := Aside0.mk (b_step hr HB2.out (below_alloc (Below.refl _ w2) (.cells #[.slice (some aa) at_.length c, .int .i64 (rd L x), .int .i64 0, .int .i64 0] 42)))
  have BQ3 := Aside0.mk (blk_new w2 (.cells #[.slice (some aa) at_.length c, .int .i64 (rd L x), .int .i64 0, .int .i64 0] 42))
  have BR3 := Aside0.mk (blk_alloc BR2.out (.cells #[.slice (some aa) at_.length c, .int .i64 (rd L x), .int .i64 0, .int .i64 0] 42))
  have HQR := Aside0.mk (show r < w2.heap.size from blk_lt BR2.out)
  clear HB2 BR2 l0 l1
  generalize hq : w2.heap.size = q at BQ3 HQR ⊢
  generalize hw3 : w2.alloc (.cells #[.slice (some aa) at_.length c, .int .i64 (rd L x), .int .i64 0, .int .i64 0] 42) = w3 at BQ3 BR3 HB3 ⊢
  clear hw3 hq
  replace HB3 := Aside0.mk (below_drew1 HB3.out)
  replace BQ3 := Aside0.mk (blk_below BQ3.out (below_drew (Below.refl _ _)))
  replace BR3 := Aside0.mk (blk_below BR3.out (below_drew (Below.refl _ _)))
  have HS3 := Aside0.mk (show w3.drew.cell? ⟨q, 1, none⟩ = some (.int .i64 (rd L x)) from (blk_cell BQ3.out 1).trans rfl)
  refine start_ (n := 8) (S := fun w' => w'.cell? ⟨q, 1, none⟩ = some (.int .i64 (rd L x))) (ds := [7]) #[false, false, false, false, false, false, false, false] (by kernel_rfl) rfl rfl HS3.out (fun hHeld => ?_)
  generalize w3.drew = w3d at HB3 BQ3 BR3 HS3 hHeld ⊢
  refine pure_ (i := 0) (N := some 29) (v := ?_) (a' := ?_) #[true, false, false, false, false, false, false, false] rfl rfl (by kernel_rfl) (fun _ _ _ h => h) (Or.inl ⟨by rfl, ?_⟩) ?_ ?_
  rotate_left
  · intro w'
    go_simp
    with_reducible rfl
  rotate_left
  · simp only [Act.put, List.setIfInBounds_toArray, List.set_cons_zero, List.set_cons_succ, i64_w, i32_w]
    rfl
  refine take_ (i := 1) (N := some 30) (v := ?_) (a' := ?_) #[true, true, false, false, false, false, false, false] rfl rfl (by kernel_rfl) (fun _ _ _ h => h) (Or.inl ⟨by rfl, ?_⟩) hHeld ?_ ?_
  rotate_left
  · rintro w' s0
    go_simp
    with_reducible rfl
  rotate_left
  · simp only [Act.put, List.setIfInBounds_toArray, List.set_cons_zero, List.set_cons_succ, i64_w, i32_w]
    rfl
  refine pure_ (i := 2) (N := some 31) (v := ?_) (a' := ?_) #[true, true, true, false, false, false, false, false] rfl rfl (by kernel_rfl) (fun _ _ _ h => h) (Or.inl ⟨by rfl, ?_⟩) ?_ ?_
  rotate_left
  · intro w'
    go_simp
    with_reducible rfl
  rotate_left
  · simp only [Act.put, List.setIfInBounds_toArray, List.set_cons_zero, List.set_cons_succ, i64_w, i32_w]
    rfl
  refine pure_ (i := 3) (N := some 32) (v := ?_) (a' := ?_) #[true, true, true, true, false, false, false, false] rfl rfl (by kernel_rfl) (fun _ _ _ h => h) (Or.inl ⟨by rfl, ?_⟩) ?_ ?_
  rotate_left
  · intro w'
    go_simp
    with_reducible rfl
  rotate_left
  · simp only [Act.put, List.setIfInBounds_toArray, List.set_cons_zero, List.set_cons_succ, i64_w, i32_w]
    rfl
  refine one_ (i := 4) (N := some 33) #[true, true, true, true, true, false, false, false] rfl rfl (by kernel_rfl) (by decide) (fun K hK => ?_)
  refine (goes_ Try.func54 (by kernel_rfl) rfl #[.pointer (some ⟨g, 0, none⟩), .int .i64 x, .int .i64 (-1)] (by rfl) rfl rfl (by (try simp only [List.map_toArray, List.map_cons, List.map_nil]); first | done | rfl) ?_)
  (with_reducible refine (HN1.out _ HB3.out).mono ?_)
  rintro e w4 ⟨rfl, hb⟩
  refine ⟨_, rfl, ?_⟩
  have HB4 := Aside0.mk (b_step hr HB3.out hb)
  have BQ4 := Aside0.mk (blk_below BQ3.out hb)
  have BR4 := Aside0.mk (blk_below BR3.out hb)
  clear hb
  refine hK.out _ _ ((blk_cell BQ4.out 1).trans rfl) (fun hHeld => ?_)
  clear hK K
  refine norm_ (a' := ?_) ?_ ?_
  rotate_left
  · show Act.put _ (some 33) _ = _
    simp only [Act.put, List.setIfInBounds_toArray, List.set_cons_zero, List.set_cons_succ, i64_w, i32_w]
    rfl
  refine one_ (i := 5) (N := some 34) #[true, true, true, true, true, true, false, false] rfl rfl (by kernel_rfl) (by decide) (fun K hK => ?_)
  refine (goes_ Try.func53 (by kernel_rfl) rfl #[.int .i64 (rd L x), .int .i64 v1] (by rfl) rfl rfl (by (try simp only [List.map_toArray, List.map_cons, List.map_nil]); first | done | rfl) ?_)
  (with_reducible refine (b_dir _ _ _).mono ?_)
  rintro e w5 ⟨rfl, hb⟩
  refine ⟨_, rfl, ?_⟩
  have HB5 := Aside0.mk (b_step hr HB4.out hb)
  have BQ5 := Aside0.mk (blk_below BQ4.out hb)
  have BR5 := Aside0.mk (blk_below BR4.out hb)
  clear hb
  refine hK.out _ _ ((blk_cell BQ5.out 1).trans rfl) (fun hHeld => ?_)
  clear hK K
  refine norm_ (a' := ?_) ?_ ?_
  rotate_left
  · show Act.put _ (some 34) _ = _
    simp only [Act.put, List.setIfInBounds_toArray, List.set_cons_zero, List.set_cons_succ, i64_w, i32_w]
    rfl
  refine pure_ (i := 6) (N := some 35) (v := ?_) (a' := ?_) #[true, true, true, true, true, true, true, false] rfl rfl (by kernel_rfl) (fun _ _ _ h => h) (Or.inl ⟨by rfl, ?_⟩) ?_ ?_
  rotate_left
  · intro w'
    go_simp
    with_reducible rfl
  rotate_left
  · simp only [Act.put, List.setIfInBounds_toArray, List.set_cons_zero, List.set_cons_succ, i64_w, i32_w]
    rfl
  refine last_ (i := 7) (N := none) #[true, true, true, true, true, true, true, true] rfl rfl (by kernel_rfl) (by decide) (fun K hK => ?_)
  have hs := (blk_cell BQ5.out 2).trans rfl
  have hf := blk_frozen BQ5.out 2
  refine skip_ (w1 := w5.setCell ⟨q, 2, none⟩ (.int .i64 (dirF (rd L x) v1))) (by rfl) rfl ?_ ?_
  · first | (go_simp; done) | (go_simp; rfl)
  refine hK.out _ _ ?_
  clear hK K hs hf
  refine done_ (by kernel_rfl) ?_
  have HB6 := Aside0.mk (b_set (j := 2) (v := .int .i64 (dirF (rd L x) v1)) hr HB5.out (Nat.le_of_lt HQR.out))
  have BQ6 := Aside0.mk (blk_put BQ5.out 2 (.int .i64 (dirF (rd L x) v1)) rfl)
  have BR6 := Aside0.mk (blk_far (p := ⟨q, 2, none⟩) BR5.out (Nat.ne_of_lt HQR.out) (.int .i64 (dirF (rd L x) v1)))
  clear HB5 BQ5 BR5 HB4 BQ4 BR4 HB3 BQ3 BR3 HS3
  generalize w5.setCell ⟨q, 2, none⟩ (.int .i64 (dirF (rd L x) v1)) = w6 at HB6 BQ6 BR6 ⊢
  go_wp2_with (first | (go_at_call 54; (with_reducible refine (HN2.out _ HB6.out).mono ?_); rintro e w7 ⟨rfl, hb⟩; have HB7 := Aside0.mk (b_step hr HB6.out hb); have BQ7 := Aside0.mk (blk_below BQ6.out hb); have BR7 := Aside0.mk (blk_below BR6.out hb); clear hb) | (go_at_call 36; (with_reducible refine (HI.out _ HB7.out).mono ?_); rintro e w8 ⟨rfl, hb⟩; have HB8 := Aside0.mk (b_step hr HB7.out hb); have BQ8 := Aside0.mk (blk_below BQ7.out hb); have BR8 := Aside0.mk (blk_below BR7.out hb); clear hb; have l0 := b_cell hr HB8.out HX.out.1; have l1 := b_cell hr HB8.out HX.out.2.1; have l5 := b_cell hr HB8.out HX.out.2.2.1; have ly := b_cell hr HB8.out HX.out.2.2.2.2.1) | (go_at_call 53; (with_reducible refine (b_dir _ _ _).mono ?_); rintro e w9 ⟨rfl, hb⟩; have HB9 := Aside0.mk (b_step hr HB8.out hb); have BQ9 := Aside0.mk (blk_below BQ8.out hb); have BR9 := Aside0.mk (blk_below BR8.out hb); clear hb l0 l1 l5 ly; have q3 := (blk_cell BQ9.out 3).trans rfl; have g3 := blk_frozen BQ9.out 3) | ((with_reducible refine gate_store (t := 3) (p := 68) rfl ?_); refine store_event (t := 3) (p := 68) (v := .tmp 67) (w1 := w9.setCell ⟨q, 3, none⟩ (.int .i64 (dirF (rd L y) v2))) ?hg ?ho ?hn ?hr ?_; (case ho => rfl); (case hg => rfl); (case hn => rfl); (case hr => first | (go_simp; done) | (go_simp; rfl)); intro w10 hw; have HB10 := Aside0.mk (show Below r w w10 by rw [hw]; exact b_set hr HB9.out (Nat.le_of_lt HQR.out)); have bq := (show w10.heap[q]? = some (.cells #[.slice (some aa) at_.length c, .int .i64 (rd L x), .int .i64 (dirF (rd L x) v1), .int .i64 (dirF (rd L y) v2)] 42 (0, 0)) by rw [hw]; exact blk_put BQ9.out 3 (.int .i64 (dirF (rd L y) v2)) rfl); have b0 := (show w10.heap[r]? = some (.cells #[.slice none 0 0, .int .i64 0, .int .i64 0, .int .i64 0] 42 (0, 0)) by rw [hw]; exact blk_far (p := ⟨q, 3, none⟩) BR9.out (Nat.ne_of_lt HQR.out) _); clear hw q3 g3; have q0 := (blk_cell bq 0).trans rfl; have q1 := (blk_cell bq 1).trans rfl; have q2 := (blk_cell bq 2).trans rfl; have q3 := (blk_cell bq 3).trans rfl; have c0 := (blk_cell b0 0).trans rfl; have f0 := blk_frozen b0 0; have b1 := blk_put b0 0 (.slice (some aa) at_.length c) rfl; have c1 := (blk_cell b1 1).trans rfl; have f1 := blk_frozen b1 1; have b2 := blk_put b1 1 (.int .i64 (rd L x)) rfl; have c2 := (blk_cell b2 2).trans rfl; have f2 := blk_frozen b2 2; have b3 := blk_put b2 2 (.int .i64 (dirF (rd L x) v1)) rfl; have c3 := (blk_cell b3 3).trans rfl; have f3 := blk_frozen b3 3; have b4 := blk_put b3 3 (.int .i64 (dirF (rd L y) v2)) rfl; have HBE := Aside0.mk (b_set (j := 3) (v := .int .i64 (dirF (rd L y) v2)) hr (b_set (j := 2) (v := .int .i64 (dirF (rd L x) v1)) hr (b_set (j := 1) (v := .int .i64 (rd L x)) hr (b_set (j := 0) (v := .slice (some aa) at_.length c) hr HB10.out (Nat.le_refl r)) (Nat.le_refl r)) (Nat.le_refl r)) (Nat.le_refl r)); have B4 := Aside0.mk b4; clear bq b0 b1 b2 b3 b4))
  (try simp only [Exit.inBlock, Exit.then])
  refine bodyPost_ret (results_single rfl (Vals.cell r 42 _ (0, 0) _ rfl B4.out Try.underlying42 rfl (by kernel_rfl) .nil)) rfl ?_
  exact ⟨by first | rfl | simp [*], by rw [hr]; exact HBE.out⟩
set_option maxHeartbeats 8000000 in
set_option maxRecDepth 100000 in
theorem p_seq_end {w : World} {g rb : Nat} {L B M K at_ : List Int} {bs : Int} {f : Int → Option Value} (h : Tx w g rb L B M K bs f) {A : Option Addr} {c : Nat} (hA : Kd.C (Kd.int .i64) w A at_.length at_) (x y z r1 r2 v1 v2 : Int) (hz : wrap64 ((at_.length : Int) - 1) = z) (hz0 : 0 ≤ z) (hz1 : z < (at_.length : Int)) (hx : rd at_ 0 = x) (hy : rd at_ z = y)
    (hx0 : 0 ≤ x) (hx1 : x < (L.length : Int)) (hy0 : 0 ≤ y) (hy1 : y < (L.length : Int)) (hy2 : y < (B.length : Int)) (hy3 : y < (M.length : Int)) (wx : (Lit.int .i64 x).wf = true) (wy : (Lit.int .i64 y).wf = true)
    (hf1 : (f x).getD (.int .i64 0) = .int .i64 r1) (hf2 : (f y).getD (.int .i64 0) = .int .i64 r2) (hv1 : nearF L K bs (wrap64 (r1 + -1)) = some v1) (hv2 : nearF L K bs (wrap64 (r2 + 1)) = some v2) (hi : isoB (rd B y) = true) (hmm : rd M y = (B.length : Int)) :
    Calls Try.prog 37 #[.pointer (some ⟨g, 0, none⟩), .slice A at_.length c] w fun e w' => e = .returned (.agg #[.slice A at_.length c, .int .i64 (rd L x), .int .i64 (dirF (rd L x) v1), .int .i64 (dirF (rd L y) bs)]) ∧ Below w.heap.size w w' := by
  have HT := Aside0.mk h
  have HA := Aside0.mk hA
  have hl0 : 0 < (at_.length : Int) := by omega
  obtain ⟨aa, e, xa0⟩ := Kd.at_int hA 0 (by omega) hl0
  cases e
  obtain ⟨_, e, xa1⟩ := Kd.at_int hA z hz0 hz1
  cases e
  rw [hx] at xa0
  rw [hy] at xa1
  have HN1 := Aside0.mk (fun (W : World) (hb : Below w.heap.size w W) => b_near (tx_below h hb) x (-1) r1 v1 wx hf1 hv1)
  have HN2 := Aside0.mk (fun (W : World) (hb : Below w.heap.size w W) => b_near (tx_below h hb) y 1 r2 v2 wy hf2 hv2)
  have HI := Aside0.mk (fun (W : World) (hb : Below w.heap.size w W) => (show Calls Try.prog 36 #[.pointer (some ⟨g, 0, none⟩), .int .i64 y] W (fun e w' => e = .returned (.tuple #[.int .i64 (rd M y), .bool true]) ∧ Below W.heap.size W w') from by
    have h1 := b_iso (tx_below h hb) y hy0 hy2 hy3
    rw [hi] at h1
    simpa using h1))
  have m0 : (rd M y == (B.length : Int)) = true := beq_iff_eq.mpr hmm
  clear hmm
  obtain ⟨Al, cl, Ab, cb, Am, cm, Ak, ck, n, hG, hl, hb, hm, hk, hM⟩ := h
  have k0 := (blk_cell hG 0).trans rfl
  have k1 := (blk_cell hG 1).trans rfl
  have k5 := (blk_cell hG 5).trans rfl
  obtain ⟨al, e, xl⟩ := Kd.at_int hl.2 x hx0 hx1
  cases e
  obtain ⟨_, e, yl⟩ := Kd.at_int hl.2 y hy0 hy1
  cases e
  have HX := Aside0.mk (show w.cell? ⟨g, 0, none⟩ = some (.slice (some al) L.length cl) ∧ w.cell? ⟨g, 1, none⟩ = some (.slice Ab B.length cb) ∧ w.cell? ⟨g, 5, none⟩ = some (.int .i64 bs) ∧ w.cell? (al.add x.toNat) = some (.int .i64 (rd L x)) ∧ w.cell? (al.add y.toNat) = some (.int .i64 (rd L y)) ∧ w.cell? aa = some (.int .i64 x) ∧ w.cell? (aa.add z.toNat) = some (.int .i64 y) from ⟨k0, k1, k5, xl, yl, (congrArg w.cell? (add0 aa)).symm.trans xa0, xa1⟩)
  clear hl hb hm hk hM hG k0 k1 k5 xl yl xa0 xa1 hA
  have hzw : IntKind.i64.wrap ((at_.length : Int) - 1) = z := (i64_w _).trans hz
  have d0 : decide (0 < (at_.length : Int)) = true := decide_eq_true hl0
  have d1 : decide (0 ≤ z) = true := decide_eq_true hz0
  have d2 : decide (z < (at_.length : Int)) = true := decide_eq_true hz1
  have d3 : decide (0 ≤ x) = true := decide_eq_true hx0
  have d4 : decide (x < (L.length : Int)) = true := decide_eq_true hx1
  have d5 : decide (0 ≤ y) = true := decide_eq_true hy0
  have d6 : decide (y < (L.length : Int)) = true := decide_eq_true hy1
  have hl1 : (0 < at_.length) = True := eq_true (by omega)
  replace hl0 := eq_true hl0
  replace hz0 := eq_true hz0
  replace hz1 := eq_true hz1
  replace hx0 := eq_true hx0
  replace hx1 := eq_true hx1
  replace hy0 := eq_true hy0
  replace hy1 := eq_true hy1
  clear hz hx hy hf1 hf2 hv1 hv2 wx wy hy2 hy3
  go_enter Try.func37, Try.ntmps37
  go_wp2
  have HB1 := Aside0.mk (below_alloc (Below.refl w.heap.size w) (.cells #[.slice none 0 0, .int .i64 0, .int .i64 0, .int .i64 0] 42))
  have BR := Aside0.mk (blk_new w (.cells #[.slice none 0 0, .int .i64 0, .int .i64 0, .int .i64 0] 42))
  have hq0 : (w.alloc (.cells #[.slice none 0 0, .int .i64 0, .int .i64 0, .int .i64 0] 42)).cell? aa = some (.int .i64 x) := (HB1.out.cell (World.block_lt_of_cell? w _ HX.out.2.2.2.2.2.1)).trans HX.out.2.2.2.2.2.1
  have hq1 : (w.alloc (.cells #[.slice none 0 0, .int .i64 0, .int .i64 0, .int .i64 0] 42)).cell? (aa.add z.toNat) = some (.int .i64 y) := (HB1.out.cell (World.block_lt_of_cell? w _ HX.out.2.2.2.2.2.2)).trans HX.out.2.2.2.2.2.2
  generalize hr : w.heap.size = r at HB1 BR HN1 HN2 HI ⊢
  generalize hw1 : w.alloc (.cells #[.slice none 0 0, .int .i64 0, .int .i64 0, .int .i64 0] 42) = w1 at HB1 BR hq0 hq1 ⊢
  go_quiet (first | done)
  have HB2 := Aside0.mk (show Below r w (w1.drewN nq) from pw_below_drewN HB1.out nq)
  have BR2 := Aside0.mk (blk_below BR.out (pw_below_drewN (Below.refl _ w1) nq))
  clear hq0 hq1 hw1 HB1 BR
  generalize w1.drewN nq = w2 at HB2 BR2 ⊢
  have l0 := (HB2.out.cell (hr ▸ World.block_lt_of_cell? w _ HX.out.1)).trans HX.out.1
  have l1 := (HB2.out.cell (hr ▸ World.block_lt_of_cell? w _ HX.out.2.2.2.1)).trans HX.out.2.2.2.1
  go_wp2
  have HB3 := Aside0.mk (b_step hr HB2.out (below_alloc (Below.refl _ w2) (.cells #[.slice (some aa) at_.length c, .int .i64 (rd L x), .int .i64 0, .int .i64 0] 42)))
  have BQ3 := Aside0.mk (blk_new w2 (.cells #[.slice (some aa) at_.length c, .int .i64 (rd L x), .int .i64 0, .int .i64 0] 42))
  have BR3 := Aside0.mk (blk_alloc BR2.out (.cells #[.slice (some aa) at_.length c, .int .i64 (rd L x), .int .i64 0, .int .i64 0] 42))
  have HQR := Aside0.mk (show r < w2.heap.size from blk_lt BR2.out)
  clear HB2 BR2 l0 l1
  generalize hq : w2.heap.size = q at BQ3 HQR ⊢
  generalize hw3 : w2.alloc (.cells #[.slice (some aa) at_.length c, .int .i64 (rd L x), .int .i64 0, .int .i64 0] 42) = w3 at BQ3 BR3 HB3 ⊢
  clear hw3 hq
  replace HB3 := Aside0.mk (below_drew1 HB3.out)
  replace BQ3 := Aside0.mk (blk_below BQ3.out (below_drew (Below.refl _ _)))
  replace BR3 := Aside0.mk (blk_below BR3.out (below_drew (Below.refl _ _)))
  have HS3 := Aside0.mk (show w3.drew.cell? ⟨q, 1, none⟩ = some (.int .i64 (rd L x)) from (blk_cell BQ3.out 1).trans rfl)
  refine start_ (n := 8) (S := fun w' => w'.cell? ⟨q, 1, none⟩ = some (.int .i64 (rd L x))) (ds := [7]) #[false, false, false, false, false, false, false, false] (by kernel_rfl) rfl rfl HS3.out (fun hHeld => ?_)
  generalize w3.drew = w3d at HB3 BQ3 BR3 HS3 hHeld ⊢
  refine pure_ (i := 0) (N := some 29) (v := ?_) (a' := ?_) #[true, false, false, false, false, false, false, false] rfl rfl (by kernel_rfl) (fun _ _ _ h => h) (Or.inl ⟨by rfl, ?_⟩) ?_ ?_
  rotate_left
  · intro w'
    go_simp
    with_reducible rfl
  rotate_left
  · simp only [Act.put, List.setIfInBounds_toArray, List.set_cons_zero, List.set_cons_succ, i64_w, i32_w]
    rfl
  refine take_ (i := 1) (N := some 30) (v := ?_) (a' := ?_) #[true, true, false, false, false, false, false, false] rfl rfl (by kernel_rfl) (fun _ _ _ h => h) (Or.inl ⟨by rfl, ?_⟩) hHeld ?_ ?_
  rotate_left
  · rintro w' s0
    go_simp
    with_reducible rfl
  rotate_left
  · simp only [Act.put, List.setIfInBounds_toArray, List.set_cons_zero, List.set_cons_succ, i64_w, i32_w]
    rfl
  refine pure_ (i := 2) (N := some 31) (v := ?_) (a' := ?_) #[true, true, true, false, false, false, false, false] rfl rfl (by kernel_rfl) (fun _ _ _ h => h) (Or.inl ⟨by rfl, ?_⟩) ?_ ?_
  rotate_left
  · intro w'
    go_simp
    with_reducible rfl
  rotate_left
  · simp only [Act.put, List.setIfInBounds_toArray, List.set_cons_zero, List.set_cons_succ, i64_w, i32_w]
    rfl
  refine pure_ (i := 3) (N := some 32) (v := ?_) (a' := ?_) #[true, true, true, true, false, false, false, false] rfl rfl (by kernel_rfl) (fun _ _ _ h => h) (Or.inl ⟨by rfl, ?_⟩) ?_ ?_
  rotate_left
  · intro w'
    go_simp
    with_reducible rfl
  rotate_left
  · simp only [Act.put, List.setIfInBounds_toArray, List.set_cons_zero, List.set_cons_succ, i64_w, i32_w]
    rfl
  refine one_ (i := 4) (N := some 33) #[true, true, true, true, true, false, false, false] rfl rfl (by kernel_rfl) (by decide) (fun K hK => ?_)
  refine (goes_ Try.func54 (by kernel_rfl) rfl #[.pointer (some ⟨g, 0, none⟩), .int .i64 x, .int .i64 (-1)] (by rfl) rfl rfl (by (try simp only [List.map_toArray, List.map_cons, List.map_nil]); first | done | rfl) ?_)
  (with_reducible refine (HN1.out _ HB3.out).mono ?_)
  rintro e w4 ⟨rfl, hb⟩
  refine ⟨_, rfl, ?_⟩
  have HB4 := Aside0.mk (b_step hr HB3.out hb)
  have BQ4 := Aside0.mk (blk_below BQ3.out hb)
  have BR4 := Aside0.mk (blk_below BR3.out hb)
  clear hb
  refine hK.out _ _ ((blk_cell BQ4.out 1).trans rfl) (fun hHeld => ?_)
  clear hK K
  refine norm_ (a' := ?_) ?_ ?_
  rotate_left
  · show Act.put _ (some 33) _ = _
    simp only [Act.put, List.setIfInBounds_toArray, List.set_cons_zero, List.set_cons_succ, i64_w, i32_w]
    rfl
  refine one_ (i := 5) (N := some 34) #[true, true, true, true, true, true, false, false] rfl rfl (by kernel_rfl) (by decide) (fun K hK => ?_)
  refine (goes_ Try.func53 (by kernel_rfl) rfl #[.int .i64 (rd L x), .int .i64 v1] (by rfl) rfl rfl (by (try simp only [List.map_toArray, List.map_cons, List.map_nil]); first | done | rfl) ?_)
  (with_reducible refine (b_dir _ _ _).mono ?_)
  rintro e w5 ⟨rfl, hb⟩
  refine ⟨_, rfl, ?_⟩
  have HB5 := Aside0.mk (b_step hr HB4.out hb)
  have BQ5 := Aside0.mk (blk_below BQ4.out hb)
  have BR5 := Aside0.mk (blk_below BR4.out hb)
  clear hb
  refine hK.out _ _ ((blk_cell BQ5.out 1).trans rfl) (fun hHeld => ?_)
  clear hK K
  refine norm_ (a' := ?_) ?_ ?_
  rotate_left
  · show Act.put _ (some 34) _ = _
    simp only [Act.put, List.setIfInBounds_toArray, List.set_cons_zero, List.set_cons_succ, i64_w, i32_w]
    rfl
  refine pure_ (i := 6) (N := some 35) (v := ?_) (a' := ?_) #[true, true, true, true, true, true, true, false] rfl rfl (by kernel_rfl) (fun _ _ _ h => h) (Or.inl ⟨by rfl, ?_⟩) ?_ ?_
  rotate_left
  · intro w'
    go_simp
    with_reducible rfl
  rotate_left
  · simp only [Act.put, List.setIfInBounds_toArray, List.set_cons_zero, List.set_cons_succ, i64_w, i32_w]
    rfl
  refine last_ (i := 7) (N := none) #[true, true, true, true, true, true, true, true] rfl rfl (by kernel_rfl) (by decide) (fun K hK => ?_)
  have hs := (blk_cell BQ5.out 2).trans rfl
  have hf := blk_frozen BQ5.out 2
  refine skip_ (w1 := w5.setCell ⟨q, 2, none⟩ (.int .i64 (dirF (rd L x) v1))) (by rfl) rfl ?_ ?_
  · first | (go_simp; done) | (go_simp; rfl)
  refine hK.out _ _ ?_
  clear hK K hs hf
  refine done_ (by kernel_rfl) ?_
  have HB6 := Aside0.mk (b_set (j := 2) (v := .int .i64 (dirF (rd L x) v1)) hr HB5.out (Nat.le_of_lt HQR.out))
  have BQ6 := Aside0.mk (blk_put BQ5.out 2 (.int .i64 (dirF (rd L x) v1)) rfl)
  have BR6 := Aside0.mk (blk_far (p := ⟨q, 2, none⟩) BR5.out (Nat.ne_of_lt HQR.out) (.int .i64 (dirF (rd L x) v1)))
  clear HB5 BQ5 BR5 HB4 BQ4 BR4 HB3 BQ3 BR3 HS3
  generalize w5.setCell ⟨q, 2, none⟩ (.int .i64 (dirF (rd L x) v1)) = w6 at HB6 BQ6 BR6 ⊢
  go_wp2_with (first | (go_at_call 54; (with_reducible refine (HN2.out _ HB6.out).mono ?_); rintro e w7 ⟨rfl, hb⟩; have HB7 := Aside0.mk (b_step hr HB6.out hb); have BQ7 := Aside0.mk (blk_below BQ6.out hb); have BR7 := Aside0.mk (blk_below BR6.out hb); clear hb) | (go_at_call 36; (with_reducible refine (HI.out _ HB7.out).mono ?_); rintro e w8 ⟨rfl, hb⟩; have HB8 := Aside0.mk (b_step hr HB7.out hb); have BQ8 := Aside0.mk (blk_below BQ7.out hb); have BR8 := Aside0.mk (blk_below BR7.out hb); clear hb; have l0 := b_cell hr HB8.out HX.out.1; have l1 := b_cell hr HB8.out HX.out.2.1; have l5 := b_cell hr HB8.out HX.out.2.2.1; have ly := b_cell hr HB8.out HX.out.2.2.2.2.1) | (go_at_call 53; (with_reducible refine (b_dir _ _ _).mono ?_); rintro e w9 ⟨rfl, hb⟩; have HB9 := Aside0.mk (b_step hr HB8.out hb); have BQ9 := Aside0.mk (blk_below BQ8.out hb); have BR9 := Aside0.mk (blk_below BR8.out hb); clear hb l0 l1 l5 ly; have q3 := (blk_cell BQ9.out 3).trans rfl; have g3 := blk_frozen BQ9.out 3) | ((with_reducible refine gate_store (t := 3) (p := 68) rfl ?_); refine store_event (t := 3) (p := 68) (v := .tmp 67) (w1 := w9.setCell ⟨q, 3, none⟩ (.int .i64 (dirF (rd L y) bs))) ?hg ?ho ?hn ?hr ?_; (case ho => rfl); (case hg => rfl); (case hn => rfl); (case hr => first | (go_simp; done) | (go_simp; rfl)); intro w10 hw; have HB10 := Aside0.mk (show Below r w w10 by rw [hw]; exact b_set hr HB9.out (Nat.le_of_lt HQR.out)); have bq := (show w10.heap[q]? = some (.cells #[.slice (some aa) at_.length c, .int .i64 (rd L x), .int .i64 (dirF (rd L x) v1), .int .i64 (dirF (rd L y) bs)] 42 (0, 0)) by rw [hw]; exact blk_put BQ9.out 3 (.int .i64 (dirF (rd L y) bs)) rfl); have b0 := (show w10.heap[r]? = some (.cells #[.slice none 0 0, .int .i64 0, .int .i64 0, .int .i64 0] 42 (0, 0)) by rw [hw]; exact blk_far (p := ⟨q, 3, none⟩) BR9.out (Nat.ne_of_lt HQR.out) _); clear hw q3 g3; have q0 := (blk_cell bq 0).trans rfl; have q1 := (blk_cell bq 1).trans rfl; have q2 := (blk_cell bq 2).trans rfl; have q3 := (blk_cell bq 3).trans rfl; have c0 := (blk_cell b0 0).trans rfl; have f0 := blk_frozen b0 0; have b1 := blk_put b0 0 (.slice (some aa) at_.length c) rfl; have c1 := (blk_cell b1 1).trans rfl; have f1 := blk_frozen b1 1; have b2 := blk_put b1 1 (.int .i64 (rd L x)) rfl; have c2 := (blk_cell b2 2).trans rfl; have f2 := blk_frozen b2 2; have b3 := blk_put b2 2 (.int .i64 (dirF (rd L x) v1)) rfl; have c3 := (blk_cell b3 3).trans rfl; have f3 := blk_frozen b3 3; have b4 := blk_put b3 3 (.int .i64 (dirF (rd L y) bs)) rfl; have HBE := Aside0.mk (b_set (j := 3) (v := .int .i64 (dirF (rd L y) bs)) hr (b_set (j := 2) (v := .int .i64 (dirF (rd L x) v1)) hr (b_set (j := 1) (v := .int .i64 (rd L x)) hr (b_set (j := 0) (v := .slice (some aa) at_.length c) hr HB10.out (Nat.le_refl r)) (Nat.le_refl r)) (Nat.le_refl r)) (Nat.le_refl r)); have B4 := Aside0.mk b4; clear bq b0 b1 b2 b3 b4))
  (try simp only [Exit.inBlock, Exit.then])
  refine bodyPost_ret (results_single rfl (Vals.cell r 42 _ (0, 0) _ rfl B4.out Try.underlying42 rfl (by kernel_rfl) .nil)) rfl ?_
  exact ⟨by first | rfl | simp [*], by rw [hr]; exact HBE.out⟩
def behF (B M : List Int) (y bs v2 : Int) : Int := if isoB (rd B y) = true then (if rd M y = (B.length : Int) then bs else v2) else v2
theorem p_seq {w : World} {g rb : Nat} {L B M K at_ : List Int} {bs : Int} {f : Int → Option Value} (h : Tx w g rb L B M K bs f) {A : Option Addr} {c : Nat} (hA : Kd.C (Kd.int .i64) w A at_.length at_) (x y z r1 r2 v1 v2 : Int) (hz : wrap64 ((at_.length : Int) - 1) = z) (hz0 : 0 ≤ z) (hz1 : z < (at_.length : Int)) (hx : rd at_ 0 = x) (hy : rd at_ z = y)
    (hx0 : 0 ≤ x) (hx1 : x < (L.length : Int)) (hy0 : 0 ≤ y) (hy1 : y < (L.length : Int)) (hy2 : y < (B.length : Int)) (hy3 : y < (M.length : Int)) (wx : (Lit.int .i64 x).wf = true) (wy : (Lit.int .i64 y).wf = true)
    (hf1 : (f x).getD (.int .i64 0) = .int .i64 r1) (hf2 : (f y).getD (.int .i64 0) = .int .i64 r2) (hv1 : nearF L K bs (wrap64 (r1 + -1)) = some v1) (hv2 : nearF L K bs (wrap64 (r2 + 1)) = some v2) :
    Calls Try.prog 37 #[.pointer (some ⟨g, 0, none⟩), .slice A at_.length c] w fun e w' => e = .returned (.agg #[.slice A at_.length c, .int .i64 (rd L x), .int .i64 (dirF (rd L x) v1), .int .i64 (dirF (rd L y) (behF B M y bs v2))]) ∧ Below w.heap.size w w' := by
  unfold behF
  by_cases hi : isoB (rd B y) = true
  · rw [if_pos hi]
    by_cases hm : rd M y = (B.length : Int)
    · rw [if_pos hm]
      exact p_seq_end h hA x y z r1 r2 v1 v2 hz hz0 hz1 hx hy hx0 hx1 hy0 hy1 hy2 hy3 wx wy hf1 hf2 hv1 hv2 hi hm
    · rw [if_neg hm]
      exact p_seq_mid h hA x y z r1 r2 v1 v2 hz hz0 hz1 hx hy hx0 hx1 hy0 hy1 hy2 hy3 wx wy hf1 hf2 hv1 hv2 hi hm
  · rw [if_neg hi]
    exact p_seq_no h hA x y z r1 r2 v1 v2 hz hz0 hz1 hx hy hx0 hx1 hy0 hy1 hy2 hy3 wx wy hf1 hf2 hv1 hv2 (Bool.eq_false_iff.mpr hi)
def okI (a : Int) : Bool := (Lit.int .i64 a).wf
def gput (g : Int → Option (List Int)) (a : Int) (l : List Int) : Int → Option (List Int) := fun x => if x = a then some l else g x
def gdel (g : Int → Option (List Int)) (a : Int) : Int → Option (List Int) := fun x => if x = a then none else g x
def begF (R : List (List Int)) : Nat → Int → Option (List Int)
  | 0 => fun _ => none
  | m + 1 => gput (begF R m) (rd (R.getD m []) 0) (R.getD m [])
def rkI (K : List Int) : Nat → Int → Int
  | 0, _ => 0
  | m + 1, x => if x = K.getD m 0 then (m : Int) else rkI K m x
def rkF (K : List Int) : Nat → Int → Option Value
  | 0 => fun _ => none
  | m + 1 => mput (rkF K m) (K.getD m 0) (.int .i64 (m : Int))
theorem rk_is (K : List Int) (x : Int) : ∀ m, (rkF K m x).getD (.int .i64 0) = .int .i64 (rkI K m x)
  | 0 => rfl
  | m + 1 => by
    unfold rkF rkI mput
    by_cases h : x = K.getD m 0
    · rw [if_pos h, if_pos h]; rfl
    · rw [if_neg h, if_neg h]; exact rk_is K x m
def lastL (l : List Int) : Int := rd l ((l.length : Int) - 1)
def nxtF (B M : List Int) (y : Int) : Int := if isoB (rd B y) = true then rd M y else 0
def chainF (B M : List Int) : Nat → (Int → Option (List Int)) → List Int → List Int → Option ((Int → Option (List Int)) × List Int)
  | 0, _, _, _ => none
  | n + 1, g, run, at_ =>
    if 0 < run.length then
      if okI (rd run 0) = true then
        if at_.length + run.length ≤ 17592186043000 then
          if 0 ≤ lastL (at_ ++ run) then
            if lastL (at_ ++ run) < (B.length : Int) then
              if lastL (at_ ++ run) < (M.length : Int) then
                if okI (nxtF B M (lastL (at_ ++ run))) = true then
                  match gdel g (rd run 0) (nxtF B M (lastL (at_ ++ run))) with
                  | none => some (gdel g (rd run 0), at_ ++ run)
                  | some l => chainF B M n (gdel g (rd run 0)) l (at_ ++ run)
                else none
              else none
            else none
          else none
        else none
      else none
    else none
def BegIs (w3 w : World) (b n : Nat) (g : Int → Option (List Int)) : Prop :=
  ∃ f, MapIs Try.prog 3 w b n f ∧ ∀ a, (g a = none ∧ f a = none) ∨ ∃ l A c, g a = some l ∧ f a = some (.slice A l.length c) ∧ l.length ≤ c ∧ Kd.C (Kd.int .i64) w3 A l.length l
section
variable {w3 w w1 w2 : World} {b n g0 : Nat} {g : Int → Option (List Int)} {f : Int → Option Value}
theorem beg_none (h : MapIs Try.prog 3 w b n (fun _ => none)) : BegIs w3 w b n (fun _ => none) := ⟨_, h, fun _ => .inl ⟨rfl, rfl⟩⟩
theorem beg_put {A : Option Addr} {l : List Int} {c : Nat} {a : Int} (hf : ∀ a, (g a = none ∧ f a = none) ∨ ∃ l A c, g a = some l ∧ f a = some (.slice A l.length c) ∧ l.length ≤ c ∧ Kd.C (Kd.int .i64) w3 A l.length l) (h : MapIs Try.prog 3 w1 b n (mput f a (.slice A l.length c))) (hl : l.length ≤ c) (hc : Kd.C (Kd.int .i64) w3 A l.length l) : BegIs w3 w1 b n (gput g a l) := by
  refine ⟨_, h, fun x => ?_⟩
  unfold gput mput
  by_cases e : x = a
  · rw [if_pos e, if_pos e]; exact .inr ⟨l, A, c, rfl, rfl, hl, hc⟩
  · rw [if_neg e, if_neg e]; exact hf x
theorem beg_del {a : Int} (hf : ∀ a, (g a = none ∧ f a = none) ∨ ∃ l A c, g a = some l ∧ f a = some (.slice A l.length c) ∧ l.length ≤ c ∧ Kd.C (Kd.int .i64) w3 A l.length l) (h : MapIs Try.prog 3 w1 b n (mdel f a)) : BegIs w3 w1 b n (gdel g a) := by
  refine ⟨_, h, fun x => ?_⟩
  unfold gdel mdel
  by_cases e : x = a
  · rw [if_pos e, if_pos e]; exact .inl ⟨rfl, rfl⟩
  · rw [if_neg e, if_neg e]; exact hf x
theorem beg_same (h : BegIs w3 w b n g) (he : w1.heap[b]? = w.heap[b]?) : BegIs w3 w1 b n g := by
  obtain ⟨f, hM, hf⟩ := h
  exact ⟨f, map_same hM he, hf⟩
theorem beg_lt (h : BegIs w3 w b n g) : b < w.heap.size := by
  obtain ⟨f, hM, hf⟩ := h
  exact map_lt hM
theorem beg_below (h : BegIs w3 w b n g) (hb : Below w.heap.size w w1) : BegIs w3 w1 b n g := beg_same h (hb.block b (beg_lt h))
theorem beg_grown (h : BegIs w3 w b n g) {v : Value} (hg : w.grownBy w1 v.ownBlock) (hne : ∀ k, v.ownBlock = some k → b < k) : BegIs w3 w1 b n g :=
  beg_same h (hg.block b (beg_lt h) (fun e => by have := hne b e.symm; omega))
theorem kb_below (h : KeepBut w3 w b none) (hb : Below w.heap.size w w1) : KeepBut w3 w1 b none :=
  ⟨Nat.le_trans h.1 hb.size, fun i hi hg hn => (hb.block i (Nat.lt_of_lt_of_le hi h.1)).trans (h.2 i hi hg hn)⟩
theorem kb_map (h : KeepBut w3 w b none) (hg : w.grownBy w1 (some b)) : KeepBut w3 w1 b none :=
  ⟨Nat.le_trans h.1 hg.size, fun i hi hne hn => (hg.block i (Nat.lt_of_lt_of_le hi h.1) (fun e => hne (by injection e))).trans (h.2 i hi hne hn)⟩
theorem kb_grown (h : KeepBut w3 w b none) {v : Value} (hg : w.grownBy w1 v.ownBlock) (hN : ∀ k, v.ownBlock = some k → w3.heap.size ≤ k) : KeepBut w3 w1 b none :=
  ⟨Nat.le_trans h.1 hg.size, fun i hi hne hn => (hg.block i (Nat.lt_of_lt_of_le hi h.1) (fun e => by have := hN i e.symm; omega)).trans (h.2 i hi hne hn)⟩
theorem kb_cell (h : KeepBut w3 w b none) (hM : MapIs Try.prog 3 w3 b n f) {a : Addr} {v : Value} (hc : w3.cell? a = some v) : w.cell? a = some v := keep_cell h hc (map_cell hM hc)
theorem kb_C (h : KeepBut w3 w b none) (hM : MapIs Try.prog 3 w3 b n f) {A : Option Addr} {m : Nat} {xs : List Int} (hc : Kd.C (Kd.int .i64) w3 A m xs) : Kd.C (Kd.int .i64) w A m xs := by
  obtain ⟨es, c, hb⟩ := map_block hM
  exact c_but hc h hb
theorem kb_tx {rb : Nat} {L B M K : List Int} {bs : Int} {f1 : Int → Option Value} (h : KeepBut w3 w b none) (hM : MapIs Try.prog 3 w3 b n f) (ht : Tx w3 g0 rb L B M K bs f1) (hr : rb ≠ b) : Tx w g0 rb L B M K bs f1 := by
  obtain ⟨es, c, hb⟩ := map_block hM
  exact tx_but ht h hb hr
theorem map_belowB {B : Nat} (h : Below B w w1) (hg : w1.grownBy w2 (some b)) (hB : B ≤ w1.heap.size) (hb : B ≤ b) : Below B w w2 := h.grown hg hB (fun j hj => by cases hj; exact hb)
theorem at_row {A : Option Addr} {m : Nat} {xs : List (List Int)} (h : Kd.C (Kd.slice 3 (Kd.int .i64)) w A m xs) (i : Nat) (h1 : i < m) : ∃ ad A0 c0, A = some ad ∧ w.cell? (ad.add i) = some (.slice A0 (xs.getD i []).length c0) ∧ (xs.getD i []).length ≤ c0 ∧ (Kd.int .i64).C w A0 (xs.getD i []).length (xs.getD i []) := by
  obtain ⟨ad, c, e, _, hK, hc0⟩ := Kd.C_get h ([] : List Int) (i : Int) (by omega) (by omega)
  rw [Int.toNat_natCast] at hK hc0
  have hc : ∀ j u, c[j]? = some u → w.cell? (ad.add (i * 1 + j)) = some u := hc0
  obtain ⟨A0, c0, rfl, l0, g0⟩ := hK
  exact ⟨ad, A0, c0, e, by have hq := hc 0 _ rfl; rwa [Nat.mul_one, Nat.add_zero] at hq, l0, g0⟩
theorem at_head {A : Option Addr} {m : Nat} {xs : List Int} (h : Kd.C (Kd.int .i64) w A m xs) (h1 : 0 < m) : ∃ ad, A = some ad ∧ w.cell? ad = some (.int .i64 (rd xs 0)) := by
  obtain ⟨ad, e, hc⟩ := Kd.at_int h 0 (by omega) (by omega)
  exact ⟨ad, e, (congrArg w.cell? (add0 ad)).symm.trans hc⟩
end
theorem c_far {w : World} {A : Option Addr} {n g : Nat} {xs : List Int} {cs : Array Value} (h : Kd.C (Kd.int .i64) w A n xs) (t : Nat) (hG : w.heap[g]? = some (.cells cs t (0, 0))) (j : Nat) (u : Value) (hne : ∀ ad, A = some ad → 0 < n → ad.block ≠ g) : Kd.C (Kd.int .i64) (w.setCell ⟨g, j, none⟩ u) A n xs :=
  Kd.C_keep (d := (0 : Int)) h ((KeepBut.refl w g none).set_ j u) hne
theorem run_makeMap_hint {P : Program} {t k e : TypeId} (ht : P.underlying t = some (.map k e)) (n : Int) (w : World) : (Instr.makeMap t (some (.int .i64 n))).run P w = .ok (.map (some w.heap.size)) (w.alloc (.map #[] 0)) := by
  simp [Instr.makeMap, run_underlying ht, asInt, Result.andThen]
  rfl
def BegRel (w3 : World) (g : Int → Option (List Int)) (f : Int → Option Value) : Prop := ∀ a, (g a = none ∧ f a = none) ∨ ∃ l A c, g a = some l ∧ f a = some (.slice A l.length c) ∧ l.length ≤ c ∧ Kd.C (Kd.int .i64) w3 A l.length l
theorem rel_del {w3 : World} {g : Int → Option (List Int)} {f : Int → Option Value} (hf : BegRel w3 g f) (a : Int) : BegRel w3 (gdel g a) (mdel f a) := by
  intro x
  unfold gdel mdel
  by_cases e : x = a
  · rw [if_pos e, if_pos e]; exact .inl ⟨rfl, rfl⟩
  · rw [if_neg e, if_neg e]; exact hf x
theorem rel_put {w3 : World} {g : Int → Option (List Int)} {f : Int → Option Value} (hf : BegRel w3 g f) (a : Int) {l : List Int} {A : Option Addr} {c : Nat} (hl : l.length ≤ c) (hc : Kd.C (Kd.int .i64) w3 A l.length l) : BegRel w3 (gput g a l) (mput f a (.slice A l.length c)) := by
  intro x
  unfold gput mput
  by_cases e : x = a
  · rw [if_pos e, if_pos e]; exact .inr ⟨l, A, c, rfl, rfl, hl, hc⟩
  · rw [if_neg e, if_neg e]; exact hf x
theorem tx_map {w : World} {g rb : Nat} {L B M K : List Int} {bs : Int} {f : Int → Option Value} (h : Tx w g rb L B M K bs f) : rb < w.heap.size := by
  obtain ⟨Al, cl, Ab, cb, Am, cm, Ak, ck, n, hG, hl, hb, hm, hk, hM⟩ := h
  exact map_lt hM
theorem chain_next {B M : List Int} {n : Nat} {g : Int → Option (List Int)} {run at_ : List Int} {p : (Int → Option (List Int)) × List Int} (h : chainF B M (n + 1) g run at_ = some p) :
    0 < run.length ∧ okI (rd run 0) = true ∧ at_.length + run.length ≤ 17592186043000 ∧ 0 ≤ lastL (at_ ++ run) ∧ lastL (at_ ++ run) < (B.length : Int) ∧ lastL (at_ ++ run) < (M.length : Int) ∧ okI (nxtF B M (lastL (at_ ++ run))) = true ∧
    ((gdel g (rd run 0) (nxtF B M (lastL (at_ ++ run))) = none ∧ p = (gdel g (rd run 0), at_ ++ run)) ∨ ∃ l, gdel g (rd run 0) (nxtF B M (lastL (at_ ++ run))) = some l ∧ chainF B M n (gdel g (rd run 0)) l (at_ ++ run) = some p) := by
  unfold chainF at h
  by_cases h1 : 0 < run.length
  · rw [if_pos h1] at h
    by_cases h2 : okI (rd run 0) = true
    · rw [if_pos h2] at h
      by_cases h3 : at_.length + run.length ≤ 17592186043000
      · rw [if_pos h3] at h
        by_cases h4 : 0 ≤ lastL (at_ ++ run)
        · rw [if_pos h4] at h
          by_cases h5 : lastL (at_ ++ run) < (B.length : Int)
          · rw [if_pos h5] at h
            by_cases h6 : lastL (at_ ++ run) < (M.length : Int)
            · rw [if_pos h6] at h
              by_cases h7 : okI (nxtF B M (lastL (at_ ++ run))) = true
              · rw [if_pos h7] at h
                refine ⟨h1, h2, h3, h4, h5, h6, h7, ?_⟩
                cases hg : gdel g (rd run 0) (nxtF B M (lastL (at_ ++ run))) with
                | none => rw [hg] at h; exact .inl ⟨rfl, (Option.some.inj h).symm⟩
                | some l => rw [hg] at h; exact .inr ⟨l, rfl, h⟩
              · rw [if_neg h7] at h; cases h
            · rw [if_neg h6] at h; cases h
          · rw [if_neg h5] at h; cases h
        · rw [if_neg h4] at h; cases h
      · rw [if_neg h3] at h; cases h
    · rw [if_neg h2] at h; cases h
  · rw [if_neg h1] at h; cases h
end Go.Proofs.Ytbkdaafphcfpdaa.Stk
