import Derived.Test.YtbkdaafphcfpdaaProg
import Derived.Below
import Derived.Deep.Draws
import Derived.Deep.AppendLies
import Derived.Maps.AppendAt
import Derived.OwnWalk
import Derived.Laws.BytesArg
import Derived.Laws.MakeOwn
import Derived.Laws.OwnMore
import Derived.Deep.OwnRows
import Derived.Tactics
import Derived.Lib.ConvBytes
import Derived.Laws.Slices
import Derived.WalkKit
import Derived.KernelRfl
import Derived.RowKit3
import Derived.Deep.LoopGhost
import Derived.Deep.QuietTactic
import Derived.BigQuiet
import Derived.WideLaws
import Derived.Deep.DeepCutAuto
import Derived.Deep.CutBlock
import Derived.Deep.RegionHeld3
import Derived.Laws.Rows
import Derived.Lib.AppendStr
import Derived.ArgAppend
import Derived.Laws.IdiomCopy
import Derived.OrdersHeld
import Derived.Laws.BitsLemmas
import Derived.RowKit
import Derived.Test.YtbkdaafphcfpdaaWWords
import Derived.Test.YtbkdaafphcfpdaaWLast
import Derived.Test.YtbkdaafphcfpdaaWTab
import Derived.Test.YtbkdaafphcfpdaaWFour
import Derived.Test.YtbkdaafphcfpdaaWQPut
import Derived.Test.YtbkdaafphcfpdaaWApart
import Derived.Test.YtbkdaafphcfpdaaWArr
import Derived.Test.YtbkdaafphcfpdaaWZeros
import Derived.Test.YtbkdaafphcfpdaaWFoot
import Derived.Test.YtbkdaafphcfpdaaWKept
import Derived.Test.YtbkdaafphcfpdaaWShare
import Derived.Test.YtbkdaafphcfpdaaWN
import Derived.Test.YtbkdaafphcfpdaaWFootNe
import Derived.Test.YtbkdaafphcfpdaaWAt
import Derived.Test.YtbkdaafphcfpdaaWEqStruct
import Derived.Test.YtbkdaafphcfpdaaWRepsOne
import Derived.Test.YtbkdaafphcfpdaaWInv
import Derived.Test.YtbkdaafphcfpdaaWInvWords
import Derived.Test.YtbkdaafphcfpdaaWGuard
import Derived.Test.YtbkdaafphcfpdaaWNEv
import Derived.Test.YtbkdaafphcfpdaaWMore
namespace Go.Proofs.Ytbkdaafphcfpdaa.Stk
open Go.RowKit Go.Proofs.YtbkdaafphcfpdaaW.PrintWords Go.Proofs.YtbkdaafphcfpdaaW.PrintLast Go.Proofs.YtbkdaafphcfpdaaW.PrintMore
attribute [local go_sem] max2_int min2_int max_two min_two max_three min_three max_four min_four   -- for this text's walks alone
set_option linter.unusedVariables false
set_option linter.unusedSimpArgs false
structure Ent where
  lv : Int
  ov : Int
  iso : Bool
def zE : Ent := ⟨0, 0, false⟩
def kE : Kd Ent := Kd.iso (Kd.pair (Kd.int .i64) (Kd.pair (Kd.int .i64) Kd.bool)) (fun x : Ent => (x.lv, x.ov, x.iso))
theorem kE_open {w : World} {x : Ent} {cs : List Value} (h : kE.K w x cs) : cs = [.int .i64 x.lv, .int .i64 x.ov, .bool x.iso] := by
  obtain ⟨_, _, rfl, rfl, ⟨_, _, rfl, rfl, rfl⟩⟩ := h
  exact rfl
theorem kE_mkM (w : World) (base : Nat) (ok : Nat → Prop) (x : Ent) : kE.M w base ok x [.int .i64 x.lv, .int .i64 x.ov, .bool x.iso] := ⟨[.int .i64 x.lv], [.int .i64 x.ov, .bool x.iso], rfl, rfl, ⟨[.int .i64 x.ov], [.bool x.iso], rfl, rfl, rfl⟩⟩
def topE (l : List Ent) : Ent := l.getD (l.length - 1) zE
theorem at_E {w : World} {A : Option Addr} {n : Nat} {xs : List Ent} (h : Kd.C kE w A n xs) (i : Nat) (h1 : i < n) : ∃ ad, A = some ad ∧ w.cell? (ad.add (i * 3)) = some (.int .i64 (xs.getD i zE).lv) ∧ w.cell? ⟨(ad.add (i * 3)).block, (ad.add (i * 3)).off + 1, none⟩ = some (.int .i64 (xs.getD i zE).ov) ∧ w.cell? ⟨(ad.add (i * 3)).block, (ad.add (i * 3)).off + 2, none⟩ = some (.bool (xs.getD i zE).iso) := by
  obtain ⟨ad, c, e, _, hK, hc0⟩ := Kd.C_get h zE (i : Int) (by omega) (by omega)
  rw [Int.toNat_natCast] at hK hc0
  have hc : ∀ j u, c[j]? = some u → w.cell? (ad.add (i * 3 + j)) = some u := hc0
  obtain rfl := kE_open hK
  exact ⟨ad, e, hc 0 _ rfl, by rw [← add_field _ _ 1 (by omega)]; exact hc 1 _ rfl, by rw [← add_field _ _ 2 (by omega)]; exact hc 2 _ rfl⟩
def StkAt (cells : Array Value) (ts te : Nat) (w : World) (base g : Nat) (v : Value) (l : List Ent) : Prop :=
  w.heap[g]? = some (.cells cells ts (0, 0)) ∧ Kd.R kE te w base (fun k => k ≠ g) v l ∧ base ≤ g
section
variable {cells cells' : Array Value} {ts te base g : Nat} {w w0 w1 w2 : World} {v v1 v2 v' u : Value} {l l' : List Ent}
theorem stk_slice (h : StkAt cells ts te w base g v l) : ∃ A cap, v = .slice A l.length cap ∧ l.length ≤ cap ∧ Kd.C kE w A l.length l := Kd.R_reads h.2.1
theorem stk_below (h : StkAt cells ts te w base g v l) (hb : Below w.heap.size w w1) : StkAt cells ts te w1 base g v l := ⟨blk_below h.1 hb, Kd.R_below h.2.1 hb, h.2.2⟩
theorem stk_drew (h : StkAt cells ts te w base g v l) : StkAt cells ts te w.drew base g v l := stk_below h (below_drew (Below.refl _ _))
theorem stk_drewN (h : StkAt cells ts te w base g v l) (n : Nat) : StkAt cells ts te (w.drewN n) base g v l := stk_below h (pw_below_drewN (Below.refl _ _) n)
theorem stk_lower (h : StkAt cells ts te w base g v l) {b : Nat} (hb : b ≤ base) : StkAt cells ts te w b g v l := ⟨h.1, Kd.R_lower h.2.1 hb, Nat.le_trans hb h.2.2⟩
theorem stk_lt (h : StkAt cells ts te w base g v l) : g < w.heap.size := blk_lt h.1
theorem stk_away (h : StkAt cells ts te w base g v l) : some g ≠ v.ownBlock := Kd.R_away h.2.1 (fun _ hk => hk)
theorem stk_set (h : StkAt cells ts te w base g v l) (i : Nat) (u : Value) (e : cells.setIfInBounds i u = cells') : StkAt cells' ts te (w.setCell ⟨g, i, none⟩ u) base g v l :=
  ⟨blk_put h.1 i u e, Kd.R_far h.2.1 (p := ⟨g, i, none⟩) (fun _ hk => hk) u, h.2.2⟩
theorem stk_put (hG : w.heap[g]? = some (.cells cells ts (0, 0))) (hR : Kd.R kE te w base (fun k => k ≠ g) v' l') (hb : base ≤ g) (i : Nat) (e : cells.setIfInBounds i v' = cells') : StkAt cells' ts te (w.setCell ⟨g, i, none⟩ v') base g v' l' :=
  ⟨blk_put hG i v' e, Kd.R_far hR (p := ⟨g, i, none⟩) (fun _ hk => hk) v', hb⟩
def Mv (w w' : World) (g : Nat) (v v' : Value) : Prop :=
  KeepBut w w' g v.ownBlock ∧ (∀ k, v'.ownBlock = some k → v.ownBlock = some k ∨ w.heap.size ≤ k) ∧ w'.os = w.os ∧ w'.tape = w.tape ∧ w'.output = w.output
theorem Mv.refl (w : World) (g : Nat) (v : Value) : Mv w w g v v := ⟨KeepBut.refl _ _ _, fun _ h => .inl h, rfl, rfl, rfl⟩
theorem Mv.of_below (h : Below w.heap.size w w1) (g : Nat) (v : Value) : Mv w w1 g v v := ⟨KeepBut.of_below h _ _, fun _ h => .inl h, h.os, h.tape, h.output⟩
theorem Mv.trans (h : Mv w w1 g v v1) (k : Mv w1 w2 g v1 v2) : Mv w w2 g v v2 := by
  refine ⟨⟨Nat.le_trans h.1.1 k.1.1, fun i hi hg hn => ?_⟩, fun i hi => ?_, k.2.2.1.trans h.2.2.1, k.2.2.2.1.trans h.2.2.2.1, k.2.2.2.2.trans h.2.2.2.2⟩
  · refine (k.1.2 i (Nat.lt_of_lt_of_le hi h.1.1) hg (fun e => ?_)).trans (h.1.2 i hi hg hn)
    rcases h.2.1 i e.symm with h1 | h1
    · exact hn h1.symm
    · omega
  · rcases k.2.1 i hi with h1 | h1
    · exact h.2.1 i h1
    · exact .inr (Nat.le_trans h.1.1 h1)
theorem Mv.below_ (h : Mv w w1 g v v1) (k : Below w1.heap.size w1 w2) : Mv w w2 g v v1 := h.trans (Mv.of_below k g v1)
theorem Mv.set (h : Mv w w1 g v v1) (i : Nat) (u : Value) : Mv w (w1.setCell ⟨g, i, none⟩ u) g v v1 := ⟨h.1.set_ i u, h.2.1, h.2.2.1, h.2.2.2.1, h.2.2.2.2⟩
theorem Mv.far (h : Mv w w1 g v v1) {p : Addr} (hp : w.heap.size ≤ p.block) (u : Value) : Mv w (w1.setCell p u) g v v1 := ⟨keep_far h.1 hp u, h.2.1, h.2.2.1, h.2.2.2.1, h.2.2.2.2⟩
theorem Mv.as (h : Mv w w1 g v v1) (e : v2.ownBlock = v1.ownBlock) : Mv w w1 g v v2 := ⟨h.1, by rw [e]; exact h.2.1, h.2.2⟩
theorem Mv.grown (h : Mv w w1 g v v1) (k : w1.grownBy w2 v1.ownBlock) (e : v2.ownBlock = v1.ownBlock ∨ ∃ b, v2.ownBlock = some b ∧ w1.heap.size ≤ b) : Mv w w2 g v v2 :=
  h.trans ⟨KeepBut.of_grown k g, fun i hi => by
    rcases e with e | ⟨b, e, hb⟩
    · exact .inl (e.symm.trans hi)
    · rw [e] at hi; injection hi with hi; exact .inr (hi ▸ hb), k.os, k.tape, k.output⟩
theorem Mv.fresh (h : Mv w w1 g v v1) (k : w1.grownBy w2 u.ownBlock) (hu : ∀ k, u.ownBlock = some k → w.heap.size ≤ k) (e : v2.ownBlock = u.ownBlock ∨ ∃ b, v2.ownBlock = some b ∧ w1.heap.size ≤ b) : Mv w w2 g v v2 := by
  refine ⟨⟨Nat.le_trans h.1.1 k.size, fun i hi hg hn => (k.block i (Nat.lt_of_lt_of_le hi h.1.1) (fun e2 => by have := hu i e2.symm; omega)).trans (h.1.2 i hi hg hn)⟩, fun i hi => .inr ?_, k.os.trans h.2.2.1, k.tape.trans h.2.2.2.1, k.output.trans h.2.2.2.2⟩
  rcases e with e | ⟨b, e, hb⟩
  · exact hu i (e.symm.trans hi)
  · rw [e] at hi; injection hi with hi; have := h.1.1; omega
theorem Mv.beside (h : Mv w w1 g v v1) (k : w1.grownBy w2 u.ownBlock) (hu : ∀ k, u.ownBlock = some k → w.heap.size ≤ k) : Mv w w2 g v v1 :=
  ⟨⟨Nat.le_trans h.1.1 k.size, fun i hi hg hn => (k.block i (Nat.lt_of_lt_of_le hi h.1.1) (fun e2 => by have := hu i e2.symm; omega)).trans (h.1.2 i hi hg hn)⟩, h.2.1, k.os.trans h.2.2.1, k.tape.trans h.2.2.2.1, k.output.trans h.2.2.2.2⟩
theorem fresh_of {B : Nat} (e : v2.ownBlock = u.ownBlock ∨ ∃ b, v2.ownBlock = some b ∧ w1.heap.size ≤ b) (hu : ∀ k, u.ownBlock = some k → B ≤ k) (hB : B ≤ w1.heap.size) : ∀ k, v2.ownBlock = some k → B ≤ k := fun k hk => by
  rcases e with e | ⟨b, e, hb⟩
  · exact hu k (e.symm.trans hk)
  · rw [e] at hk; injection hk with hk; omega
theorem Mv.below (m : Mv w w1 g v v1) (h : StkAt cells ts te w base g v l) : Below base w w1 :=
  ⟨m.2.2.1, m.2.2.2.1, m.2.2.2.2, m.1.1, fun k hk => m.1.2 k (by have := stk_lt h; have := h.2.2; omega) (by have := h.2.2; omega) (fun e => by have := Kd.R_base h.2.1 k e.symm; omega)⟩
theorem Mv.blk (m : Mv w w1 g v v1) (h : StkAt cells ts te w base g v l) {b t : Nat} {cs : Array Value} (hb : w.heap[b]? = some (.cells cs t (0, 0))) (hs : t ≠ ts) (he : t ≠ te) : w1.heap[b]? = some (.cells cs t (0, 0)) :=
  m.1.blk hb (blk_ne hb h.1 hs) (fun e => by
    obtain ⟨c2, h2⟩ := Kd.R_typed h.2.1 b e.symm
    exact blk_ne hb h2 he rfl)
theorem stk_other {cx : Array Value} {tx ty bx gx : Nat} {vx : Value} {lx : List Ent} (h : StkAt cx tx ty w bx gx vx lx) (hS : StkAt cells ts te w base g v l) (m : Mv w w1 g v v1) (h1 : tx ≠ ts) (h2 : tx ≠ te) (h3 : ty ≠ ts) (h4 : ty ≠ te) : StkAt cx tx ty w1 bx gx vx lx := by
  refine ⟨m.blk hS h.1 h1 h2, ?_, h.2.2⟩
  refine Kd.R_mono (Kd.R_move (Kd.R_bound h.2.1) (fun k hk => ?_)) (fun _ hk => hk.1)
  obtain ⟨_, _, _, q, hq, cs, hc⟩ := hk
  have e : q = ty := by simpa [kE, Kd.iso, Kd.pair, Kd.int, Kd.bool, Kd.scalar] using hq
  subst e
  rw [hc]
  exact m.blk hS hc h3 h4
theorem len_ne (h : 0 < l.length) : l.length - 1 < l.length := by omega
end
theorem own_same (A : Option Addr) (n m c c' : Nat) : (Value.slice A n c).ownBlock = (Value.slice A m c').ownBlock := by cases A <;> rfl
theorem kE_R_lit (w : World) (te : Nat) (x : Ent) : Kd.R kE te (w.alloc (.cells #[.int .i64 x.lv, .int .i64 x.ov, .bool x.iso] te)) w.heap.size (fun _ => True) (.slice (some ⟨w.heap.size, 0, none⟩) 1 1) [x] := by
  refine ⟨fun _ _ => trivial, [.int .i64 x.lv, .int .i64 x.ov, .bool x.iso], ?_, Reps.c3 (kE_mkM _ _ _ x) (Reps.none _ _)⟩
  have h2 := World.ownsRow_lit (base := w.heap.size) (e := te) (size := 3) w #[.int .i64 x.lv, .int .i64 x.ov, .bool x.iso] 1 (Nat.le_refl _) (by decide) rfl
  exact h2
theorem stk_new (w : World) (ts te : Nat) (x : Ent) (cells : Array Value) :
    StkAt cells ts te ((w.alloc (.cells #[.int .i64 x.lv, .int .i64 x.ov, .bool x.iso] te)).alloc (.cells cells ts)) w.heap.size (w.heap.size + 1) (.slice (some ⟨w.heap.size, 0, none⟩) 1 1) [x] := by
  have hs : (w.alloc (.cells #[.int .i64 x.lv, .int .i64 x.ov, .bool x.iso] te)).heap.size = w.heap.size + 1 := World.size_alloc _ _
  refine ⟨?_, Kd.R_alloc (Kd.R_mono (Kd.R_bound (kE_R_lit w te x)) (fun k hk => ?_)) _, by omega⟩
  · rw [← hs]; exact blk_new _ _
  · have := hk.2.2.1; omega
theorem kE_C_one {w : World} {g te : Nat} {x0 x1 : Int} {x2 : Bool} (h : w.heap[g]? = some (.cells #[.int .i64 x0, .int .i64 x1, .bool x2] te (0, 0))) (x : Ent) (e : x = ⟨x0, x1, x2⟩) : Kd.C kE w (some ⟨g, 0, none⟩) 1 [x] := by
  subst e
  have h1 : Kd.R kE te w 0 (fun _ => True) (.slice (some ⟨g, 0, none⟩) 1 1) [⟨x0, x1, x2⟩] := by
    refine ⟨fun _ _ => trivial, [.int .i64 x0, .int .i64 x1, .bool x2], ⟨rfl, .inr ⟨g, 1, #[.int .i64 x0, .int .i64 x1, .bool x2], rfl, Nat.zero_le _, h, Nat.le_refl _, by unfold maxLen; omega, rfl, rfl⟩⟩, Reps.c3 (kE_mkM _ _ _ ⟨x0, x1, x2⟩) (Reps.none _ _)⟩
  exact (Kd.R_reads' h1).2.2
end Go.Proofs.Ytbkdaafphcfpdaa.Stk
