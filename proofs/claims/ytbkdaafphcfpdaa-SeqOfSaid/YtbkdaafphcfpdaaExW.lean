import Derived.Test.YtbkdaafphcfpdaaStkP8
namespace Go.Proofs.Ytbkdaafphcfpdaa.Stk
open Go.RowKit Go.Proofs.YtbkdaafphcfpdaaW.PrintWords Go.Proofs.YtbkdaafphcfpdaaW.PrintLast Go.Proofs.YtbkdaafphcfpdaaW.PrintMore
attribute [local go_sem] max2_int min2_int max_two min_two max_three min_three max_four min_four   -- for this text's walks alone
set_option linter.unusedVariables false
set_option linter.unusedSimpArgs false
abbrev kI : Kd Int := Kd.int .i64
theorem infoI : (Try.prog.info? 3).map (fun i => (i.zero, i.size, i.bytes)) = some (some (.int .i64 0), 1, 8) := by kernel_rfl
theorem kI_C_one {w : World} {g : Nat} {x : Int} (h : w.heap[g]? = some (.cells #[.int .i64 x] 3 (0, 0))) : Kd.C kI w (some ⟨g, 0, none⟩) 1 [x] := by
  have h1 : Kd.R kI 3 w 0 (fun _ => True) (.slice (some ⟨g, 0, none⟩) 1 1) [x] := by
    refine ⟨fun _ _ => trivial, [.int .i64 x], ⟨rfl, .inr ⟨g, 1, #[.int .i64 x], rfl, Nat.zero_le _, h, Nat.le_refl _, by unfold maxLen; omega, rfl, rfl⟩⟩, Reps.one rfl (Reps.none _ _)⟩
  exact (Kd.R_reads' h1).2.2
def WkC (w : World) (base gw g : Nat) (Ac : Option Addr) (nc cc : Nat) (vm : Value) (bs : Int) (v : Value) (a b c : Int) (l : List Ent) (cl ct vl vt : Value) (L T M : List Int) : Prop :=
  w.heap[gw]? = some (.cells #[.pointer (some ⟨g, 0, none⟩), .slice Ac nc cc, vm, .int .i64 bs, cl, ct] 67 (0, 0)) ∧ StkP w base g v a b c l ∧
  Kd.R kI 3 w base (fun k => some k ≠ vt.ownBlock ∧ some k ≠ vm.ownBlock) vl L ∧ Kd.R kI 3 w base (fun k => some k ≠ vl.ownBlock ∧ some k ≠ vm.ownBlock) vt T ∧ Kd.R kI 3 w base (fun k => some k ≠ vl.ownBlock ∧ some k ≠ vt.ownBlock) vm M ∧ base ≤ gw
section
variable {w w0 w1 : World} {base gw g nc cc : Nat} {Ac : Option Addr} {vm v v' cl ct vl vt vl1 vt1 : Value} {bs a b c a' b' c' : Int} {l l' : List Ent} {L T M L1 T1 : List Int}
theorem kI_E : ∀ q, q ∈ 3 :: kI.E → q = 3 := fun q hq => by simpa [kI, Kd.int, Kd.scalar] using hq
theorem wk_below (h : WkC w base gw g Ac nc cc vm bs v a b c l cl ct vl vt L T M) (hb : Below w.heap.size w w1) : WkC w1 base gw g Ac nc cc vm bs v a b c l cl ct vl vt L T M :=
  ⟨blk_below h.1 hb, stk_below h.2.1 hb, Kd.R_below h.2.2.1 hb, Kd.R_below h.2.2.2.1 hb, Kd.R_below h.2.2.2.2.1 hb, h.2.2.2.2.2⟩
theorem row_stk {ok : Nat → Prop} {vx : Value} {xs : List Int} {bx : Nat} (h : Kd.R kI 3 w bx ok vx xs) (hS : StkP w base g v a b c l) (m : Mv w w1 g v v') : Kd.R kI 3 w1 bx ok vx xs := by
  refine Kd.R_mono (Kd.R_move (Kd.R_bound h) (fun k hk => ?_)) (fun _ hk => hk.1)
  obtain ⟨_, _, _, q, hq, cs, hc⟩ := hk
  have e := kI_E q hq
  subst e
  rw [hc]
  exact m.blk hS hc (by decide) (by decide)
theorem wk_stk (h : WkC w base gw g Ac nc cc vm bs v a b c l cl ct vl vt L T M) (hS : StkP w1 base g v' a' b' c' l') (m : Mv w w1 g v v') : WkC w1 base gw g Ac nc cc vm bs v' a' b' c' l' cl ct vl vt L T M :=
  ⟨m.blk h.2.1 h.1 (by decide) (by decide), hS, row_stk h.2.2.1 h.2.1 m, row_stk h.2.2.2.1 h.2.1 m, row_stk h.2.2.2.2.1 h.2.1 m, h.2.2.2.2.2⟩
theorem stk_grown (h : StkP w base g v a b c l) {u : Value} (hg : w.grownBy w1 u.ownBlock) (hty : ∀ k, u.ownBlock = some k → ∃ cells, w.heap[k]? = some (.cells cells 3 (0, 0))) : StkP w1 base g v a b c l := by
  refine ⟨blk_grown h.1 hg (fun e => ?_), Kd.R_over' h.2.1 hty (fun q hq => ?_) hg, h.2.2⟩
  · obtain ⟨cs, hc⟩ := hty g e.symm
    exact blk_ne h.1 hc (by decide) rfl
  · have : q = 82 := by simpa [kE, Kd.iso, Kd.pair, Kd.int, Kd.bool, Kd.scalar] using hq
    subst this
    decide
theorem own_new {u u1 : Value} {k : Nat} (hat : u1.ownBlock = u.ownBlock ∨ ∃ b, u1.ownBlock = some b ∧ w.heap.size ≤ b) (h1 : some k ≠ u.ownBlock) (h2 : k < w.heap.size) : some k ≠ u1.ownBlock := fun e => by
  rcases hat with hat | ⟨b, hat, hb⟩
  · exact h1 (e.trans hat)
  · rw [hat] at e; injection e with e; omega
theorem wk_app1 (h : WkC w base gw g Ac nc cc vm bs v a b c l cl ct vl vt L T M) (hg : w.grownBy w1 vl.ownBlock) (hR : Kd.R kI 3 w1 base (fun k => some k ≠ vt.ownBlock ∧ some k ≠ vm.ownBlock) vl1 L1) (hat : vl1.ownBlock = vl.ownBlock ∨ ∃ b, vl1.ownBlock = some b ∧ w.heap.size ≤ b) : WkC w1 base gw g Ac nc cc vm bs v a b c l cl ct vl1 vt L1 T M := by
  obtain ⟨h1, h2, h3, h4, h5, h6⟩ := h
  refine ⟨blk_grown h1 hg (fun e => ?_), stk_grown h2 hg (Kd.R_typed h3), hR, Kd.R_mono (Kd.R_grown (Kd.R_bound h4) hg (fun k hk => hk.1.1)) (fun k hk => ⟨own_new hat hk.1.1 hk.2.2.1, hk.1.2⟩), Kd.R_mono (Kd.R_grown (Kd.R_bound h5) hg (fun k hk => hk.1.1)) (fun k hk => ⟨own_new hat hk.1.1 hk.2.2.1, hk.1.2⟩), h6⟩
  obtain ⟨cs, hc⟩ := Kd.R_typed h3 gw e.symm
  exact blk_ne h1 hc (by decide) rfl
theorem wk_app2 (h : WkC w base gw g Ac nc cc vm bs v a b c l cl ct vl vt L T M) (hg : w.grownBy w1 vt.ownBlock) (hR : Kd.R kI 3 w1 base (fun k => some k ≠ vl.ownBlock ∧ some k ≠ vm.ownBlock) vt1 T1) (hat : vt1.ownBlock = vt.ownBlock ∨ ∃ b, vt1.ownBlock = some b ∧ w.heap.size ≤ b) : WkC w1 base gw g Ac nc cc vm bs v a b c l cl ct vl vt1 L T1 M := by
  obtain ⟨h1, h2, h3, h4, h5, h6⟩ := h
  refine ⟨blk_grown h1 hg (fun e => ?_), stk_grown h2 hg (Kd.R_typed h4), Kd.R_mono (Kd.R_grown (Kd.R_bound h3) hg (fun k hk => hk.1.1)) (fun k hk => ⟨own_new hat hk.1.1 hk.2.2.1, hk.1.2⟩), hR, Kd.R_mono (Kd.R_grown (Kd.R_bound h5) hg (fun k hk => hk.1.2)) (fun k hk => ⟨hk.1.1, own_new hat hk.1.2 hk.2.2.1⟩), h6⟩
  obtain ⟨cs, hc⟩ := Kd.R_typed h4 gw e.symm
  exact blk_ne h1 hc (by decide) rfl
theorem wk_set (h : WkC w base gw g Ac nc cc vm bs v a b c l cl ct vl vt L T M) {cl' ct' : Value} (i : Nat) (u : Value) (e : (#[.pointer (some ⟨g, 0, none⟩), .slice Ac nc cc, vm, .int .i64 bs, cl, ct] : Array Value).setIfInBounds i u = #[.pointer (some ⟨g, 0, none⟩), .slice Ac nc cc, vm, .int .i64 bs, cl', ct']) : WkC (w.setCell ⟨gw, i, none⟩ u) base gw g Ac nc cc vm bs v a b c l cl' ct' vl vt L T M := by
  obtain ⟨h1, h2, h3, h4, h5, h6⟩ := h
  have hne : g ≠ gw := blk_ne h2.1 h1 (by decide)
  have hrow : ∀ {ok : Nat → Prop} {vx : Value} {xs : List Int}, Kd.R kI 3 w base ok vx xs → Kd.R kI 3 (w.setCell ⟨gw, i, none⟩ u) base ok vx xs := fun {ok vx xs} hx => by
    refine Kd.R_mono (Kd.R_move (Kd.R_bound hx) (fun k hk => ?_)) (fun _ hk => hk.1)
    obtain ⟨_, _, _, q, hq, cs, hc⟩ := hk
    have e3 := kI_E q hq
    subst e3
    exact Below.heap_setCell w ⟨gw, i, none⟩ u k (blk_ne hc h1 (by decide))
  refine ⟨blk_put h1 i u e, ⟨blk_far h2.1 (p := ⟨gw, i, none⟩) hne u, ?_, h2.2.2⟩, hrow h3, hrow h4, hrow h5, h6⟩
  refine Kd.R_mono (Kd.R_move (Kd.R_bound h2.2.1) (fun k hk => ?_)) (fun _ hk => hk.1)
  obtain ⟨_, _, _, q, hq, cs, hc⟩ := hk
  have e3 : q = 82 := by simpa [kE, Kd.iso, Kd.pair, Kd.int, Kd.bool, Kd.scalar] using hq
  subst e3
  exact Below.heap_setCell w ⟨gw, i, none⟩ u k (blk_ne hc h1 (by decide))
end
end Go.Proofs.Ytbkdaafphcfpdaa.Stk
