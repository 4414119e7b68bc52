import Derived.Test.YtbkdaafphcfpdaaExP3
namespace Go.Proofs.Ytbkdaafphcfpdaa.Stk
open Go.RowKit Go.Proofs.YtbkdaafphcfpdaaW.PrintWords Go.Proofs.YtbkdaafphcfpdaaW.PrintLast Go.Proofs.YtbkdaafphcfpdaaW.PrintMore
attribute [local go_sem] max2_int min2_int max_two min_two max_three min_three max_four min_four   -- for this text's walks alone
set_option linter.unusedVariables false
set_option linter.unusedSimpArgs false
structure RSt where
  a : Int
  b : Int
  c : Int
  l : List Ent
  L : List Int
  T : List Int
def RfC (w : World) (base g : Nat) (v : Value) (a b c : Int) (l : List Ent) (vl vt : Value) (L T : List Int) : Prop :=
  StkX w base g v a b c l ∧ Kd.R kI 3 w base (fun k => some k ≠ vt.ownBlock) vl L ∧ Kd.R kI 3 w base (fun k => some k ≠ vl.ownBlock) vt T
section
variable {w w1 : World} {base g : Nat} {v v' vl vt vl1 vt1 : Value} {a b c a' b' c' : Int} {l l' : List Ent} {L T L1 T1 : List Int}
theorem rf_l {p q : Prop} (h : p ∧ q) : p := h.1
theorem rf_r {p q : Prop} (h : p ∧ q) : q := h.2
theorem rf_x (h : RfC w base g v a b c l vl vt L T) : StkX w base g v a b c l := h.1
theorem rf_below (h : RfC w base g v a b c l vl vt L T) (hb : Below w.heap.size w w1) : RfC w1 base g v a b c l vl vt L T :=
  ⟨stk_below h.1 hb, Kd.R_below h.2.1 hb, Kd.R_below h.2.2 hb⟩
theorem rowx_stk {ok : Nat → Prop} {vx : Value} {xs : List Int} {bx : Nat} (h : Kd.R kI 3 w bx ok vx xs) (hS : StkX w base g v a b c l) (m : Mv w w1 g v v') : Kd.R kI 3 w1 bx ok vx xs := by
  refine Kd.R_mono (Kd.R_move (Kd.R_bound h) (fun k hk => ?_)) (fun _ hk => hk.1)
  obtain ⟨_, _, _, q, hq, cs, hc⟩ := hk
  have e := kI_E q hq
  subst e
  rw [hc]
  exact m.blk hS hc (by decide) (by decide)
theorem rf_stk (h : RfC w base g v a b c l vl vt L T) (hS : StkX w1 base g v' a' b' c' l') (m : Mv w w1 g v v') : RfC w1 base g v' a' b' c' l' vl vt L T :=
  ⟨hS, rowx_stk h.2.1 h.1 m, rowx_stk h.2.2 h.1 m⟩
theorem stkx_grown (h : StkX w base g v a b c l) {u : Value} (hg : w.grownBy w1 u.ownBlock) (hty : ∀ k, u.ownBlock = some k → ∃ cells, w.heap[k]? = some (.cells cells 3 (0, 0))) : StkX w1 base g v a b c l := by
  refine ⟨blk_grown h.1 hg (fun e => ?_), Kd.R_over' h.2.1 hty (fun q hq => ?_) hg, h.2.2⟩
  · obtain ⟨cs, hc⟩ := hty g e.symm
    exact blk_ne h.1 hc (by decide) rfl
  · have : q = 46 := by simpa [kE, Kd.iso, Kd.pair, Kd.int, Kd.bool, Kd.scalar] using hq
    subst this
    decide
theorem rf_app1 (h : RfC w base g v a b c l vl vt L T) (hg : w.grownBy w1 vl.ownBlock) (hR : Kd.R kI 3 w1 base (fun k => some k ≠ vt.ownBlock) vl1 L1) (hat : vl1.ownBlock = vl.ownBlock ∨ ∃ b, vl1.ownBlock = some b ∧ w.heap.size ≤ b) : RfC w1 base g v a b c l vl1 vt L1 T :=
  ⟨stkx_grown h.1 hg (Kd.R_typed h.2.1), hR, Kd.R_mono (Kd.R_grown (Kd.R_bound h.2.2) hg (fun k hk => hk.1)) (fun k hk => own_new hat hk.1 hk.2.2.1)⟩
theorem rf_app2 (h : RfC w base g v a b c l vl vt L T) (hg : w.grownBy w1 vt.ownBlock) (hR : Kd.R kI 3 w1 base (fun k => some k ≠ vl.ownBlock) vt1 T1) (hat : vt1.ownBlock = vt.ownBlock ∨ ∃ b, vt1.ownBlock = some b ∧ w.heap.size ≤ b) : RfC w1 base g v a b c l vl vt1 L T1 :=
  ⟨stkx_grown h.1 hg (Kd.R_typed h.2.2), Kd.R_mono (Kd.R_grown (Kd.R_bound h.2.1) hg (fun k hk => hk.1)) (fun k hk => own_new hat hk.1 hk.2.2.1), hR⟩
end
section
variable {a b c : Int} {l : List Ent} {N : Int}
theorem isoA_bd (h0 : 0 ≤ a) (h1 : a ≤ N) (hN : N ≤ 17592186044000) (r : Bool) : 0 ≤ isoA a b l r ∧ isoA a b l r ≤ N + 1 := by
  have e : wrap64 (a + 1) = a + 1 := by unfold wrap64; omega
  unfold isoA; split <;> omega
theorem embB_bd2 (h0 : 0 ≤ b) (h1 : b ≤ N) (hN : N ≤ 17592186044000) (r : Bool) : 0 ≤ embB a b l r ∧ embB a b l r ≤ N + 1 := by
  have e : wrap64 (b + 1) = b + 1 := by unfold wrap64; omega
  unfold embB; split
  · omega
  · split <;> omega
theorem eiA_bd (h0 : 0 ≤ a) (h1 : a ≤ N) (hN : N ≤ 17592186044000) : 0 ≤ eiA a ∧ eiA a ≤ N + 1 := by
  have e : wrap64 (a - 1) = a - 1 := by unfold wrap64; omega
  unfold eiA; split <;> omega
theorem eiB_bd (h0 : 0 ≤ b) (h1 : b ≤ N) (hN : N ≤ 17592186044000) : 0 ≤ eiB a b c ∧ eiB a b c ≤ N + 1 := by
  unfold eiB; split
  · omega
  · split <;> omega
theorem eeB_bd (h0 : 0 ≤ b) (h1 : b ≤ N) (hN : N ≤ 17592186044000) : 0 ≤ eeB a b ∧ eeB a b ≤ N + 1 := by
  have e : wrap64 (b - 1) = b - 1 := by unfold wrap64; omega
  unfold eeB; split
  · omega
  · split <;> omega
end
set_option maxHeartbeats 8000000 in
set_option maxRecDepth 100000 in
theorem r_given_no {w : World} {base g : Nat} {v : Value} {a b c : Int} {l : List Ent} (h : StkX w base g v a b c l) (hG : Good l) (y : Int) (h13 : (topE l).ov = 13) :
    Calls Try.prog 30 #[.pointer (some ⟨g, 0, none⟩), .int .i64 y] w fun e w' => e = .returned (.int .i64 y) ∧ Below w.heap.size w w' := by
  have HT := Aside0.mk (fun (W : World) (hb : Below w.heap.size w W) => x_top (stk_below h hb) hG.1 (by have := hG.len; omega))
  generalize (topE l).lv = t0 at HT
  generalize (topE l).iso = t2 at HT
  generalize (topE l).ov = t1 at HT h13 ⊢
  subst h13
  have hfl : ∀ W : World, (Instr.field 46 (.agg #[.int .i64 t0, .int .i64 13, .bool t2]) 1).run Try.prog W = .ok (.int .i64 13) W := fun W => by kernel_rfl
  clear h hG
  go_enter Try.func30, Try.ntmps30
  go_wp2_with (first | (go_at_call 29; (with_reducible refine (HT.out _ (HB1.out)).mono ?_); rintro e w2 ⟨rfl, hb⟩; have HB2 := Aside0.mk (below_step HB1.out hb); clear hb) | (go_at_call 29; (with_reducible refine (HT.out _ (Below.refl _ _)).mono ?_); rintro e w1 ⟨rfl, hb⟩; have HB1 := Aside0.mk hb; clear hb))
  go_ret
  exact ⟨by first | rfl | simp, HB1.out⟩
set_option maxHeartbeats 8000000 in
set_option maxRecDepth 100000 in
theorem r_given_yes {w : World} {base g : Nat} {v : Value} {a b c : Int} {l : List Ent} (h : StkX w base g v a b c l) (hG : Good l) (y : Int) (h13 : ¬ (topE l).ov = 13) :
    Calls Try.prog 30 #[.pointer (some ⟨g, 0, none⟩), .int .i64 y] w fun e w' => e = .returned (.int .i64 (topE l).ov) ∧ Below w.heap.size w w' := by
  have HT := Aside0.mk (fun (W : World) (hb : Below w.heap.size w W) => x_top (stk_below h hb) hG.1 (by have := hG.len; omega))
  generalize (topE l).lv = t0 at HT
  generalize (topE l).iso = t2 at HT
  generalize (topE l).ov = t1 at HT h13 ⊢
  have e1 : (t1 == 13) = false := beq_eq_false_iff_ne.mpr h13
  have e2 : (t1 != 13) = true := bne_iff_ne.mpr h13
  clear h13
  have hfl : ∀ W : World, (Instr.field 46 (.agg #[.int .i64 t0, .int .i64 t1, .bool t2]) 1).run Try.prog W = .ok (.int .i64 t1) W := fun W => by kernel_rfl
  clear h hG
  go_enter Try.func30, Try.ntmps30
  go_wp2_with (first | (go_at_call 29; (with_reducible refine (HT.out _ (HB1.out)).mono ?_); rintro e w2 ⟨rfl, hb⟩; have HB2 := Aside0.mk (below_step HB1.out hb); clear hb) | (go_at_call 29; (with_reducible refine (HT.out _ (Below.refl _ _)).mono ?_); rintro e w1 ⟨rfl, hb⟩; have HB1 := Aside0.mk hb; clear hb))
  go_ret
  exact ⟨by first | rfl | simp, HB2.out⟩
theorem r_given {w : World} {base g : Nat} {v : Value} {a b c : Int} {l : List Ent} (h : StkX w base g v a b c l) (hG : Good l) (y : Int) :
    Calls Try.prog 30 #[.pointer (some ⟨g, 0, none⟩), .int .i64 y] w fun e w' => e = .returned (.int .i64 (over (topE l).ov y)) ∧ Below w.heap.size w w' := by
  unfold over
  by_cases h13 : (topE l).ov = 13
  · rw [if_pos h13]; exact r_given_no h hG y h13
  · rw [if_neg h13]; exact r_given_yes h hG y h13
end Go.Proofs.Ytbkdaafphcfpdaa.Stk
