-- PRINTED by print.py (a twelfth state) out of the translation. Not trusted: Lean checks it.
import Derived.Test.YtmkgihmchkphaaaPCaretHitsx0
import Derived.Test.YtmkgihmchkphaaaPCaretHitsx2
namespace Go.Proofs.Ytmkgihmchkphaaa.PCaretHits
open Go.RowKit Go.Proofs.YtmkgihmchkphaaaM Go.Proofs.YtmkgihmchkphaaaW.PrintWords Go.Proofs.YtmkgihmchkphaaaW.PrintLast Go.Proofs.YtmkgihmchkphaaaW.PrintMore
attribute [local go_sem] max2_int min2_int max_two min_two max_three min_three max_four min_four   -- for this text's walks alone
set_option linter.unusedVariables false
set_option linter.unusedSimpArgs false

/-! ### naskhref29_Visual: function 21 -/
mutual
def naskhref29_Visual.l0 : Nat → List Int → List Int → Int → Int → Option (List Int)
  | 0, _, _, _, _ => none
  | k + 1, x0, x3, x4, x5 => if x5 < (x0.length : Int) then (if 0 ≤ x5 then (naskhref29_Visual.l0 k x0 x3 (mx x4 (rd x0 x5)) (wrap64 (x5 + 1))) else (none)) else (naskhref29_Visual.l1 k x0 x3 x4)
def naskhref29_Visual.l1 : Nat → List Int → List Int → Int → Option (List Int)
  | 0, _, _, _ => none
  | k + 1, x0, x3, x6 => if x6 ≥ 1 then (naskhref29_Visual.l2 k x0 x3 x6 0) else (some x3)
def naskhref29_Visual.l2 : Nat → List Int → List Int → Int → Int → Option (List Int)
  | 0, _, _, _, _ => none
  | k + 1, x0, x3, x6, x7 => if x7 < (x3.length : Int) then (naskhref29_Visual.l3 k x0 x3 x6 x7 x7) else (naskhref29_Visual.l1 k x0 x3 (wrap64 (x6 - 1)))
def naskhref29_Visual.j4 : Nat → List Int → List Int → Int → Int → Int → Option (List Int)
  | 0, _, _, _, _, _ => none
  | k + 1, x0, x3, x6, x7, x8 => (naskhref29_odd.f k x0 x6).bind fun t123 => (if t123 = true then ((naskhref29_turn.f k x3 x7 x8).bind fun t124 => (naskhref29_Visual.l2 k x0 t124 x6 (wrap64 ((mx x7 (wrap64 (x8 - 1))) + 1)))) else (naskhref29_Visual.l2 k x0 x3 x6 (wrap64 ((mx x7 (wrap64 (x8 - 1))) + 1))))
def naskhref29_Visual.l3 : Nat → List Int → List Int → Int → Int → Int → Option (List Int)
  | 0, _, _, _, _, _ => none
  | k + 1, x0, x3, x6, x7, x8 => if x8 < (x3.length : Int) then (if 0 ≤ x8 then (if 0 ≤ (rd x3 x8) then (if (rd x3 x8) < (x0.length : Int) then (if (rd x0 (rd x3 x8)) ≥ x6 then (naskhref29_Visual.l3 k x0 x3 x6 x7 (wrap64 (x8 + 1))) else (naskhref29_Visual.j4 k x0 x3 x6 x7 x8)) else (none)) else (none)) else (none)) else (naskhref29_Visual.j4 k x0 x3 x6 x7 x8)
end
def naskhref29_Visual.f (k : Nat) (l0 : List Int) : Option (List Int) := (naskhref29_Held.f k l0).bind fun t114 => ((naskhref29_places.f k (t114.length : Int)).bind fun t117 => (naskhref29_Visual.l0 k t114 t117 0 0))
theorem naskhref29_Visual.mono_l : ∀ k, (∀ y0 y1 y2 y3, LeO (naskhref29_Visual.l0 k y0 y1 y2 y3) (naskhref29_Visual.l0 (k + 1) y0 y1 y2 y3)) ∧ (∀ y0 y1 y2, LeO (naskhref29_Visual.l1 k y0 y1 y2) (naskhref29_Visual.l1 (k + 1) y0 y1 y2)) ∧ (∀ y0 y1 y2 y3, LeO (naskhref29_Visual.l2 k y0 y1 y2 y3) (naskhref29_Visual.l2 (k + 1) y0 y1 y2 y3)) ∧ (∀ y0 y1 y2 y3 y4, LeO (naskhref29_Visual.j4 k y0 y1 y2 y3 y4) (naskhref29_Visual.j4 (k + 1) y0 y1 y2 y3 y4)) ∧ (∀ y0 y1 y2 y3 y4, LeO (naskhref29_Visual.l3 k y0 y1 y2 y3 y4) (naskhref29_Visual.l3 (k + 1) y0 y1 y2 y3 y4))
  | 0 => ⟨fun _ _ _ _ r h => by simp [naskhref29_Visual.l0] at h, fun _ _ _ r h => by simp [naskhref29_Visual.l1] at h, fun _ _ _ _ r h => by simp [naskhref29_Visual.l2] at h, fun _ _ _ _ _ r h => by simp [naskhref29_Visual.j4] at h, fun _ _ _ _ _ r h => by simp [naskhref29_Visual.l3] at h⟩
  | k + 1 => by
    obtain ⟨ih0, ih1, ih2, ih3, ih4⟩ := naskhref29_Visual.mono_l k
    refine ⟨?_, ?_, ?_, ?_, ?_⟩
    · intro y0 y1 y2 y3
      unfold naskhref29_Visual.l0
      repeat' first
      | (with_reducible exact ih0 _ _ _ _)
      | (with_reducible exact ih1 _ _ _)
      | (with_reducible exact ih2 _ _ _ _)
      | (with_reducible exact ih3 _ _ _ _ _)
      | (with_reducible exact ih4 _ _ _ _ _)
      | (with_reducible exact naskhref29_Held.mono _ _)
      | (with_reducible exact naskhref29_odd.mono _ _ _)
      | (with_reducible exact naskhref29_places.mono _ _)
      | (with_reducible exact naskhref29_turn.mono _ _ _ _)
      | (with_reducible exact LeO.refl _)
      | (with_reducible exact LeO.none _)
      | (with_reducible refine LeO.ite ?_ ?_)
      | (with_reducible refine LeO.bind ?_ (fun _ => ?_))
      | exact ih0 _ _ _ _
      | exact ih1 _ _ _
      | exact ih2 _ _ _ _
      | exact ih3 _ _ _ _ _
      | exact ih4 _ _ _ _ _
      | exact naskhref29_Held.mono _ _
      | exact naskhref29_odd.mono _ _ _
      | exact naskhref29_places.mono _ _
      | exact naskhref29_turn.mono _ _ _ _
      | exact LeO.none _
      | refine LeO.ite ?_ ?_
      | refine LeO.bind ?_ (fun _ => ?_)
    · intro y0 y1 y2
      unfold naskhref29_Visual.l1
      repeat' first
      | (with_reducible exact ih0 _ _ _ _)
      | (with_reducible exact ih1 _ _ _)
      | (with_reducible exact ih2 _ _ _ _)
      | (with_reducible exact ih3 _ _ _ _ _)
      | (with_reducible exact ih4 _ _ _ _ _)
      | (with_reducible exact naskhref29_Held.mono _ _)
      | (with_reducible exact naskhref29_odd.mono _ _ _)
      | (with_reducible exact naskhref29_places.mono _ _)
      | (with_reducible exact naskhref29_turn.mono _ _ _ _)
      | (with_reducible exact LeO.refl _)
      | (with_reducible exact LeO.none _)
      | (with_reducible refine LeO.ite ?_ ?_)
      | (with_reducible refine LeO.bind ?_ (fun _ => ?_))
      | exact ih0 _ _ _ _
      | exact ih1 _ _ _
      | exact ih2 _ _ _ _
      | exact ih3 _ _ _ _ _
      | exact ih4 _ _ _ _ _
      | exact naskhref29_Held.mono _ _
      | exact naskhref29_odd.mono _ _ _
      | exact naskhref29_places.mono _ _
      | exact naskhref29_turn.mono _ _ _ _
      | exact LeO.none _
      | refine LeO.ite ?_ ?_
      | refine LeO.bind ?_ (fun _ => ?_)
    · intro y0 y1 y2 y3
      unfold naskhref29_Visual.l2
      repeat' first
      | (with_reducible exact ih0 _ _ _ _)
      | (with_reducible exact ih1 _ _ _)
      | (with_reducible exact ih2 _ _ _ _)
      | (with_reducible exact ih3 _ _ _ _ _)
      | (with_reducible exact ih4 _ _ _ _ _)
      | (with_reducible exact naskhref29_Held.mono _ _)
      | (with_reducible exact naskhref29_odd.mono _ _ _)
      | (with_reducible exact naskhref29_places.mono _ _)
      | (with_reducible exact naskhref29_turn.mono _ _ _ _)
      | (with_reducible exact LeO.refl _)
      | (with_reducible exact LeO.none _)
      | (with_reducible refine LeO.ite ?_ ?_)
      | (with_reducible refine LeO.bind ?_ (fun _ => ?_))
      | exact ih0 _ _ _ _
      | exact ih1 _ _ _
      | exact ih2 _ _ _ _
      | exact ih3 _ _ _ _ _
      | exact ih4 _ _ _ _ _
      | exact naskhref29_Held.mono _ _
      | exact naskhref29_odd.mono _ _ _
      | exact naskhref29_places.mono _ _
      | exact naskhref29_turn.mono _ _ _ _
      | exact LeO.none _
      | refine LeO.ite ?_ ?_
      | refine LeO.bind ?_ (fun _ => ?_)
    · intro y0 y1 y2 y3 y4
      unfold naskhref29_Visual.j4
      repeat' first
      | (with_reducible exact ih0 _ _ _ _)
      | (with_reducible exact ih1 _ _ _)
      | (with_reducible exact ih2 _ _ _ _)
      | (with_reducible exact ih3 _ _ _ _ _)
      | (with_reducible exact ih4 _ _ _ _ _)
      | (with_reducible exact naskhref29_Held.mono _ _)
      | (with_reducible exact naskhref29_odd.mono _ _ _)
      | (with_reducible exact naskhref29_places.mono _ _)
      | (with_reducible exact naskhref29_turn.mono _ _ _ _)
      | (with_reducible exact LeO.refl _)
      | (with_reducible exact LeO.none _)
      | (with_reducible refine LeO.ite ?_ ?_)
      | (with_reducible refine LeO.bind ?_ (fun _ => ?_))
      | exact ih0 _ _ _ _
      | exact ih1 _ _ _
      | exact ih2 _ _ _ _
      | exact ih3 _ _ _ _ _
      | exact ih4 _ _ _ _ _
      | exact naskhref29_Held.mono _ _
      | exact naskhref29_odd.mono _ _ _
      | exact naskhref29_places.mono _ _
      | exact naskhref29_turn.mono _ _ _ _
      | exact LeO.none _
      | refine LeO.ite ?_ ?_
      | refine LeO.bind ?_ (fun _ => ?_)
    · intro y0 y1 y2 y3 y4
      unfold naskhref29_Visual.l3
      repeat' first
      | (with_reducible exact ih0 _ _ _ _)
      | (with_reducible exact ih1 _ _ _)
      | (with_reducible exact ih2 _ _ _ _)
      | (with_reducible exact ih3 _ _ _ _ _)
      | (with_reducible exact ih4 _ _ _ _ _)
      | (with_reducible exact naskhref29_Held.mono _ _)
      | (with_reducible exact naskhref29_odd.mono _ _ _)
      | (with_reducible exact naskhref29_places.mono _ _)
      | (with_reducible exact naskhref29_turn.mono _ _ _ _)
      | (with_reducible exact LeO.refl _)
      | (with_reducible exact LeO.none _)
      | (with_reducible refine LeO.ite ?_ ?_)
      | (with_reducible refine LeO.bind ?_ (fun _ => ?_))
      | exact ih0 _ _ _ _
      | exact ih1 _ _ _
      | exact ih2 _ _ _ _
      | exact ih3 _ _ _ _ _
      | exact ih4 _ _ _ _ _
      | exact naskhref29_Held.mono _ _
      | exact naskhref29_odd.mono _ _ _
      | exact naskhref29_places.mono _ _
      | exact naskhref29_turn.mono _ _ _ _
      | exact LeO.none _
      | refine LeO.ite ?_ ?_
      | refine LeO.bind ?_ (fun _ => ?_)
theorem naskhref29_Visual.mono : ∀ a0 k, LeO (naskhref29_Visual.f k a0) (naskhref29_Visual.f (k + 1) a0) := by
  intro a0 k
  obtain ⟨ih0, ih1, ih2, ih3, ih4⟩ := naskhref29_Visual.mono_l k
  unfold naskhref29_Visual.f
  repeat' first
      | (with_reducible exact ih0 _ _ _ _)
      | (with_reducible exact ih1 _ _ _)
      | (with_reducible exact ih2 _ _ _ _)
      | (with_reducible exact ih3 _ _ _ _ _)
      | (with_reducible exact ih4 _ _ _ _ _)
      | (with_reducible exact naskhref29_Held.mono _ _)
      | (with_reducible exact naskhref29_odd.mono _ _ _)
      | (with_reducible exact naskhref29_places.mono _ _)
      | (with_reducible exact naskhref29_turn.mono _ _ _ _)
      | (with_reducible exact LeO.refl _)
      | (with_reducible exact LeO.none _)
      | (with_reducible refine LeO.ite ?_ ?_)
      | (with_reducible refine LeO.bind ?_ (fun _ => ?_))
      | exact ih0 _ _ _ _
      | exact ih1 _ _ _
      | exact ih2 _ _ _ _
      | exact ih3 _ _ _ _ _
      | exact ih4 _ _ _ _ _
      | exact naskhref29_Held.mono _ _
      | exact naskhref29_odd.mono _ _ _
      | exact naskhref29_places.mono _ _
      | exact naskhref29_turn.mono _ _ _ _
      | exact LeO.none _
      | refine LeO.ite ?_ ?_
      | refine LeO.bind ?_ (fun _ => ?_)
set_option maxHeartbeats 8000000 in
set_option maxRecDepth 100000 in
theorem naskhref29_Visual.calls (k : Nat) (A0 : Option Addr) (c0 : Nat) (l0 : List Int) (r : List Int) (w : World) (hr0 : Kd.C (Kd.int .i64) w A0 l0.length l0) (hc0 : l0.length ≤ c0) (h : naskhref29_Visual.f k l0 = some r) :
    Calls Try.prog 21 #[.slice A0 l0.length c0] w fun e w' => ∃ v0_ : Value, e = .returned (v0_) ∧ Kd.R (Kd.int .i64) 3 w' w.heap.size (fun _ => True) v0_ r ∧ Below w.heap.size w w' := by
  have HR0 := Aside0.mk hr0
  have HC0 := Aside0.mk hc0
  clear hr0 hc0
  have HB := Aside0.mk (Below.refl w.heap.size w)
  have H : ((naskhref29_Held.f k l0).bind fun t114 => ((naskhref29_places.f k (t114.length : Int)).bind fun t117 => (naskhref29_Visual.l0 k t114 t117 0 0))) = some r := h
  clear h
  replace H := Option.bind_eq_some_iff.mp H
  obtain ⟨t114, A20, H⟩ := H
  replace H : ((naskhref29_places.f k (t114.length : Int)).bind fun t117 => (naskhref29_Visual.l0 k t114 t117 0 0)) = some r := H
  have A2 := Aside0.mk A20
  clear A20
  replace H := Option.bind_eq_some_iff.mp H
  obtain ⟨t117, A30, H⟩ := H
  replace H : (naskhref29_Visual.l0 k t114 t117 0 0) = some r := H
  have A3 := Aside0.mk A30
  clear A30
  have H' := Aside0.mk H
  clear H
  go_enter Try.func21, Try.ntmps21
  go_wp2_with (first | ((with_reducible refine gate_callee (f := 55) rfl ?_); refine goesL_ (some 10) rfl rfl Try.func55 (by kernel_rfl) rfl #[.slice A0 l0.length c0] rfl (by (try simp only [List.map_toArray, List.map_cons, List.map_nil]); first | done | rfl | (simp only [List.length_drop, List.length_take]; rfl)) ?_; (with_reducible refine (naskhref29_Held.calls k _ _ l0 t114 _ ?side1 ?side2 A2.out).mono ?_); (case side1 => repeat (first | exact HR0.out | (with_reducible refine Kd.C_alloc ?_ _) | (with_reducible refine Kd.C_drewN ?_ _) | (with_reducible refine Kd.C_drew ?_))); (case side2 => exact HC0.out); rintro e w4 ⟨v115, rfl, ho0, hb⟩; refine ⟨_, rfl, ?_⟩; have n0_ := Aside0.mk (Kd.R_lower ho0 (below_size (by repeat (first | (with_reducible first | exact HB.out | apply below_alloc | apply pw_below_drewN | apply below_drew1) | exact HB.out)))); have n1_ := Aside0.mk (below_step (by repeat (first | (with_reducible first | exact HB.out | apply below_alloc | apply pw_below_drewN | apply below_drew1) | exact HB.out)) hb); clear HB; have HO116 := n0_; have HB := n1_; clear n0_ n1_; (try clear hb); (try clear hb2); (try clear hk); (try clear hi); (try clear ho0); obtain ⟨Ao5, co5, eo5⟩ := Kd.R_slice HO116.out; subst eo5) | ((with_reducible refine gate_callee (f := 56) rfl ?_); refine goesL_ (some 13) rfl rfl Try.func56 (by kernel_rfl) rfl #[.int .i64 (t114.length : Int)] rfl (by (try simp only [List.map_toArray, List.map_cons, List.map_nil]); first | done | rfl | (simp only [List.length_drop, List.length_take]; rfl)) ?_; (with_reducible refine (naskhref29_places.calls k (t114.length : Int) t117 _ A3.out).mono ?_); rintro e w6 ⟨v118, rfl, ho0, hb⟩; refine ⟨_, rfl, ?_⟩; have n0_ := Aside0.mk (Kd.R_elder' (by (with_reducible repeat (first | apply Kd.R_alloc | apply Kd.R_drewN | apply Kd.R_drew)); exact HO116.out) (Kd.R_base ho0) hb); have n1_ := Aside0.mk (Kd.R_lower (Kd.R_new' ho0 (Kd.R_lt (by (with_reducible repeat (first | apply Kd.R_alloc | apply Kd.R_drewN | apply Kd.R_drew)); exact HO116.out))) (below_size (by repeat (first | (with_reducible first | exact HB.out | apply below_alloc | apply pw_below_drewN | apply below_drew1) | exact HB.out)))); have n2_ := Aside0.mk (below_step (by repeat (first | (with_reducible first | exact HB.out | apply below_alloc | apply pw_below_drewN | apply below_drew1) | exact HB.out)) hb); clear HO116; clear HB; have HO116 := n0_; have HO119 := n1_; have HB := n2_; clear n0_ n1_ n2_; (try clear hb); (try clear hb2); (try clear hk); (try clear hi); (try clear ho0)))
  go_loopg [4, 5] k (fun kq v4 v5 w' => ∃ (x4_1 : Int) (x5_1 : Int), v4 = .int .i64 x4_1 ∧ v5 = .int .i64 x5_1 ∧ Aside0 (naskhref29_Visual.l0 kq t114 t117 x4_1 x5_1 = some r) ∧ Aside0 (kq ≤ k) ∧ Aside0 (Kd.R (Kd.int .i64) 3 w' w.heap.size (fun k_ => some k_ ≠ (v118 : Value).ownBlock) (.slice Ao5 t114.length co5) t114) ∧ Aside0 (Kd.R (Kd.int .i64) 3 w' w.heap.size (fun k_ => some k_ ≠ ((.slice Ao5 t114.length co5) : Value).ownBlock) v118 t117) ∧ Aside0 (Below w.heap.size w w'))
  case atStart => exact ⟨(0), (0), (by first | rfl | (simp; done) | (simp [*]; done)), (by first | rfl | (simp; done) | (simp [*]; done)), H', ⟨Nat.le_refl _⟩, ⟨by (with_reducible repeat (first | apply Kd.R_alloc | apply Kd.R_drewN | apply Kd.R_drew)); exact Kd.R_mono HO116.out (fun _ hk => hk.2)⟩, ⟨by (with_reducible repeat (first | apply Kd.R_alloc | apply Kd.R_drewN | apply Kd.R_drew)); exact Kd.R_mono HO119.out (fun _ hk => hk.2)⟩, ⟨by repeat (first | (with_reducible first | exact HB.out | apply below_alloc | apply pw_below_drewN | apply below_drew1) | exact HB.out)⟩⟩
  case round =>
    clear H'
    try clear c2
    try clear p2
    try clear c5
    obtain ⟨x4_1, x5_1, rfl, rfl, HA, HK1, HO_0, HO_3, HB⟩ := hrel
    cases gk with
    | zero => exact absurd HA.out (by simp [naskhref29_Visual.l0])
    | succ k1 =>
      have H := HA.out
      clear HA
      simp only [naskhref29_Visual.l0] at H
      by_cases c7 : x5_1 < (t114.length : Int)
      · rw [if_pos c7] at H
        have c7b0 : decide (x5_1 < (t114.length : Int)) = true := decide_eq_true c7
        clear c7
        by_cases c8 : 0 ≤ x5_1
        · rw [if_pos c8] at H
          have c8b0 : decide (0 ≤ x5_1) = true := decide_eq_true c8
          clear c8
          obtain ⟨ji9, hji9⟩ : ∃ j_ : Int, (mx x4_1 (rd t114 x5_1)) = j_ := ⟨_, rfl⟩
          replace H : (naskhref29_Visual.l0 k1 t114 t117 ji9 (wrap64 (x5_1 + 1))) = some r := by first | (rw [hji9] at H; exact H) | (simp only [hji9] at H ⊢; exact H)
          have hji9_ : (if x4_1 < (rd t114 x5_1) then (rd t114 x5_1) else x4_1) = ji9 := hji9
          have H' := Aside0.mk H
          clear H
          have p120 : 0 ≤ (x5_1 : Int) := of_decide_eq_true (by first | (with_reducible assumption) | assumption)
          have q120 : x5_1 < (t114.length : Int) := of_decide_eq_true (by first | (with_reducible assumption) | assumption)
          obtain ⟨ad120, e120, hx120_0⟩ := Kd.at_int (Kd.R_reads' HO_0.out).2.2 x5_1 p120 q120
          cases e120
          replace p120 := eq_true p120
          replace q120 := eq_true q120
          go_wp2
          go_roundg k1
          case measure => have := HK1.out; omega
          case rel => exact ⟨(ji9), (wrap64 (x5_1 + 1)), (by first | rfl | (simp; done) | (simp only [← hji9] <;> (first | rfl | simp)) | (simp [*]; done)), (by first | rfl | (simp; done) | (simp [*]; done)), H', ⟨by have := HK1.out; omega⟩, ⟨by (with_reducible repeat (first | apply Kd.R_alloc | apply Kd.R_drewN | apply Kd.R_drew)); exact HO_0.out⟩, ⟨by (with_reducible repeat (first | apply Kd.R_alloc | apply Kd.R_drewN | apply Kd.R_drew)); exact HO_3.out⟩, ⟨by repeat (first | (with_reducible first | exact HB.out | apply below_alloc | apply pw_below_drewN | apply below_drew1) | exact HB.out)⟩⟩
        · rw [if_neg c8] at H
          exact absurd H (by simp)
      · rw [if_neg c7] at H
        have c7b0 : decide (x5_1 < (t114.length : Int)) = false := decide_eq_false c7
        clear c7
        have H' := Aside0.mk H
        clear H
        go_wp2
        go_loopg [6] k1 (fun kq v6 w' => ∃ (x3_2 : List Int) (x6_2 : Int), v6 = .int .i64 x6_2 ∧ Aside0 (naskhref29_Visual.l1 kq t114 x3_2 x6_2 = some r) ∧ Aside0 (kq ≤ k1) ∧ Aside0 (Kd.R (Kd.int .i64) 3 w' w.heap.size (fun k_ => some k_ ≠ (v118 : Value).ownBlock) (.slice Ao5 t114.length co5) t114) ∧ Aside0 (Kd.R (Kd.int .i64) 3 w' w.heap.size (fun k_ => some k_ ≠ ((.slice Ao5 t114.length co5) : Value).ownBlock) v118 x3_2) ∧ Aside0 (Below w.heap.size w w'))
        case atStart => exact ⟨(t117), (x4_1), (by first | rfl | (simp; done) | (simp [*]; done)), H', ⟨Nat.le_refl _⟩, ⟨by (with_reducible repeat (first | apply Kd.R_alloc | apply Kd.R_drewN | apply Kd.R_drew)); exact HO_0.out⟩, ⟨by (with_reducible repeat (first | apply Kd.R_alloc | apply Kd.R_drewN | apply Kd.R_drew)); exact HO_3.out⟩, ⟨by repeat (first | (with_reducible first | exact HB.out | apply below_alloc | apply pw_below_drewN | apply below_drew1) | exact HB.out)⟩⟩
        case round =>
          clear H'
          try clear p1
          try clear q1
          try clear hx1
          try clear c2
          try clear p2
          try clear c5
          try clear p6
          try clear c7
          try clear c7b0
          try clear c8
          try clear c8b0
          try clear hx120_0
          try clear p120
          try clear p2
          try clear q120
          obtain ⟨x3_2, x6_2, rfl, HA, HK2, HO_0, HO_3, HB⟩ := hrel
          cases gk with
          | zero => exact absurd HA.out (by simp [naskhref29_Visual.l1])
          | succ k2 =>
            have H := HA.out
            clear HA
            simp only [naskhref29_Visual.l1] at H
            by_cases c10 : x6_2 ≥ 1
            · rw [if_pos c10] at H
              have c10b0 : decide (1 ≤ x6_2) = true := decide_eq_true c10
              clear c10
              have H' := Aside0.mk H
              clear H
              go_wp2
              go_loopg [7] k2 (fun kq v7 w' => ∃ (x3_3 : List Int) (x7_3 : Int), v7 = .int .i64 x7_3 ∧ Aside0 (naskhref29_Visual.l2 kq t114 x3_3 x6_2 x7_3 = some r) ∧ Aside0 (kq ≤ k2) ∧ Aside0 (Kd.R (Kd.int .i64) 3 w' w.heap.size (fun k_ => some k_ ≠ (v118 : Value).ownBlock) (.slice Ao5 t114.length co5) t114) ∧ Aside0 (Kd.R (Kd.int .i64) 3 w' w.heap.size (fun k_ => some k_ ≠ ((.slice Ao5 t114.length co5) : Value).ownBlock) v118 x3_3) ∧ Aside0 (Below w.heap.size w w'))
              case atStart => exact ⟨(x3_2), (0), (by first | rfl | (simp; done) | (simp [*]; done)), H', ⟨Nat.le_refl _⟩, ⟨by (with_reducible repeat (first | apply Kd.R_alloc | apply Kd.R_drewN | apply Kd.R_drew)); exact HO_0.out⟩, ⟨by (with_reducible repeat (first | apply Kd.R_alloc | apply Kd.R_drewN | apply Kd.R_drew)); exact HO_3.out⟩, ⟨by repeat (first | (with_reducible first | exact HB.out | apply below_alloc | apply pw_below_drewN | apply below_drew1) | exact HB.out)⟩⟩
              case round =>
                clear H'
                try clear c1
                try clear p1
                try clear q1
                try clear hx1
                try clear c2
                try clear p2
                try clear c5
                try clear p6
                try clear c7
                try clear c7b0
                try clear c8
                try clear c8b0
                try clear c10
                try clear c10b0
                try clear hx120_0
                try clear p1
                try clear p120
                try clear p2
                try clear p6
                try clear q1
                try clear q120
                obtain ⟨x3_3, x7_3, rfl, HA, HK3, HO_0, HO_3, HB⟩ := hrel
                cases gk with
                | zero => exact absurd HA.out (by simp [naskhref29_Visual.l2])
                | succ k3 =>
                  have H := HA.out
                  clear HA
                  simp only [naskhref29_Visual.l2] at H
                  by_cases c11 : x7_3 < (x3_3.length : Int)
                  · rw [if_pos c11] at H
                    have c11b0 : decide (x7_3 < (x3_3.length : Int)) = true := decide_eq_true c11
                    clear c11
                    have HC12 := Aside0.mk H
                    clear H
                    obtain ⟨Ao13, co13, eo13⟩ := Kd.R_slice HO_3.out
                    subst eo13
                    go_upto_block 6 with (fail)
                    go_cut [8] (fun v8 wc => ∃ (kq : Nat) (x8_11 : Int), v8 = .int .i64 x8_11 ∧ Aside0 (naskhref29_Visual.j4 kq t114 x3_3 x6_2 x7_3 x8_11 = some r) ∧ Aside0 (kq ≤ k3) ∧ Aside0 (Kd.R (Kd.int .i64) 3 wc w.heap.size (fun k_ => some k_ ≠ ((.slice Ao13 x3_3.length co13) : Value).ownBlock) (.slice Ao5 t114.length co5) t114) ∧ Aside0 (Kd.R (Kd.int .i64) 3 wc w.heap.size (fun k_ => some k_ ≠ ((.slice Ao5 t114.length co5) : Value).ownBlock) (.slice Ao13 x3_3.length co13) x3_3) ∧ Aside0 (Below w.heap.size w wc))
                    case first =>
                      have H := HC12.out
                      clear HC12
                      have H' := Aside0.mk H
                      clear H
                      go_wp2
                      go_loopg [8] k3 (fun kq v8 w' => ∃ (x8_4 : Int), v8 = .int .i64 x8_4 ∧ Aside0 (naskhref29_Visual.l3 kq t114 x3_3 x6_2 x7_3 x8_4 = some r) ∧ Aside0 (kq ≤ k3) ∧ Aside0 (Kd.R (Kd.int .i64) 3 w' w.heap.size (fun k_ => some k_ ≠ ((.slice Ao13 x3_3.length co13) : Value).ownBlock) (.slice Ao5 t114.length co5) t114) ∧ Aside0 (Kd.R (Kd.int .i64) 3 w' w.heap.size (fun k_ => some k_ ≠ ((.slice Ao5 t114.length co5) : Value).ownBlock) (.slice Ao13 x3_3.length co13) x3_3) ∧ Aside0 (Below w.heap.size w w'))
                      case atStart => exact ⟨(x7_3), (by first | rfl | (simp; done) | (simp [*]; done)), H', ⟨Nat.le_refl _⟩, ⟨by (with_reducible repeat (first | apply Kd.R_alloc | apply Kd.R_drewN | apply Kd.R_drew)); exact HO_0.out⟩, ⟨by (with_reducible repeat (first | apply Kd.R_alloc | apply Kd.R_drewN | apply Kd.R_drew)); exact HO_3.out⟩, ⟨by repeat (first | (with_reducible first | exact HB.out | apply below_alloc | apply pw_below_drewN | apply below_drew1) | exact HB.out)⟩⟩
                      case round =>
                        clear H'
                        try clear c1
                        try clear p1
                        try clear q1
                        try clear hx1
                        try clear c2
                        try clear p2
                        try clear c5
                        try clear p6
                        try clear c7
                        try clear c7b0
                        try clear c8
                        try clear c8b0
                        try clear c10
                        try clear c10b0
                        try clear c11
                        try clear c11b0
                        try clear p12
                        try clear q12
                        try clear hx12
                        try clear hx120_0
                        try clear p1
                        try clear p120
                        try clear p2
                        try clear p6
                        try clear q1
                        try clear q120
                        obtain ⟨x8_4, rfl, HA, HK4, HO_0, HO_3, HB⟩ := hrel
                        cases gk with
                        | zero => exact absurd HA.out (by simp [naskhref29_Visual.l3])
                        | succ k4 =>
                          have H := HA.out
                          clear HA
                          simp only [naskhref29_Visual.l3] at H
                          by_cases c14 : x8_4 < (x3_3.length : Int)
                          · rw [if_pos c14] at H
                            have c14b0 : decide (x8_4 < (x3_3.length : Int)) = true := decide_eq_true c14
                            clear c14
                            (first | rw [c14b0] | (simp only [i64_w, i32_w]; rw [c14b0]) | skip)
                            by_cases c15 : 0 ≤ x8_4
                            · rw [if_pos c15] at H
                              have c15b0 : decide (0 ≤ x8_4) = true := decide_eq_true c15
                              clear c15
                              by_cases c16 : 0 ≤ (rd x3_3 x8_4)
                              · rw [if_pos c16] at H
                                have c16b0 : decide (0 ≤ (rd x3_3 x8_4)) = true := decide_eq_true c16
                                clear c16
                                by_cases c17 : (rd x3_3 x8_4) < (t114.length : Int)
                                · rw [if_pos c17] at H
                                  have c17b0 : decide ((rd x3_3 x8_4) < (t114.length : Int)) = true := decide_eq_true c17
                                  clear c17
                                  by_cases c18 : (rd t114 (rd x3_3 x8_4)) ≥ x6_2
                                  · rw [if_pos c18] at H
                                    have c18b0 : decide (x6_2 ≤ (rd t114 (rd x3_3 x8_4))) = true := decide_eq_true c18
                                    clear c18
                                    have H' := Aside0.mk H
                                    clear H
                                    have p121 : 0 ≤ (x8_4 : Int) := of_decide_eq_true (by first | (with_reducible assumption) | assumption)
                                    have q121 : x8_4 < (x3_3.length : Int) := of_decide_eq_true (by first | (with_reducible assumption) | assumption)
                                    obtain ⟨ad121, e121, hx121_0⟩ := Kd.at_int (Kd.R_reads' HO_3.out).2.2 x8_4 p121 q121
                                    cases e121
                                    replace p121 := eq_true p121
                                    replace q121 := eq_true q121
                                    have p122 : 0 ≤ ((rd x3_3 x8_4) : Int) := of_decide_eq_true (by first | (with_reducible assumption) | assumption)
                                    have q122 : (rd x3_3 x8_4) < (t114.length : Int) := of_decide_eq_true (by first | (with_reducible assumption) | assumption)
                                    obtain ⟨ad122, e122, hx122_0⟩ := Kd.at_int (Kd.R_reads' HO_0.out).2.2 (rd x3_3 x8_4) p122 q122
                                    cases e122
                                    replace p122 := eq_true p122
                                    replace q122 := eq_true q122
                                    go_wp2
                                    go_roundg k4
                                    case measure => have := HK1.out; have := HK2.out; have := HK3.out; have := HK4.out; omega
                                    case rel => exact ⟨(wrap64 (x8_4 + 1)), (by first | rfl | (simp; done) | (simp [*]; done)), H', ⟨by have := HK1.out; have := HK2.out; have := HK3.out; have := HK4.out; omega⟩, ⟨by (with_reducible repeat (first | apply Kd.R_alloc | apply Kd.R_drewN | apply Kd.R_drew)); exact HO_0.out⟩, ⟨by (with_reducible repeat (first | apply Kd.R_alloc | apply Kd.R_drewN | apply Kd.R_drew)); exact HO_3.out⟩, ⟨by repeat (first | (with_reducible first | exact HB.out | apply below_alloc | apply pw_below_drewN | apply below_drew1) | exact HB.out)⟩⟩
                                  · rw [if_neg c18] at H
                                    have c18b0 : decide (x6_2 ≤ (rd t114 (rd x3_3 x8_4))) = false := decide_eq_false c18
                                    clear c18
                                    have H' := Aside0.mk H
                                    clear H
                                    have p121 : 0 ≤ (x8_4 : Int) := of_decide_eq_true (by first | (with_reducible assumption) | assumption)
                                    have q121 : x8_4 < (x3_3.length : Int) := of_decide_eq_true (by first | (with_reducible assumption) | assumption)
                                    obtain ⟨ad121, e121, hx121_0⟩ := Kd.at_int (Kd.R_reads' HO_3.out).2.2 x8_4 p121 q121
                                    cases e121
                                    replace p121 := eq_true p121
                                    replace q121 := eq_true q121
                                    have p122 : 0 ≤ ((rd x3_3 x8_4) : Int) := of_decide_eq_true (by first | (with_reducible assumption) | assumption)
                                    have q122 : (rd x3_3 x8_4) < (t114.length : Int) := of_decide_eq_true (by first | (with_reducible assumption) | assumption)
                                    obtain ⟨ad122, e122, hx122_0⟩ := Kd.at_int (Kd.R_reads' HO_0.out).2.2 (rd x3_3 x8_4) p122 q122
                                    cases e122
                                    replace p122 := eq_true p122
                                    replace q122 := eq_true q122
                                    go_wp2
                                    go_meet
                                    case rel => exact ⟨_, (x8_4), (by first | rfl | (simp; done) | (simp [*]; done)), H', ⟨by have := HK1.out; have := HK2.out; have := HK3.out; have := HK4.out; first | omega | exact Nat.le_refl _⟩, ⟨by (with_reducible repeat (first | apply Kd.R_alloc | apply Kd.R_drewN | apply Kd.R_drew)); exact HO_0.out⟩, ⟨by (with_reducible repeat (first | apply Kd.R_alloc | apply Kd.R_drewN | apply Kd.R_drew)); exact HO_3.out⟩, ⟨by repeat (first | (with_reducible first | exact HB.out | apply below_alloc | apply pw_below_drewN | apply below_drew1) | exact HB.out)⟩⟩
                                · rw [if_neg c17] at H
                                  exact absurd H (by simp)
                              · rw [if_neg c16] at H
                                exact absurd H (by simp)
                            · rw [if_neg c15] at H
                              exact absurd H (by simp)
                          · rw [if_neg c14] at H
                            have c14b0 : decide (x8_4 < (x3_3.length : Int)) = false := decide_eq_false c14
                            clear c14
                            (first | rw [c14b0] | (simp only [i64_w, i32_w]; rw [c14b0]) | skip)
                            have H' := Aside0.mk H
                            clear H
                            go_wp2
                            go_meet
                            case rel => exact ⟨_, (x8_4), (by first | rfl | (simp; done) | (simp [*]; done)), H', ⟨by have := HK1.out; have := HK2.out; have := HK3.out; have := HK4.out; first | omega | exact Nat.le_refl _⟩, ⟨by (with_reducible repeat (first | apply Kd.R_alloc | apply Kd.R_drewN | apply Kd.R_drew)); exact HO_0.out⟩, ⟨by (with_reducible repeat (first | apply Kd.R_alloc | apply Kd.R_drewN | apply Kd.R_drew)); exact HO_3.out⟩, ⟨by repeat (first | (with_reducible first | exact HB.out | apply below_alloc | apply pw_below_drewN | apply below_drew1) | exact HB.out)⟩⟩
                    case rest =>
                      clear HC12
                      try clear c1
                      try clear p1
                      try clear q1
                      try clear hx1
                      try clear c2
                      try clear p2
                      try clear c5
                      try clear p6
                      try clear c7
                      try clear c7b0
                      try clear c8
                      try clear c8b0
                      try clear c10
                      try clear c10b0
                      try clear c11
                      try clear c11b0
                      try clear p12
                      try clear q12
                      try clear hx12
                      try clear c14
                      try clear c14b0
                      try clear c15
                      try clear c15b0
                      try clear c16
                      try clear c16b0
                      try clear c17
                      try clear c17b0
                      try clear c18
                      try clear c18b0
                      try clear hx120_0
                      try clear hx121_0
                      try clear hx122_0
                      try clear p1
                      try clear p12
                      try clear p120
                      try clear p121
                      try clear p122
                      try clear p2
                      try clear p6
                      try clear q1
                      try clear q12
                      try clear q120
                      try clear q121
                      try clear q122
                      obtain ⟨kq, x8_11, rfl, HA, HJ11, HO_0, HO_3, HB⟩ := hcut
                      cases kq with
                      | zero => exact absurd HA.out (by simp [naskhref29_Visual.j4])
                      | succ kj11 =>
                        have H := HA.out
                        clear HA
                        simp only [naskhref29_Visual.j4] at H
                        replace H := Option.bind_eq_some_iff.mp H
                        obtain ⟨t123, A190, H⟩ := H
                        replace H : (if t123 = true then ((naskhref29_turn.f kj11 x3_3 x7_3 x8_11).bind fun t124 => (naskhref29_Visual.l2 kj11 t114 t124 x6_2 (wrap64 ((mx x7_3 (wrap64 (x8_11 - 1))) + 1)))) else (naskhref29_Visual.l2 kj11 t114 x3_3 x6_2 (wrap64 ((mx x7_3 (wrap64 (x8_11 - 1))) + 1)))) = some r := H
                        have A19 := Aside0.mk A190
                        clear A190
                        by_cases c20 : t123 = true
                        · subst c20
                          have H1 : ((naskhref29_turn.f kj11 x3_3 x7_3 x8_11).bind fun t124 => (naskhref29_Visual.l2 kj11 t114 t124 x6_2 (wrap64 ((mx x7_3 (wrap64 (x8_11 - 1))) + 1)))) = some r := by rw [if_pos rfl] at H; exact H
                          clear H
                          have H := H1
                          clear H1
                          replace H := Option.bind_eq_some_iff.mp H
                          obtain ⟨t124, A210, H⟩ := H
                          replace H : (naskhref29_Visual.l2 kj11 t114 t124 x6_2 (wrap64 ((mx x7_3 (wrap64 (x8_11 - 1))) + 1))) = some r := H
                          have A21 := Aside0.mk A210
                          clear A210
                          obtain ⟨ji22, hji22⟩ : ∃ j_ : Int, (mx x7_3 (wrap64 (x8_11 - 1))) = j_ := ⟨_, rfl⟩
                          replace H : (naskhref29_Visual.l2 kj11 t114 t124 x6_2 (wrap64 ((ji22) + 1))) = some r := by first | (rw [hji22] at H; exact H) | (simp only [hji22] at H ⊢; exact H)
                          (try rw [hji22] at A19)
                          (try rw [hji22] at A21)
                          have hji22_ : (if x7_3 < (wrap64 (x8_11 - 1)) then (wrap64 (x8_11 - 1)) else x7_3) = ji22 := hji22
                          have H' := Aside0.mk H
                          clear H
                          go_wp2_with (first | ((with_reducible refine gate_callee (f := 57) rfl ?_); refine goesL_ (some 57) rfl rfl Try.func57 (by kernel_rfl) rfl #[.slice Ao5 t114.length co5, .int .i64 x6_2] rfl (by (try simp only [List.map_toArray, List.map_cons, List.map_nil]); first | done | rfl | (simp only [List.length_drop, List.length_take]; rfl)) ?_; (with_reducible refine (naskhref29_odd.calls kj11 _ _ t114 x6_2 true _ ?side1 ?side2 A19.out).mono ?_); (case side1 => repeat (first | exact (Kd.R_reads' HO_0.out).2.2 | (with_reducible refine Kd.C_alloc ?_ _) | (with_reducible refine Kd.C_drewN ?_ _) | (with_reducible refine Kd.C_drew ?_))); (case side2 => exact (Kd.R_reads' HO_0.out).2.1); rintro e w' ⟨rfl, ⟨nd, rfl⟩⟩; refine ⟨_, rfl, ?_⟩) | ((with_reducible refine gate_callee (f := 58) rfl ?_); refine goesL_ (some 61) rfl rfl Try.func58 (by kernel_rfl) rfl #[.slice Ao13 x3_3.length co13, .int .i64 x7_3, .int .i64 x8_11] rfl (by (try simp only [List.map_toArray, List.map_cons, List.map_nil]); first | done | rfl | (simp only [List.length_drop, List.length_take]; rfl)) ?_; (with_reducible refine (naskhref29_turn.calls kj11 (fun k_ => some k_ = (.slice Ao13 x3_3.length co13 : Value).ownBlock) (.slice Ao13 x3_3.length co13) x3_3 x7_3 x8_11 t124 w _ ?side1 ?side2 A21.out).mono ?_); (case side1 => repeat (first | (with_reducible first | exact HB.out | apply below_alloc | apply pw_below_drewN | apply below_drew1) | exact HB.out)); (case side2 => exact Kd.R_tight rfl HO_3.out); rintro e w23 ⟨rfl, hy0, hb, hkp⟩; refine ⟨_, rfl, ?_⟩; have n0_ := Aside0.mk (Kd.R_mono (ok' := fun k_ => some k_ ≠ (.slice Ao13 x3_3.length co13 : Value).ownBlock) (Kd.R_keptB (HO_0.out) hkp (fun k_ hk_ hs_ => (hk_) hs_)) (fun k_ hk_ => hk_.1)); have n1_ := Aside0.mk (Kd.R_reok rfl hy0 (fun k_ e_ => HO_3.out.1 k_ e_)); have n2_ := Aside0.mk (hb); clear HO_0; clear HO_3; clear HB; have HO_0 := n0_; have HO_3 := n1_; have HB := n2_; clear n0_ n1_ n2_; (try clear hb); (try clear hkp); (try clear hy0)))
                          go_roundg kj11
                          case measure => have := HK1.out; have := HK2.out; have := HK3.out; have := HJ11.out; omega
                          case rel => exact ⟨(t124), (wrap64 ((ji22) + 1)), (by first | rfl | (simp; done) | (simp only [← hji22] <;> (first | rfl | simp)) | (simp [*]; done)), H', ⟨by have := HK1.out; have := HK2.out; have := HK3.out; have := HJ11.out; omega⟩, ⟨by (with_reducible repeat (first | apply Kd.R_alloc | apply Kd.R_drewN | apply Kd.R_drew)); exact HO_0.out⟩, ⟨by (with_reducible repeat (first | apply Kd.R_alloc | apply Kd.R_drewN | apply Kd.R_drew)); exact HO_3.out⟩, ⟨by repeat (first | (with_reducible first | exact HB.out | apply below_alloc | apply pw_below_drewN | apply below_drew1) | exact HB.out)⟩⟩
                        · replace c20 := Bool.eq_false_iff.mpr c20
                          subst c20
                          have H1 : (naskhref29_Visual.l2 kj11 t114 x3_3 x6_2 (wrap64 ((mx x7_3 (wrap64 (x8_11 - 1))) + 1))) = some r := by rw [if_neg (show ¬ (false = true) by decide)] at H; exact H
                          clear H
                          have H := H1
                          clear H1
                          obtain ⟨ji24, hji24⟩ : ∃ j_ : Int, (mx x7_3 (wrap64 (x8_11 - 1))) = j_ := ⟨_, rfl⟩
                          replace H : (naskhref29_Visual.l2 kj11 t114 x3_3 x6_2 (wrap64 ((ji24) + 1))) = some r := by first | (rw [hji24] at H; exact H) | (simp only [hji24] at H ⊢; exact H)
                          (try rw [hji24] at A19)
                          have hji24_ : (if x7_3 < (wrap64 (x8_11 - 1)) then (wrap64 (x8_11 - 1)) else x7_3) = ji24 := hji24
                          have H' := Aside0.mk H
                          clear H
                          go_wp2_with (first | ((with_reducible refine gate_callee (f := 57) rfl ?_); refine goesL_ (some 57) rfl rfl Try.func57 (by kernel_rfl) rfl #[.slice Ao5 t114.length co5, .int .i64 x6_2] rfl (by (try simp only [List.map_toArray, List.map_cons, List.map_nil]); first | done | rfl | (simp only [List.length_drop, List.length_take]; rfl)) ?_; (with_reducible refine (naskhref29_odd.calls kj11 _ _ t114 x6_2 false _ ?side1 ?side2 A19.out).mono ?_); (case side1 => repeat (first | exact (Kd.R_reads' HO_0.out).2.2 | (with_reducible refine Kd.C_alloc ?_ _) | (with_reducible refine Kd.C_drewN ?_ _) | (with_reducible refine Kd.C_drew ?_))); (case side2 => exact (Kd.R_reads' HO_0.out).2.1); rintro e w' ⟨rfl, ⟨nd, rfl⟩⟩; refine ⟨_, rfl, ?_⟩))
                          go_roundg kj11
                          case measure => have := HK1.out; have := HK2.out; have := HK3.out; have := HJ11.out; omega
                          case rel => exact ⟨(x3_3), (wrap64 ((ji24) + 1)), (by first | rfl | (simp; done) | (simp only [← hji24] <;> (first | rfl | simp)) | (simp [*]; done)), H', ⟨by have := HK1.out; have := HK2.out; have := HK3.out; have := HJ11.out; omega⟩, ⟨by (with_reducible repeat (first | apply Kd.R_alloc | apply Kd.R_drewN | apply Kd.R_drew)); exact HO_0.out⟩, ⟨by (with_reducible repeat (first | apply Kd.R_alloc | apply Kd.R_drewN | apply Kd.R_drew)); exact HO_3.out⟩, ⟨by repeat (first | (with_reducible first | exact HB.out | apply below_alloc | apply pw_below_drewN | apply below_drew1) | exact HB.out)⟩⟩
                  · rw [if_neg c11] at H
                    have c11b0 : decide (x7_3 < (x3_3.length : Int)) = false := decide_eq_false c11
                    clear c11
                    have H' := Aside0.mk H
                    clear H
                    obtain ⟨Ao25, co25, eo25⟩ := Kd.R_slice HO_3.out
                    subst eo25
                    go_wp2
                    go_roundg k3
                    case measure => have := HK1.out; have := HK2.out; have := HK3.out; omega
                    case rel => exact ⟨(x3_3), (wrap64 (x6_2 - 1)), (by first | rfl | (simp; done) | (simp [*]; done)), H', ⟨by have := HK1.out; have := HK2.out; have := HK3.out; omega⟩, ⟨by (with_reducible repeat (first | apply Kd.R_alloc | apply Kd.R_drewN | apply Kd.R_drew)); exact HO_0.out⟩, ⟨by (with_reducible repeat (first | apply Kd.R_alloc | apply Kd.R_drewN | apply Kd.R_drew)); exact HO_3.out⟩, ⟨by repeat (first | (with_reducible first | exact HB.out | apply below_alloc | apply pw_below_drewN | apply below_drew1) | exact HB.out)⟩⟩
            · rw [if_neg c10] at H
              have c10b0 : decide (1 ≤ x6_2) = false := decide_eq_false c10
              clear c10
              obtain rfl := Option.some.inj H
              go_wp2
              go_ret
              exact ⟨_, by first | rfl | (simp [errW_none, errW_some] <;> rfl) | (simp [*, errW_none, errW_some] <;> rfl), by (with_reducible repeat (first | apply Kd.R_alloc | apply Kd.R_drewN | apply Kd.R_drew)); exact Kd.R_mono HO_3.out (fun _ hk => trivial), by repeat (first | (with_reducible first | exact HB.out | apply below_alloc | apply pw_below_drewN | apply below_drew1) | exact HB.out)⟩

/-! ### bits_Mul32: function 106 -/
def bits_Mul32.f (a0 : Int) (a1 : Int) : Option (Int × Int) := some (((IntKind.u64.wrap ((IntKind.u64.wrap (a0)) * (IntKind.u64.wrap (a1)))) / 4294967296) % 4294967296, (IntKind.u64.wrap ((IntKind.u64.wrap (a0)) * (IntKind.u64.wrap (a1)))) % 4294967296)
set_option maxHeartbeats 8000000 in
set_option maxRecDepth 100000 in
theorem bits_Mul32.calls (a0 : Int) (a1 : Int) (r1 : Int) (r2 : Int) (w : World) (h : bits_Mul32.f a0 a1 = some (r1, r2)) :
    Calls Try.prog 106 #[.int .u32 a0, .int .u32 a1] w fun e w' => e = .returned (.tuple #[.int .u32 r1, .int .u32 r2]) ∧ Drawn0 w w' := by
  have H : (some (((IntKind.u64.wrap ((IntKind.u64.wrap (a0)) * (IntKind.u64.wrap (a1)))) / 4294967296) % 4294967296, (IntKind.u64.wrap ((IntKind.u64.wrap (a0)) * (IntKind.u64.wrap (a1)))) % 4294967296)) = some (r1, r2) := h
  clear h
  simp only [Option.some.injEq, Prod.mk.injEq] at H
  obtain ⟨rfl, rfl⟩ := H
  go_enter Try.func106, Try.ntmps106
  go_wp2
  go_ret2
  exact ⟨by first | rfl | (simp; done) | (simp [*]; done), by repeat (first | exact Drawn0.refl _ | apply Drawn0.step)⟩

/-! ### bits_Mul64: function 107 -/
def bits_Mul64.f (a0 : Int) (a1 : Int) : Option (Int × Int) := some (IntKind.u64.wrap ((IntKind.u64.wrap ((IntKind.u64.wrap ((a0 / 4294967296) * (a1 / 4294967296))) + ((IntKind.u64.wrap ((IntKind.u64.wrap ((a0 / 4294967296) * (Go.bits .and .u64 a1 4294967295))) + ((IntKind.u64.wrap ((Go.bits .and .u64 a0 4294967295) * (Go.bits .and .u64 a1 4294967295))) / 4294967296))) / 4294967296))) + ((IntKind.u64.wrap ((Go.bits .and .u64 (IntKind.u64.wrap ((IntKind.u64.wrap ((a0 / 4294967296) * (Go.bits .and .u64 a1 4294967295))) + ((IntKind.u64.wrap ((Go.bits .and .u64 a0 4294967295) * (Go.bits .and .u64 a1 4294967295))) / 4294967296))) 4294967295) + (IntKind.u64.wrap ((Go.bits .and .u64 a0 4294967295) * (a1 / 4294967296))))) / 4294967296)), IntKind.u64.wrap (a0 * a1))
set_option maxHeartbeats 8000000 in
set_option maxRecDepth 100000 in
theorem bits_Mul64.calls (a0 : Int) (a1 : Int) (r1 : Int) (r2 : Int) (w : World) (h : bits_Mul64.f a0 a1 = some (r1, r2)) :
    Calls Try.prog 107 #[.int .u64 a0, .int .u64 a1] w fun e w' => e = .returned (.tuple #[.int .u64 r1, .int .u64 r2]) ∧ Drawn0 w w' := by
  have H : (some (IntKind.u64.wrap ((IntKind.u64.wrap ((IntKind.u64.wrap ((a0 / 4294967296) * (a1 / 4294967296))) + ((IntKind.u64.wrap ((IntKind.u64.wrap ((a0 / 4294967296) * (Go.bits .and .u64 a1 4294967295))) + ((IntKind.u64.wrap ((Go.bits .and .u64 a0 4294967295) * (Go.bits .and .u64 a1 4294967295))) / 4294967296))) / 4294967296))) + ((IntKind.u64.wrap ((Go.bits .and .u64 (IntKind.u64.wrap ((IntKind.u64.wrap ((a0 / 4294967296) * (Go.bits .and .u64 a1 4294967295))) + ((IntKind.u64.wrap ((Go.bits .and .u64 a0 4294967295) * (Go.bits .and .u64 a1 4294967295))) / 4294967296))) 4294967295) + (IntKind.u64.wrap ((Go.bits .and .u64 a0 4294967295) * (a1 / 4294967296))))) / 4294967296)), IntKind.u64.wrap (a0 * a1))) = some (r1, r2) := h
  clear h
  simp only [Option.some.injEq, Prod.mk.injEq] at H
  obtain ⟨rfl, rfl⟩ := H
  go_enter Try.func107, Try.ntmps107
  go_wp2
  go_ret2
  exact ⟨by first | rfl | (simp; done) | (simp [*]; done), by repeat (first | exact Drawn0.refl _ | apply Drawn0.step)⟩

/-! ### bits_Mul: function 99 -/
def bits_Mul.f (a0 : Int) (a1 : Int) : Option (Int × Int) := (bits_Mul64.f a0 a1).bind fun bt125 => (some (bt125.1, bt125.2))
set_option maxHeartbeats 8000000 in
set_option maxRecDepth 100000 in
theorem bits_Mul.calls (a0 : Int) (a1 : Int) (r1 : Int) (r2 : Int) (w : World) (h : bits_Mul.f a0 a1 = some (r1, r2)) :
    Calls Try.prog 99 #[.int .u64 a0, .int .u64 a1] w fun e w' => e = .returned (.tuple #[.int .u64 r1, .int .u64 r2]) ∧ Drawn0 w w' := by
  have H : ((bits_Mul64.f a0 a1).bind fun bt125 => (some (bt125.1, bt125.2))) = some (r1, r2) := h
  clear h
  replace H := Option.bind_eq_some_iff.mp H
  obtain ⟨⟨t125, t126⟩, A30, H⟩ := H
  replace H : (some (t125, t126)) = some (r1, r2) := H
  have A3 := Aside0.mk A30
  clear A30
  simp only [Option.some.injEq, Prod.mk.injEq] at H
  obtain ⟨rfl, rfl⟩ := H
  go_enter Try.func99, Try.ntmps99
  go_wp2_with (first | ((with_reducible refine gate_callee (f := 107) rfl ?_); refine goesL_ (some 25) rfl rfl Try.func107 (by kernel_rfl) rfl #[.int .u64 a0, .int .u64 a1] rfl (by (try simp only [List.map_toArray, List.map_cons, List.map_nil]); first | done | rfl | (simp only [List.length_drop, List.length_take]; rfl)) ?_; (with_reducible refine (bits_Mul64.calls a0 a1 t125 t126 _ A3.out).mono ?_); rintro e w' ⟨rfl, ⟨nd, rfl⟩⟩; refine ⟨_, rfl, ?_⟩))
  go_ret2
  exact ⟨by first | rfl | (simp; done) | (simp [*]; done), by repeat (first | exact Drawn0.refl _ | apply Drawn0.step)⟩

/-! ### slices_Repeat_int_int: function 85 -/
def slices_Repeat_int_int.f (l0 : List Int) (a1 : Int) : Option (List Int) := if l0.length = 1 then (if 0 ≤ a1 then (if a1.toNat ≤ 35184372088832 then some (List.replicate a1.toNat (rd l0 0)) else none) else none) else none
theorem slices_Repeat_int_int.mul (n : Int) (h0 : 0 ≤ n) (h1 : n ≤ 35184372088832) : bits_Mul.f 1 n = some (0, n) := by
  have w : ∀ x : Int, 0 ≤ x → x < 18446744073709551616 → IntKind.u64.wrap x = x := fun x a b => by simp [IntKind.wrap_u64]; omega
  have ww : ∀ x : Int, 0 ≤ x → x < 2 ^ 62 → IntKind.u64.wrap x = x := fun x a b => w x a (by omega)
  have m1 : Go.bits .and .u64 n 4294967295 = n % 4294967296 := bits_mask .u64 62 (by decide) ww 32 (by decide) n h0 (by omega)
  have m2 : Go.bits .and .u64 1 4294967295 = 1 := by decide +kernel
  have m3 : ∀ x : Int, 0 ≤ x → x < 2 ^ 62 → Go.bits .and .u64 x 4294967295 = x % 4294967296 := fun x a b => bits_mask .u64 62 (by decide) ww 32 (by decide) x a b
  unfold bits_Mul.f bits_Mul64.f
  simp only [m1, m2, Option.bind_some]
  have e0 : (1 : Int) / 4294967296 = 0 := by decide
  rw [e0, Int.zero_mul, w 0 (by omega) (by omega), Int.one_mul, w (n % 4294967296) (by omega) (by omega)]
  have e1 : n % 4294967296 / 4294967296 = 0 := by omega
  have z0 : IntKind.u64.wrap 0 = 0 := by decide
  have z1 : Go.bits .and .u64 0 4294967295 = 0 := by decide +kernel
  have e2 : (0 : Int) / 4294967296 = 0 := by decide
  have e3 : n / 4294967296 / 4294967296 = 0 := by omega
  simp only [Int.zero_mul, z0, e1, Int.add_zero, Int.zero_add, z1, e2, Int.one_mul, w (n / 4294967296) (by omega) (by omega), e3, w n h0 (by omega)]
set_option maxHeartbeats 8000000 in
set_option maxRecDepth 100000 in
theorem slices_Repeat_int_int.calls (A0 : Option Addr) (c0 : Nat) (l0 : List Int) (a1 : Int) (r : List Int) (w : World) (hr0 : Kd.C (Kd.int .i64) w A0 l0.length l0) (hc0 : l0.length ≤ c0) (h : slices_Repeat_int_int.f l0 a1 = some r) :
    Calls Try.prog 85 #[.slice A0 l0.length c0, .int .i64 a1] w fun e w' => ∃ v0_ : Value, e = .returned (v0_) ∧ Kd.R (Kd.int .i64) 3 w' w.heap.size (fun _ => True) v0_ r ∧ Below w.heap.size w w' := by
  have HR0 := Aside0.mk hr0
  have HC0 := Aside0.mk hc0
  clear hr0 hc0
  have HB := Aside0.mk (Below.refl w.heap.size w)
  unfold slices_Repeat_int_int.f at h
  by_cases hl : l0.length = 1
  case neg => rw [if_neg hl] at h; cases h
  rw [if_pos hl] at h
  by_cases hn0 : 0 ≤ a1
  case neg => rw [if_neg hn0] at h; cases h
  rw [if_pos hn0] at h
  by_cases hn1 : a1.toNat ≤ 35184372088832
  case neg => rw [if_neg hn1] at h; cases h
  rw [if_pos hn1] at h
  obtain rfl := Option.some.inj h
  clear h
  obtain ⟨x, rfl⟩ : ∃ x, l0 = [x] := by
    match l0, hl with
    | [x], _ => exact ⟨x, rfl⟩
  obtain ⟨m, rfl⟩ := Int.eq_ofNat_of_zero_le hn0
  clear hl hn0
  have hm : m ≤ 35184372088832 := by omega
  clear hn1
  have hMUL := Aside0.mk (slices_Repeat_int_int.mul (m : Int) (by omega) (by omega))
  have hwr : IntKind.u64.wrap (m : Int) = m := by simp [IntKind.wrap_u64]; omega
  have hw64 : wrap64 (m : Int) = m := by unfold wrap64; omega
  have hd0 : decide ((m : Int) < 0) = false := decide_eq_false (by omega)
  have hd1 : decide (9223372036854775807 < (m : Int)) = false := decide_eq_false (by omega)
  have hA0 := Kd.at_int HR0.out 0 (by omega) (by simp)
  have hrd : rd [x] 0 = x := rfl
  rw [hrd] at hA0 ⊢
  rw [Int.toNat_natCast]
  obtain ⟨ad0, rfl, hx0⟩ := hA0
  have HX0 := Aside0.mk hx0
  clear hx0 hrd HR0 HC0
  have hm' := Aside0.mk hm
  clear hm
  have hi3 : (Try.prog.info? 3).map (·.size) = some 1 := by kernel_rfl
  have HI3 := Aside0.mk hi3
  clear hi3
  rcases Nat.eq_zero_or_pos m with hz | hp
  · subst hz
    have e0 : ((0 : Nat) : Int) = 0 := rfl
    rw [e0] at hMUL ⊢
    have hw0 : IntKind.u64.wrap 0 = 0 := by decide
    clear hwr hw64 hd0 hd1 e0
    go_enter Try.func85, Try.ntmps85
    go_wp2_with (first | (go_at_call 99; (with_reducible refine (bits_Mul.calls 1 0 0 0 _ hMUL.out).mono ?_); rintro e w2 ⟨rfl, nd, rfl⟩) | ((with_reducible refine gate_dst (N := 30) rfl ?_); refine Kd.R_make (Kd.int .i64) (w0 := w) w.heap.size 3 rfl (N := 30) rfl 22 _ _ rfl (0 : Int) (by first | rfl | (simp; done) | (go_simp; rfl)) (by first | rfl | (simp; done) | (go_simp; rfl)) Try.underlying22 (.int .i64 0) 8 info3 rfl (by decide) (by omega) 0 (ok := fun _ => True) (okp := fun _ => True) rfl (fun _ hk => hk) trivial (by omega) (by omega) (pw_below_drewN (Below.refl _ _) _) (Nat.le_refl _) ?_; intro v104 w4 ho5 hb hg_ hnew_; rw [Int.toNat_zero, List.replicate_zero] at ho5; clear hg_ hnew_; obtain ⟨A12, co12, eo12⟩ := Kd.R_slice ho5; rw [List.length_nil] at eo12; subst eo12; have HO := Aside0.mk ho5; have HB1 := Aside0.mk hb; clear ho5 hb) | ((with_reducible refine gate_builtin (b := .copy) (xs := #[.tmp 31, .tmp 32]) rfl ?_); refine wpList_copy_nothing rfl (.tmp 31) (.tmp 32) 22 22 rfl 3 Try.underlying22 HI3.out A12 (some ad0) 0 co12 1 c0 rfl rfl rfl ?_))
    go_loopg [8] 0 (fun kq v8 w' => v8 = .int .i64 0 ∧ Aside0 (Kd.R (Kd.int .i64) 3 w' w.heap.size (fun _ => True) (.slice A12 0 co12) ([] : List Int)) ∧ Aside0 (Below w.heap.size w w'))
    case atStart => exact ⟨rfl, HO, HB1⟩
    case round =>
      obtain ⟨rfl, HOj, HBj⟩ := hrel
      go_wp2
      go_ret
      exact ⟨_, rfl, HOj.out, HBj.out⟩
  · have HP := Aside0.mk hp
    clear hp
    go_enter Try.func85, Try.ntmps85
    go_wp2_with (first | (go_at_call 99; (with_reducible refine (bits_Mul.calls 1 (m : Int) 0 (m : Int) _ hMUL.out).mono ?_); rintro e w2 ⟨rfl, nd, rfl⟩) | ((with_reducible refine gate_dst (N := 30) rfl ?_); refine Kd.R_make (Kd.int .i64) (w0 := w) w.heap.size 3 rfl (N := 30) rfl 22 _ _ rfl (m : Int) (congrArg (Value.int .i64) hw64) (congrArg (Value.int .i64) hw64) Try.underlying22 (.int .i64 0) 8 info3 rfl (by decide) (by omega) 0 (ok := fun _ => True) (okp := fun _ => True) rfl (fun _ hk => hk) trivial (by omega) (by have := hm'.out; omega) (pw_below_drewN (Below.refl _ _) _) (Nat.le_refl _) ?_; intro v104 w4 ho5 hb hg_ hnew_; rw [Int.toNat_natCast] at ho5; clear hg_ hnew_; obtain ⟨go12, co12, eo12, gb12, gl12, cl12, HG12⟩ := Kd.R_form ho5 (by have := HP.out; simpa using this); rw [List.length_replicate] at eo12; subst eo12; have HO := Aside0.mk ho5; have HB1 := Aside0.mk hb; clear ho5 hb gb12 gl12 HG12) | ((with_reducible refine gate_builtin (b := .copy) (xs := #[.tmp 31, .tmp 32]) rfl ?_); refine Kd.R_copy (w0 := w) rfl (.tmp 31) (.tmp 32) 22 22 rfl 3 Try.underlying22 HI3.out 0 m co12 1 c0 ad0 rfl rfl HO.out [x] (Eq.symm (Nat.min_eq_left HP.out)) (by have := HP.out; simp; omega) (by intro j y hj; match j, hj with | 0, hj => (obtain rfl := Option.some.inj hj; exact (HB1.out.cell (World.block_lt_of_cell? w _ HX0.out)).trans HX0.out)) HB1.out ?_; intro w5 ho6 hb6; have HO6 := Aside0.mk ho6; have HB6 := Aside0.mk hb6; clear ho6 hb6 HO HB1))
    have hrow : List.take 0 (List.replicate m (0 : Int)) ++ ([x] ++ List.drop (0 + [x].length) (List.replicate m 0)) = List.replicate 1 x ++ List.replicate (m - 1) 0 := by simp
    rw [hrow] at HO6
    clear hrow
    go_loopg [8] (m - 1) (fun kq v8 w' => ∃ (j : Nat), v8 = .int .i64 (j : Int) ∧ Aside0 (1 ≤ j ∧ j ≤ m ∧ m - j = kq) ∧ Aside0 (Kd.R (Kd.int .i64) 3 w' w.heap.size (fun _ => True) (.slice (some ⟨go12, 0, none⟩) m co12) (List.replicate j x ++ List.replicate (m - j) 0)) ∧ Aside0 (Below w.heap.size w w'))
    case atStart => exact ⟨1, rfl, ⟨Nat.le_refl _, HP.out, rfl⟩, HO6, HB6⟩
    case round =>
      obtain ⟨j, rfl, HJ, HOj, HBj⟩ := hrel
      have hcap := Kd.R_cap HOj.out
      by_cases hjm : j < m
      · have hb : decide ((j : Int) < (m : Int)) = true := decide_eq_true (by omega)
        have hb2 : decide (j < m) = true := decide_eq_true hjm
        have hc41 := cut_own_from (P := Try.prog) 22 3 .i64 Try.underlying22 HI3.out go12 m co12 j hjm hcap
        have hc44 := cut_own_to (P := Try.prog) 22 3 .i64 Try.underlying22 HI3.out (some ⟨go12, 0, none⟩) m co12 j (Nat.le_of_lt hjm) hcap
        obtain ⟨q, hq⟩ : ∃ q, Nat.min j (m - j) = q := ⟨_, rfl⟩
        have HQ := Aside0.mk (show Nat.min j (m - j) = q ∧ q ≤ j ∧ j + q ≤ m ∧ 1 ≤ q from by
          have h1 := HJ.out
          have h2 : Nat.min j (m - j) ≤ m - j := Nat.min_le_right _ _
          have h3 : Nat.min j (m - j) ≤ j := Nat.min_le_left _ _
          have h4 : 1 ≤ Nat.min j (m - j) := Nat.le_min.mpr ⟨h1.1, by omega⟩
          omega)
        clear hq
        have HSRC : Aside0 (∀ (j' : Nat) (y : Int), (List.replicate q x)[j']? = some y → wr.cell? (Addr.add ⟨go12, 0, none⟩ j') = some (Value.int .i64 y)) := ⟨fun j' y hy => by
          rw [List.getElem?_replicate] at hy
          split at hy
          case isFalse => cases hy
          rename_i hj'
          obtain rfl := Option.some.inj hy
          have hjj : j' < j := Nat.lt_of_lt_of_le hj' HQ.out.2.1
          have hc := (Kd.R_celln (0 : Int) HOj.out (j' : Int) (by omega) (by omega)).1
          have ha : Addr.add ⟨go12, 0, none⟩ j' = ⟨go12, j', none⟩ := by simp [Addr.add]; intro h; exact h.symm
          rw [ha]
          simpa [rdOf, List.getElem?_append, hjj] using hc⟩
        have hwj : wrap64 ((j : Int) + (q : Int)) = ((j + q : Nat) : Int) := by have := HQ.out; have := hm'.out; unfold wrap64; omega
        clear hjm hcap
        have HOd := Aside0.mk (Kd.R_drew HOj.out)
        have HBd := Aside0.mk (below_drew1 HBj.out)
        have HSRCd : Aside0 (∀ (j' : Nat) (y : Int), (List.replicate q x)[j']? = some y → wr.drew.cell? (Addr.add ⟨go12, 0, none⟩ j') = some (Value.int .i64 y)) := ⟨HSRC.out⟩
        clear HSRC HOj HBj
        go_wp2
        refine start_ (n := 10) (S := fun _ => True) (ds := [7]) #[false, false, false, false, false, false, false, false, false, false] (by kernel_rfl) rfl rfl trivial (fun _ => ?_)
        generalize wr.drew = w10 at HOd HBd HSRCd ⊢
        refine pure_ (i := 0) (N := some 38) (v := ?_) (a' := ?_) #[true, false, false, false, false, false, false, false, false, false] rfl rfl (by kernel_rfl) (fun _ _ _ h => h) (Or.inl ⟨by rfl, ?_⟩) ?_ ?_
        rotate_left
        · intro w'
          go_simp
          with_reducible rfl
        rotate_left
        · simp only [Act.put, List.setIfInBounds_toArray, List.set_cons_zero, List.set_cons_succ, i64_w, i32_w]
          rfl
        refine pure_ (i := 1) (N := some 39) (v := ?_) (a' := ?_) #[true, true, false, false, false, false, false, false, false, false] rfl rfl (by kernel_rfl) (fun _ _ _ h => h) (Or.inl ⟨by rfl, ?_⟩) ?_ ?_
        rotate_left
        · intro w'
          go_simp
          with_reducible rfl
        rotate_left
        · simp only [Act.put, List.setIfInBounds_toArray, List.set_cons_zero, List.set_cons_succ, i64_w, i32_w]
          rfl
        refine pure_ (i := 2) (N := some 40) (v := ?_) (a' := ?_) #[true, true, true, false, false, false, false, false, false, false] rfl rfl (by kernel_rfl) (fun _ _ _ h => h) (Or.inl ⟨by rfl, ?_⟩) ?_ ?_
        rotate_left
        · intro w'
          go_simp
          with_reducible rfl
        rotate_left
        · simp only [Act.put, List.setIfInBounds_toArray, List.set_cons_zero, List.set_cons_succ, i64_w, i32_w]
          rfl
        refine pure_ (i := 3) (N := some 41) (v := ?_) (a' := ?_) #[true, true, true, true, false, false, false, false, false, false] rfl rfl (by kernel_rfl) (fun _ _ _ h => h) (Or.inl ⟨by rfl, ?_⟩) ?_ ?_
        rotate_left
        · intro w'
          go_simp
          with_reducible rfl
        rotate_left
        · simp only [Act.put, List.setIfInBounds_toArray, List.set_cons_zero, List.set_cons_succ, i64_w, i32_w]
          rfl
        refine pure_ (i := 4) (N := some 42) (v := ?_) (a' := ?_) #[true, true, true, true, true, false, false, false, false, false] rfl rfl (by kernel_rfl) (fun _ _ _ h => h) (Or.inl ⟨by rfl, ?_⟩) ?_ ?_
        rotate_left
        · intro w'
          go_simp
          with_reducible rfl
        rotate_left
        · simp only [Act.put, List.setIfInBounds_toArray, List.set_cons_zero, List.set_cons_succ, i64_w, i32_w]
          rfl
        refine pure_ (i := 5) (N := some 43) (v := ?_) (a' := ?_) #[true, true, true, true, true, true, false, false, false, false] rfl rfl (by kernel_rfl) (fun _ _ _ h => h) (Or.inl ⟨by rfl, ?_⟩) ?_ ?_
        rotate_left
        · intro w'
          go_simp
          with_reducible rfl
        rotate_left
        · simp only [Act.put, List.setIfInBounds_toArray, List.set_cons_zero, List.set_cons_succ, i64_w, i32_w]
          rfl
        refine pure_ (i := 6) (N := some 44) (v := ?_) (a' := ?_) #[true, true, true, true, true, true, true, false, false, false] rfl rfl (by kernel_rfl) (fun _ _ _ h => h) (Or.inl ⟨by rfl, ?_⟩) ?_ ?_
        rotate_left
        · intro w'
          go_simp
          with_reducible rfl
        rotate_left
        · simp only [Act.put, List.setIfInBounds_toArray, List.set_cons_zero, List.set_cons_succ, i64_w, i32_w]
          rfl
        refine last_ (i := 7) (N := some 45) #[true, true, true, true, true, true, true, true, false, false] rfl rfl (by kernel_rfl) (by decide) (fun K hK => ?_)
        refine Kd.R_copy_step (w0 := w) (N := 45) rfl rfl (.tmp 41) (.tmp 44) 22 22 rfl 3 Try.underlying22 HI3.out j (m - j) (co12 - j) j co12 ⟨go12, 0, none⟩ rfl rfl HOd.out (List.replicate q x) (by rw [List.length_replicate]; exact HQ.out.1.symm) (by have h1 := HQ.out; rw [List.length_replicate]; omega) HSRCd.out HBd.out ?_
        intro w7 ho7 hb7
        have HO7 := Aside0.mk ho7
        have HB7 := Aside0.mk hb7
        clear ho7 hb7
        refine hK.out _ _ ?_
        clear hK K
        simp only [Act.put, List.setIfInBounds_toArray, List.set_cons_zero, List.set_cons_succ, goInt, List.length_replicate]
        refine pure_ (i := 8) (N := some 46) (v := ?_) (a' := ?_) #[true, true, true, true, true, true, true, true, true, false] rfl rfl (by kernel_rfl) (fun _ _ _ h => h) (Or.inl ⟨by rfl, ?_⟩) ?_ ?_
        rotate_left
        · intro w'
          go_simp
          with_reducible rfl
        rotate_left
        · simp only [Act.put, List.setIfInBounds_toArray, List.set_cons_zero, List.set_cons_succ, i64_w, i32_w]
          rfl
        refine pure_ (i := 9) (N := some 8) (v := ?_) (a' := ?_) #[true, true, true, true, true, true, true, true, true, true] rfl rfl (by kernel_rfl) (fun _ _ _ h => h) (Or.inl ⟨by rfl, ?_⟩) ?_ ?_
        rotate_left
        · intro w'
          go_simp
          with_reducible rfl
        rotate_left
        · simp only [Act.put, List.setIfInBounds_toArray, List.set_cons_zero, List.set_cons_succ, i64_w, i32_w]
          rfl
        refine done_ (by kernel_rfl) ?_
        go_wp2
        go_roundg (m - (j + q))
        case measure => have h1 := HJ.out; have h2 := HQ.out; omega
        case rel =>
          have h2 := HQ.out
          have hrow : List.take j (List.replicate j x ++ List.replicate (m - j) 0) ++ (List.replicate q x ++ List.drop (j + (List.replicate q x).length) (List.replicate j x ++ List.replicate (m - j) 0)) = List.replicate (j + q) x ++ List.replicate (m - (j + q)) (0 : Int) := by
            rw [List.length_replicate, List.take_append_of_le_length (by simp), List.take_of_length_le (by simp), List.drop_append, List.length_replicate, List.drop_eq_nil_of_le (by simp), List.nil_append, List.drop_replicate, ← List.append_assoc, List.replicate_append_replicate]
            congr 2
            omega
          rw [hrow] at HO7
          exact ⟨j + q, rfl, ⟨by omega, by omega, rfl⟩, HO7, HB7⟩
      · have hb : decide ((j : Int) < (m : Int)) = false := decide_eq_false (by omega)
        have hb2 : decide (j < m) = false := decide_eq_false hjm
        have hj : j = m := by have := HJ.out; omega
        subst hj
        rw [Nat.sub_self, List.replicate_zero, List.append_nil] at HOj
        clear hjm hcap
        go_wp2
        go_ret
        exact ⟨_, rfl, HOj.out, HBj.out⟩

end Go.Proofs.Ytmkgihmchkphaaa.PCaretHits
