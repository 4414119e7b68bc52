-- PRINTED by print.py (a twelfth state) out of the translation. Not trusted: Lean checks it.
import Derived.Test.YtjnhepgjkphkoaaPRunsTellx0
import Derived.Test.YtjnhepgjkphkoaaPRunsTellx3
import Derived.Test.YtjnhepgjkphkoaaPRunsTellx4
namespace Go.Proofs.Ytjnhepgjkphkoaa.PRunsTell
open Go.RowKit Go.Proofs.YtjnhepgjkphkoaaM Go.Proofs.YtjnhepgjkphkoaaW.PrintWords Go.Proofs.YtjnhepgjkphkoaaW.PrintLast Go.Proofs.YtjnhepgjkphkoaaW.PrintMore
attribute [local go_sem] max2_int min2_int max_two min_two max_three min_three max_four min_four   -- for this text's walks alone
set_option linter.unusedVariables false
set_option linter.unusedSimpArgs false

/-! ### naskhref30_Visual: function 35 -/
mutual
def naskhref30_Visual.l0 : Nat → List (S35) → Int → Int → Option ((List (S35)))
  | 0, _, _, _ => none
  | k + 1, x3, x4, x5 => if x4 > 0 then (naskhref30_Visual.j1 k x3 x4 x5 (decide (x5 ≥ x4))) else (naskhref30_Visual.j1 k x3 x4 x5 false)
def naskhref30_Visual.j1 : Nat → List (S35) → Int → Int → Bool → Option ((List (S35)))
  | 0, _, _, _, _ => none
  | k + 1, x3, x4, x5, x20 => if x20 = true then (naskhref30_Visual.l1 k x3 x4 x5 0) else (some x3)
def naskhref30_Visual.l1 : Nat → List (S35) → Int → Int → Int → Option ((List (S35)))
  | 0, _, _, _, _ => none
  | k + 1, x3, x4, x5, x6 => if x6 < (x3.length : Int) then (naskhref30_Visual.l2 k x3 x4 x5 x6 x6) else (naskhref30_Visual.l0 k x3 x4 (wrap64 (x5 - 1)))
def naskhref30_Visual.j4 : Nat → List (S35) → Int → Int → Int → Int → Option ((List (S35)))
  | 0, _, _, _, _, _ => none
  | k + 1, x3, x4, x5, x6, x7 => naskhref30_Visual.l3 k x3 x4 x5 x6 x7 x6 (wrap64 (x7 - 1))
def naskhref30_Visual.l3 : Nat → List (S35) → Int → Int → Int → Int → Int → Int → Option ((List (S35)))
  | 0, _, _, _, _, _, _, _ => none
  | k + 1, x3, x4, x5, x6, x7, x8, x9 => if x8 < x9 then (if 0 ≤ x9 then (if x9 < (x3.length : Int) then (if 0 ≤ x8 then (if x8 < (x3.length : Int) then (naskhref30_Visual.l3 k ((x3.set (x8 : Int).toNat (⟨(⟨(rd_T35 x3 x9).f0.f0, (rd_T35 x3 x9).f0.f1⟩ : S33), (rd_T35 x3 x9).f1⟩ : S35)).set (x9 : Int).toNat (⟨(⟨(rd_T35 x3 x8).f0.f0, (rd_T35 x3 x8).f0.f1⟩ : S33), (rd_T35 x3 x8).f1⟩ : S35)) x4 x5 x6 x7 (wrap64 (x8 + 1)) (wrap64 (x9 - 1))) else (none)) else (none)) else (none)) else (none)) else (naskhref30_Visual.l1 k x3 x4 x5 (wrap64 ((mx x6 (wrap64 (x7 - 1))) + 1)))
def naskhref30_Visual.l2 : Nat → List (S35) → Int → Int → Int → Int → Option ((List (S35)))
  | 0, _, _, _, _, _ => none
  | k + 1, x3, x4, x5, x6, x7 => if x7 < (x3.length : Int) then (if 0 ≤ x7 then ((naskhref30_held.f ((rd_T35 x3 x7).f1)).bind fun t195 => (if t195 ≥ x5 then (naskhref30_Visual.l2 k x3 x4 x5 x6 (wrap64 (x7 + 1))) else (naskhref30_Visual.j4 k x3 x4 x5 x6 x7))) else (none)) else (naskhref30_Visual.j4 k x3 x4 x5 x6 x7)
end
def naskhref30_Visual.f (k : Nat) (l0 : List Int) : Option ((List (S35))) := (naskhref30_Logical.f k l0).bind fun t190 => ((naskhref30_least.f k t190).bind fun t193 => (naskhref30_Visual.l0 k t190 t193 126))
theorem naskhref30_Visual.mono_l : ∀ k, (∀ y0 y1 y2, LeO (naskhref30_Visual.l0 k y0 y1 y2) (naskhref30_Visual.l0 (k + 1) y0 y1 y2)) ∧ (∀ y0 y1 y2 y3, LeO (naskhref30_Visual.j1 k y0 y1 y2 y3) (naskhref30_Visual.j1 (k + 1) y0 y1 y2 y3)) ∧ (∀ y0 y1 y2 y3, LeO (naskhref30_Visual.l1 k y0 y1 y2 y3) (naskhref30_Visual.l1 (k + 1) y0 y1 y2 y3)) ∧ (∀ y0 y1 y2 y3 y4, LeO (naskhref30_Visual.j4 k y0 y1 y2 y3 y4) (naskhref30_Visual.j4 (k + 1) y0 y1 y2 y3 y4)) ∧ (∀ y0 y1 y2 y3 y4 y5 y6, LeO (naskhref30_Visual.l3 k y0 y1 y2 y3 y4 y5 y6) (naskhref30_Visual.l3 (k + 1) y0 y1 y2 y3 y4 y5 y6)) ∧ (∀ y0 y1 y2 y3 y4, LeO (naskhref30_Visual.l2 k y0 y1 y2 y3 y4) (naskhref30_Visual.l2 (k + 1) y0 y1 y2 y3 y4))
  | 0 => ⟨fun _ _ _ r h => by simp [naskhref30_Visual.l0] at h, fun _ _ _ _ r h => by simp [naskhref30_Visual.j1] at h, fun _ _ _ _ r h => by simp [naskhref30_Visual.l1] at h, fun _ _ _ _ _ r h => by simp [naskhref30_Visual.j4] at h, fun _ _ _ _ _ _ _ r h => by simp [naskhref30_Visual.l3] at h, fun _ _ _ _ _ r h => by simp [naskhref30_Visual.l2] at h⟩
  | k + 1 => by
    obtain ⟨ih0, ih1, ih2, ih3, ih4, ih5⟩ := naskhref30_Visual.mono_l k
    refine ⟨?_, ?_, ?_, ?_, ?_, ?_⟩
    · intro y0 y1 y2
      unfold naskhref30_Visual.l0
      repeat' first
      | (with_reducible exact ih0 _ _ _)
      | (with_reducible exact ih1 _ _ _ _)
      | (with_reducible exact ih2 _ _ _ _)
      | (with_reducible exact ih3 _ _ _ _ _)
      | (with_reducible exact ih4 _ _ _ _ _ _ _)
      | (with_reducible exact ih5 _ _ _ _ _)
      | (with_reducible exact naskhref30_Logical.mono _ _)
      | (with_reducible exact naskhref30_least.mono _ _)
      | (with_reducible exact LeO.refl _)
      | (with_reducible exact LeO.none _)
      | (with_reducible refine LeO.ite ?_ ?_)
      | (with_reducible refine LeO.bind ?_ (fun _ => ?_))
      | exact ih0 _ _ _
      | exact ih1 _ _ _ _
      | exact ih2 _ _ _ _
      | exact ih3 _ _ _ _ _
      | exact ih4 _ _ _ _ _ _ _
      | exact ih5 _ _ _ _ _
      | exact naskhref30_Logical.mono _ _
      | exact naskhref30_least.mono _ _
      | exact LeO.none _
      | refine LeO.ite ?_ ?_
      | refine LeO.bind ?_ (fun _ => ?_)
    · intro y0 y1 y2 y3
      unfold naskhref30_Visual.j1
      repeat' first
      | (with_reducible exact ih0 _ _ _)
      | (with_reducible exact ih1 _ _ _ _)
      | (with_reducible exact ih2 _ _ _ _)
      | (with_reducible exact ih3 _ _ _ _ _)
      | (with_reducible exact ih4 _ _ _ _ _ _ _)
      | (with_reducible exact ih5 _ _ _ _ _)
      | (with_reducible exact naskhref30_Logical.mono _ _)
      | (with_reducible exact naskhref30_least.mono _ _)
      | (with_reducible exact LeO.refl _)
      | (with_reducible exact LeO.none _)
      | (with_reducible refine LeO.ite ?_ ?_)
      | (with_reducible refine LeO.bind ?_ (fun _ => ?_))
      | exact ih0 _ _ _
      | exact ih1 _ _ _ _
      | exact ih2 _ _ _ _
      | exact ih3 _ _ _ _ _
      | exact ih4 _ _ _ _ _ _ _
      | exact ih5 _ _ _ _ _
      | exact naskhref30_Logical.mono _ _
      | exact naskhref30_least.mono _ _
      | exact LeO.none _
      | refine LeO.ite ?_ ?_
      | refine LeO.bind ?_ (fun _ => ?_)
    · intro y0 y1 y2 y3
      unfold naskhref30_Visual.l1
      repeat' first
      | (with_reducible exact ih0 _ _ _)
      | (with_reducible exact ih1 _ _ _ _)
      | (with_reducible exact ih2 _ _ _ _)
      | (with_reducible exact ih3 _ _ _ _ _)
      | (with_reducible exact ih4 _ _ _ _ _ _ _)
      | (with_reducible exact ih5 _ _ _ _ _)
      | (with_reducible exact naskhref30_Logical.mono _ _)
      | (with_reducible exact naskhref30_least.mono _ _)
      | (with_reducible exact LeO.refl _)
      | (with_reducible exact LeO.none _)
      | (with_reducible refine LeO.ite ?_ ?_)
      | (with_reducible refine LeO.bind ?_ (fun _ => ?_))
      | exact ih0 _ _ _
      | exact ih1 _ _ _ _
      | exact ih2 _ _ _ _
      | exact ih3 _ _ _ _ _
      | exact ih4 _ _ _ _ _ _ _
      | exact ih5 _ _ _ _ _
      | exact naskhref30_Logical.mono _ _
      | exact naskhref30_least.mono _ _
      | exact LeO.none _
      | refine LeO.ite ?_ ?_
      | refine LeO.bind ?_ (fun _ => ?_)
    · intro y0 y1 y2 y3 y4
      unfold naskhref30_Visual.j4
      repeat' first
      | (with_reducible exact ih0 _ _ _)
      | (with_reducible exact ih1 _ _ _ _)
      | (with_reducible exact ih2 _ _ _ _)
      | (with_reducible exact ih3 _ _ _ _ _)
      | (with_reducible exact ih4 _ _ _ _ _ _ _)
      | (with_reducible exact ih5 _ _ _ _ _)
      | (with_reducible exact naskhref30_Logical.mono _ _)
      | (with_reducible exact naskhref30_least.mono _ _)
      | (with_reducible exact LeO.refl _)
      | (with_reducible exact LeO.none _)
      | (with_reducible refine LeO.ite ?_ ?_)
      | (with_reducible refine LeO.bind ?_ (fun _ => ?_))
      | exact ih0 _ _ _
      | exact ih1 _ _ _ _
      | exact ih2 _ _ _ _
      | exact ih3 _ _ _ _ _
      | exact ih4 _ _ _ _ _ _ _
      | exact ih5 _ _ _ _ _
      | exact naskhref30_Logical.mono _ _
      | exact naskhref30_least.mono _ _
      | exact LeO.none _
      | refine LeO.ite ?_ ?_
      | refine LeO.bind ?_ (fun _ => ?_)
    · intro y0 y1 y2 y3 y4 y5 y6
      unfold naskhref30_Visual.l3
      repeat' first
      | (with_reducible exact ih0 _ _ _)
      | (with_reducible exact ih1 _ _ _ _)
      | (with_reducible exact ih2 _ _ _ _)
      | (with_reducible exact ih3 _ _ _ _ _)
      | (with_reducible exact ih4 _ _ _ _ _ _ _)
      | (with_reducible exact ih5 _ _ _ _ _)
      | (with_reducible exact naskhref30_Logical.mono _ _)
      | (with_reducible exact naskhref30_least.mono _ _)
      | (with_reducible exact LeO.refl _)
      | (with_reducible exact LeO.none _)
      | (with_reducible refine LeO.ite ?_ ?_)
      | (with_reducible refine LeO.bind ?_ (fun _ => ?_))
      | exact ih0 _ _ _
      | exact ih1 _ _ _ _
      | exact ih2 _ _ _ _
      | exact ih3 _ _ _ _ _
      | exact ih4 _ _ _ _ _ _ _
      | exact ih5 _ _ _ _ _
      | exact naskhref30_Logical.mono _ _
      | exact naskhref30_least.mono _ _
      | exact LeO.none _
      | refine LeO.ite ?_ ?_
      | refine LeO.bind ?_ (fun _ => ?_)
    · intro y0 y1 y2 y3 y4
      unfold naskhref30_Visual.l2
      repeat' first
      | (with_reducible exact ih0 _ _ _)
      | (with_reducible exact ih1 _ _ _ _)
      | (with_reducible exact ih2 _ _ _ _)
      | (with_reducible exact ih3 _ _ _ _ _)
      | (with_reducible exact ih4 _ _ _ _ _ _ _)
      | (with_reducible exact ih5 _ _ _ _ _)
      | (with_reducible exact naskhref30_Logical.mono _ _)
      | (with_reducible exact naskhref30_least.mono _ _)
      | (with_reducible exact LeO.refl _)
      | (with_reducible exact LeO.none _)
      | (with_reducible refine LeO.ite ?_ ?_)
      | (with_reducible refine LeO.bind ?_ (fun _ => ?_))
      | exact ih0 _ _ _
      | exact ih1 _ _ _ _
      | exact ih2 _ _ _ _
      | exact ih3 _ _ _ _ _
      | exact ih4 _ _ _ _ _ _ _
      | exact ih5 _ _ _ _ _
      | exact naskhref30_Logical.mono _ _
      | exact naskhref30_least.mono _ _
      | exact LeO.none _
      | refine LeO.ite ?_ ?_
      | refine LeO.bind ?_ (fun _ => ?_)
theorem naskhref30_Visual.mono : ∀ a0 k, LeO (naskhref30_Visual.f k a0) (naskhref30_Visual.f (k + 1) a0) := by
  intro a0 k
  obtain ⟨ih0, ih1, ih2, ih3, ih4, ih5⟩ := naskhref30_Visual.mono_l k
  unfold naskhref30_Visual.f
  repeat' first
      | (with_reducible exact ih0 _ _ _)
      | (with_reducible exact ih1 _ _ _ _)
      | (with_reducible exact ih2 _ _ _ _)
      | (with_reducible exact ih3 _ _ _ _ _)
      | (with_reducible exact ih4 _ _ _ _ _ _ _)
      | (with_reducible exact ih5 _ _ _ _ _)
      | (with_reducible exact naskhref30_Logical.mono _ _)
      | (with_reducible exact naskhref30_least.mono _ _)
      | (with_reducible exact LeO.refl _)
      | (with_reducible exact LeO.none _)
      | (with_reducible refine LeO.ite ?_ ?_)
      | (with_reducible refine LeO.bind ?_ (fun _ => ?_))
      | exact ih0 _ _ _
      | exact ih1 _ _ _ _
      | exact ih2 _ _ _ _
      | exact ih3 _ _ _ _ _
      | exact ih4 _ _ _ _ _ _ _
      | exact ih5 _ _ _ _ _
      | exact naskhref30_Logical.mono _ _
      | exact naskhref30_least.mono _ _
      | exact LeO.none _
      | refine LeO.ite ?_ ?_
      | refine LeO.bind ?_ (fun _ => ?_)
def naskhref30_Visual.T14 : Bool × List (List Nat × List Nat) := (true, [([], []), ([], []), ([], []), ([], []), ([], []), ([], []), ([4, 5], [4, 5]), ([6], [6]), ([], []), ([], []), ([8, 9], [8, 9]), ([10], [10]), ([0, 1, 0, 1, 4, 5, 6, 7, 11], [0, 1]), ([12, 7, 0, 1, 4, 5, 6, 7, 11], [7, 12]), ([2, 3, 0, 1, 2, 3, 4, 5, 6, 7, 8, 9, 10, 11, 12, 13], [2, 3]), ([14, 11, 13, 0, 1, 2, 3, 4, 5, 6, 7, 8, 9, 10, 11, 12, 13], [11, 14])])
def naskhref30_Visual.B14 : List Nat := [0, 0, 0, 0, 0, 0, 48, 112, 0, 0, 768, 1792, 4083, 8179, 16383, 32767]
theorem naskhref30_Visual.tab14 : rtab .any (opsOf Try.f35 14) = naskhref30_Visual.T14 := by kernel_rfl
theorem naskhref30_Visual.bits14 : waitsOk naskhref30_Visual.T14.2 naskhref30_Visual.B14 = true := by kernel_rfl
set_option maxHeartbeats 8000000 in
set_option maxRecDepth 100000 in
theorem naskhref30_Visual.calls (k : Nat) (A0 : Option Addr) (c0 : Nat) (l0 : List Int) (r : List (S35)) (w : World) (hr0 : Kd.C (Kd.int .i64) w A0 l0.length l0) (hc0 : l0.length ≤ c0) (h : naskhref30_Visual.f k l0 = some r) :
    Calls Try.prog 35 #[.slice A0 l0.length c0] w fun e w' => ∃ v0_ : Value, e = .returned (v0_) ∧ Kd.R k35 35 w' w.heap.size (fun _ => True) v0_ r ∧ Below w.heap.size w w' := by
  have hu35 := Try.underlying35
  have HR0 := Aside0.mk hr0
  have HC0 := Aside0.mk hc0
  clear hr0 hc0
  have HB := Aside0.mk (Below.refl w.heap.size w)
  have H : ((naskhref30_Logical.f k l0).bind fun t190 => ((naskhref30_least.f k t190).bind fun t193 => (naskhref30_Visual.l0 k t190 t193 126))) = some r := h
  clear h
  replace H := Option.bind_eq_some_iff.mp H
  obtain ⟨t190, A20, H⟩ := H
  replace H : ((naskhref30_least.f k t190).bind fun t193 => (naskhref30_Visual.l0 k t190 t193 126)) = some r := H
  have A2 := Aside0.mk A20
  clear A20
  replace H := Option.bind_eq_some_iff.mp H
  obtain ⟨t193, A30, H⟩ := H
  replace H : (naskhref30_Visual.l0 k t190 t193 126) = some r := H
  have A3 := Aside0.mk A30
  clear A30
  have H' := Aside0.mk H
  clear H
  go_enter Try.func35, Try.ntmps35
  go_wp2_with (first | ((with_reducible refine gate_callee (f := 33) rfl ?_); refine goesL_ (some 11) rfl rfl Try.func33 (by kernel_rfl) rfl #[.slice A0 l0.length c0] rfl (by (try simp only [List.map_toArray, List.map_cons, List.map_nil]); first | done | rfl | (simp only [List.length_drop, List.length_take]; rfl)) ?_; (with_reducible refine (naskhref30_Logical.calls k _ _ l0 t190 _ ?side1 ?side2 A2.out).mono ?_); (case side1 => repeat (first | exact HR0.out | (with_reducible refine Kd.C_alloc ?_ _) | (with_reducible refine Kd.C_drewN ?_ _) | (with_reducible refine Kd.C_drew ?_))); (case side2 => exact HC0.out); rintro e w4 ⟨v191, rfl, ho0, hb⟩; refine ⟨_, rfl, ?_⟩; have n0_ := Aside0.mk (Kd.R_lower ho0 (below_size (by repeat (first | (with_reducible first | exact HB.out | apply below_alloc | apply pw_below_drewN | apply below_drew1) | exact HB.out)))); have n1_ := Aside0.mk (below_step (by repeat (first | (with_reducible first | exact HB.out | apply below_alloc | apply pw_below_drewN | apply below_drew1) | exact HB.out)) hb); clear HB; have HO192 := n0_; have HB := n1_; clear n0_ n1_; (try clear hb); (try clear hb2); (try clear hk); (try clear hi); (try clear ho0); obtain ⟨Ao5, co5, eo5⟩ := Kd.R_slice HO192.out; subst eo5) | ((with_reducible refine gate_callee (f := 58) rfl ?_); refine goesL_ (some 13) rfl rfl Try.func58 (by kernel_rfl) rfl #[.slice Ao5 t190.length co5] rfl (by (try simp only [List.map_toArray, List.map_cons, List.map_nil]); first | done | rfl | (simp only [List.length_drop, List.length_take]; rfl)) ?_; (with_reducible refine (naskhref30_least.calls k _ _ t190 t193 _ ?side1 ?side2 A3.out).mono ?_); (case side1 => repeat (first | exact (Kd.R_reads' HO192.out).2.2 | (with_reducible refine Kd.C_alloc ?_ _) | (with_reducible refine Kd.C_drewN ?_ _) | (with_reducible refine Kd.C_drew ?_))); (case side2 => exact (Kd.R_reads' HO192.out).2.1); rintro e w6 ⟨rfl, hb⟩; refine ⟨_, rfl, ?_⟩; have n0_ := Aside0.mk (Kd.R_below (by (with_reducible repeat (first | apply Kd.R_alloc | apply Kd.R_drewN | apply Kd.R_drew)); exact HO192.out) hb); have n1_ := Aside0.mk (below_step (by repeat (first | (with_reducible first | exact HB.out | apply below_alloc | apply pw_below_drewN | apply below_drew1) | exact HB.out)) hb); clear HO192; clear HB; have HO192 := n0_; have HB := n1_; clear n0_ n1_; (try clear hb); (try clear hb2); (try clear hk); (try clear hi)))
  go_loopg [5] k (fun kq v5 w' => ∃ (x3_1 : List (S35)) (x5_1 : Int), v5 = .int .i64 x5_1 ∧ Aside0 (naskhref30_Visual.l0 kq x3_1 t193 x5_1 = some r) ∧ Aside0 (kq ≤ k) ∧ Aside0 (Kd.R k35 35 w' w.heap.size (fun _ => True) (.slice Ao5 t190.length co5) x3_1) ∧ Aside0 (Below w.heap.size w w'))
  case atStart => exact ⟨(t190), (126), (by first | rfl | (simp; done) | (simp [*]; done)), H', ⟨Nat.le_refl _⟩, ⟨by (with_reducible repeat (first | apply Kd.R_alloc | apply Kd.R_drewN | apply Kd.R_drew)); exact HO192.out⟩, ⟨by repeat (first | (with_reducible first | exact HB.out | apply below_alloc | apply pw_below_drewN | apply below_drew1) | exact HB.out)⟩⟩
  case round =>
    clear H'
    try clear p2
    try clear c3
    try clear c5
    obtain ⟨x3_1, x5_1, rfl, HA, HK1, HO_3, HB⟩ := hrel
    have hl3_1 := (Kd.R_reads' HO_3.out).1
    rw [hl3_1] at HO_3
    (try simp only [hl3_1])
    cases gk with
    | zero => exact absurd HA.out (by simp [naskhref30_Visual.l0])
    | succ k1 =>
      have H := HA.out
      clear HA
      simp only [naskhref30_Visual.l0] at H
      have HC7 := Aside0.mk H
      clear H
      go_upto_region 4 with (fail)
      go_cut [20] (fun v20 wc => ∃ (kq : Nat) (x20_6 : Bool), v20 = .bool x20_6 ∧ Aside0 (naskhref30_Visual.j1 kq x3_1 t193 x5_1 x20_6 = some r) ∧ Aside0 (kq ≤ k1) ∧ Aside0 (Kd.R k35 35 wc w.heap.size (fun _ => True) (.slice Ao5 x3_1.length co5) x3_1) ∧ Aside0 (Below w.heap.size w wc))
      case first =>
        have H := HC7.out
        clear HC7
        by_cases c8 : t193 > 0
        · rw [if_pos c8] at H
          have c8b0 : decide (0 < t193) = true := decide_eq_true c8
          clear c8
          (first | rw [c8b0] | (simp only [i64_w, i32_w]; rw [c8b0]) | skip)
          have H' := Aside0.mk H
          clear H
          go_wp2
          go_meet
          case rel => exact ⟨_, (decide (x5_1 ≥ t193)), (by first | rfl | (simp; done) | (simp [*]; done)), H', ⟨by have := HK1.out; first | omega | exact Nat.le_refl _⟩, ⟨by (try simp only [hl3_1]); (with_reducible repeat (first | apply Kd.R_alloc | apply Kd.R_drewN | apply Kd.R_drew)); exact HO_3.out⟩, ⟨by repeat (first | (with_reducible first | exact HB.out | apply below_alloc | apply pw_below_drewN | apply below_drew1) | exact HB.out)⟩⟩
        · rw [if_neg c8] at H
          have c8b0 : decide (0 < t193) = false := decide_eq_false c8
          clear c8
          (first | rw [c8b0] | (simp only [i64_w, i32_w]; rw [c8b0]) | skip)
          have H' := Aside0.mk H
          clear H
          go_wp2
          go_meet
          case rel => exact ⟨_, (false), (by first | rfl | (simp; done) | (simp [*]; done)), H', ⟨by have := HK1.out; first | omega | exact Nat.le_refl _⟩, ⟨by (try simp only [hl3_1]); (with_reducible repeat (first | apply Kd.R_alloc | apply Kd.R_drewN | apply Kd.R_drew)); exact HO_3.out⟩, ⟨by repeat (first | (with_reducible first | exact HB.out | apply below_alloc | apply pw_below_drewN | apply below_drew1) | exact HB.out)⟩⟩
      case rest =>
        clear HC7
        try clear p2
        try clear c3
        try clear c5
        try clear c8
        try clear c8b0
        try clear p2
        obtain ⟨kq, x20_6, rfl, HA, HJ6, HO_3, HB⟩ := hcut
        cases kq with
        | zero => exact absurd HA.out (by simp [naskhref30_Visual.j1])
        | succ kj6 =>
          have H := HA.out
          clear HA
          simp only [naskhref30_Visual.j1] at H
          by_cases c9 : x20_6 = true
          · subst c9
            have H1 : (naskhref30_Visual.l1 kj6 x3_1 t193 x5_1 0) = some r := by rw [if_pos rfl] at H; exact H
            clear H
            have H := H1
            clear H1
            have H' := Aside0.mk H
            clear H
            go_wp2
            go_loopg [6] kj6 (fun kq v6 w' => ∃ (x3_3 : List (S35)) (x6_3 : Int), v6 = .int .i64 x6_3 ∧ Aside0 (naskhref30_Visual.l1 kq x3_3 t193 x5_1 x6_3 = some r) ∧ Aside0 (kq ≤ kj6) ∧ Aside0 (Kd.R k35 35 w' w.heap.size (fun _ => True) (.slice Ao5 x3_1.length co5) x3_3) ∧ Aside0 (Below w.heap.size w w'))
            case atStart => exact ⟨(x3_1), (0), (by first | rfl | (simp; done) | (simp [*]; done)), H', ⟨Nat.le_refl _⟩, ⟨by (try simp only [hl3_1]); (with_reducible repeat (first | apply Kd.R_alloc | apply Kd.R_drewN | apply Kd.R_drew)); exact HO_3.out⟩, ⟨by repeat (first | (with_reducible first | exact HB.out | apply below_alloc | apply pw_below_drewN | apply below_drew1) | exact HB.out)⟩⟩
            case round =>
              clear H'
              try clear p2
              try clear c3
              try clear c5
              try clear c8
              try clear c8b0
              try clear c9
              try clear p2
              obtain ⟨x3_3, x6_3, rfl, HA, HK3, HO_3, HB⟩ := hrel
              have hl3_3 := (Kd.R_reads' HO_3.out).1
              rw [hl3_3] at HO_3
              (try simp only [hl3_3])
              cases gk with
              | zero => exact absurd HA.out (by simp [naskhref30_Visual.l1])
              | succ k3 =>
                have H := HA.out
                clear HA
                simp only [naskhref30_Visual.l1] at H
                by_cases c10 : x6_3 < (x3_3.length : Int)
                · rw [if_pos c10] at H
                  have c10b0 : decide (x6_3 < (x3_3.length : Int)) = true := decide_eq_true c10
                  clear c10
                  have HC11 := Aside0.mk H
                  clear H
                  go_upto_block 4 with (fail)
                  go_cut [7] (fun v7 wc => ∃ (kq : Nat) (x7_10 : Int), v7 = .int .i64 x7_10 ∧ Aside0 (naskhref30_Visual.j4 kq x3_3 t193 x5_1 x6_3 x7_10 = some r) ∧ Aside0 (kq ≤ k3) ∧ Aside0 (Kd.R k35 35 wc w.heap.size (fun _ => True) (.slice Ao5 x3_3.length co5) x3_3) ∧ Aside0 (Below w.heap.size w wc))
                  case first =>
                    have H := HC11.out
                    clear HC11
                    have H' := Aside0.mk H
                    clear H
                    go_wp2
                    go_loopg [7] k3 (fun kq v7 w' => ∃ (x7_4 : Int), v7 = .int .i64 x7_4 ∧ Aside0 (naskhref30_Visual.l2 kq x3_3 t193 x5_1 x6_3 x7_4 = some r) ∧ Aside0 (kq ≤ k3) ∧ Aside0 (Kd.R k35 35 w' w.heap.size (fun _ => True) (.slice Ao5 x3_3.length co5) x3_3) ∧ Aside0 (Below w.heap.size w w'))
                    case atStart => exact ⟨(x6_3), (by first | rfl | (simp; done) | (simp [*]; done)), H', ⟨Nat.le_refl _⟩, ⟨by (try simp only [hl3_1]); (try simp only [hl3_3]); (with_reducible repeat (first | apply Kd.R_alloc | apply Kd.R_drewN | apply Kd.R_drew)); exact HO_3.out⟩, ⟨by repeat (first | (with_reducible first | exact HB.out | apply below_alloc | apply pw_below_drewN | apply below_drew1) | exact HB.out)⟩⟩
                    case round =>
                      clear H'
                      try clear c1
                      try clear p2
                      try clear c3
                      try clear c5
                      try clear c8
                      try clear c8b0
                      try clear c9
                      try clear c10
                      try clear c10b0
                      try clear p2
                      obtain ⟨x7_4, rfl, HA, HK4, HO_3, HB⟩ := hrel
                      cases gk with
                      | zero => exact absurd HA.out (by simp [naskhref30_Visual.l2])
                      | succ k4 =>
                        have H := HA.out
                        clear HA
                        simp only [naskhref30_Visual.l2] at H
                        by_cases c12 : x7_4 < (x3_3.length : Int)
                        · rw [if_pos c12] at H
                          have c12b0 : decide (x7_4 < (x3_3.length : Int)) = true := decide_eq_true c12
                          clear c12
                          (first | rw [c12b0] | (simp only [i64_w, i32_w]; rw [c12b0]) | skip)
                          by_cases c13 : 0 ≤ x7_4
                          · rw [if_pos c13] at H
                            have c13b0 : decide (0 ≤ x7_4) = true := decide_eq_true c13
                            clear c13
                            replace H := Option.bind_eq_some_iff.mp H
                            obtain ⟨t195, A140, H⟩ := H
                            replace H : (if t195 ≥ x5_1 then (naskhref30_Visual.l2 k4 x3_3 t193 x5_1 x6_3 (wrap64 (x7_4 + 1))) else (naskhref30_Visual.j4 k4 x3_3 t193 x5_1 x6_3 x7_4)) = some r := H
                            have A14 := Aside0.mk A140
                            clear A140
                            by_cases c15 : t195 ≥ x5_1
                            · rw [if_pos c15] at H
                              have c15b0 : decide (x5_1 ≤ t195) = true := decide_eq_true c15
                              clear c15
                              have H' := Aside0.mk H
                              clear H
                              have p194 : 0 ≤ (x7_4 : Int) := of_decide_eq_true (by first | (with_reducible assumption) | assumption)
                              have q194 : x7_4 < (x3_3.length : Int) := of_decide_eq_true (by first | (with_reducible assumption) | assumption)
                              obtain ⟨ad194, e194, hx194_0, hx194_1, hx194_2⟩ := at_T35 (Kd.R_reads' HO_3.out).2.2 x7_4 p194 q194
                              cases e194
                              replace p194 := eq_true p194
                              replace q194 := eq_true q194
                              go_wp2_with (first | (go_at_call 59; (with_reducible refine (naskhref30_held.calls ((rd_T35 x3_3 x7_4).f1) t195 _ A14.out).mono ?_); rintro e w16 ⟨rfl, hb⟩; have n0_ := Aside0.mk (Kd.R_below (by (with_reducible repeat (first | apply Kd.R_alloc | apply Kd.R_drewN | apply Kd.R_drew)); exact HO_3.out) hb); have n1_ := Aside0.mk (below_step (by repeat (first | (with_reducible first | exact HB.out | apply below_alloc | apply pw_below_drewN | apply below_drew1) | exact HB.out)) hb); clear HO_3; clear HB; have HO_3 := n0_; have HB := n1_; clear n0_ n1_; (try clear hb); (try clear hb2); (try clear hk); (try clear hi)))
                              go_roundg k4
                              case measure => have := HK1.out; have := HJ6.out; have := HK3.out; have := HK4.out; omega
                              case rel => exact ⟨(wrap64 (x7_4 + 1)), (by first | rfl | (simp; done) | (simp [*]; done)), H', ⟨by have := HK1.out; have := HJ6.out; have := HK3.out; have := HK4.out; omega⟩, ⟨by (try simp only [hl3_1]); (try simp only [hl3_3]); (with_reducible repeat (first | apply Kd.R_alloc | apply Kd.R_drewN | apply Kd.R_drew)); exact HO_3.out⟩, ⟨by repeat (first | (with_reducible first | exact HB.out | apply below_alloc | apply pw_below_drewN | apply below_drew1) | exact HB.out)⟩⟩
                            · rw [if_neg c15] at H
                              have c15b0 : decide (x5_1 ≤ t195) = false := decide_eq_false c15
                              clear c15
                              have H' := Aside0.mk H
                              clear H
                              have p194 : 0 ≤ (x7_4 : Int) := of_decide_eq_true (by first | (with_reducible assumption) | assumption)
                              have q194 : x7_4 < (x3_3.length : Int) := of_decide_eq_true (by first | (with_reducible assumption) | assumption)
                              obtain ⟨ad194, e194, hx194_0, hx194_1, hx194_2⟩ := at_T35 (Kd.R_reads' HO_3.out).2.2 x7_4 p194 q194
                              cases e194
                              replace p194 := eq_true p194
                              replace q194 := eq_true q194
                              go_wp2_with (first | (go_at_call 59; (with_reducible refine (naskhref30_held.calls ((rd_T35 x3_3 x7_4).f1) t195 _ A14.out).mono ?_); rintro e w17 ⟨rfl, hb⟩; have n0_ := Aside0.mk (Kd.R_below (by (with_reducible repeat (first | apply Kd.R_alloc | apply Kd.R_drewN | apply Kd.R_drew)); exact HO_3.out) hb); have n1_ := Aside0.mk (below_step (by repeat (first | (with_reducible first | exact HB.out | apply below_alloc | apply pw_below_drewN | apply below_drew1) | exact HB.out)) hb); clear HO_3; clear HB; have HO_3 := n0_; have HB := n1_; clear n0_ n1_; (try clear hb); (try clear hb2); (try clear hk); (try clear hi)))
                              go_meet
                              case rel => exact ⟨_, (x7_4), (by first | rfl | (simp; done) | (simp [*]; done)), H', ⟨by have := HK1.out; have := HJ6.out; have := HK3.out; have := HK4.out; first | omega | exact Nat.le_refl _⟩, ⟨by (try simp only [hl3_1]); (try simp only [hl3_3]); (with_reducible repeat (first | apply Kd.R_alloc | apply Kd.R_drewN | apply Kd.R_drew)); exact HO_3.out⟩, ⟨by repeat (first | (with_reducible first | exact HB.out | apply below_alloc | apply pw_below_drewN | apply below_drew1) | exact HB.out)⟩⟩
                          · rw [if_neg c13] at H
                            exact absurd H (by simp)
                        · rw [if_neg c12] at H
                          have c12b0 : decide (x7_4 < (x3_3.length : Int)) = false := decide_eq_false c12
                          have c12_hl3_1 := c12b0; (try rw [hl3_1] at c12_hl3_1)
                          have c12_hl3_3 := c12b0; (try rw [hl3_3] at c12_hl3_3)
                          clear c12
                          (first | rw [c12b0] | (simp only [i64_w, i32_w]; rw [c12b0]) | skip)
                          have H' := Aside0.mk H
                          clear H
                          go_wp2
                          go_meet
                          case rel => exact ⟨_, (x7_4), (by first | rfl | (simp; done) | (simp [*]; done)), H', ⟨by have := HK1.out; have := HJ6.out; have := HK3.out; have := HK4.out; first | omega | exact Nat.le_refl _⟩, ⟨by (try simp only [hl3_1]); (try simp only [hl3_3]); (with_reducible repeat (first | apply Kd.R_alloc | apply Kd.R_drewN | apply Kd.R_drew)); exact HO_3.out⟩, ⟨by repeat (first | (with_reducible first | exact HB.out | apply below_alloc | apply pw_below_drewN | apply below_drew1) | exact HB.out)⟩⟩
                  case rest =>
                    clear HC11
                    try clear c1
                    try clear p1
                    try clear q1
                    try clear hx1
                    try clear p2
                    try clear c3
                    try clear c5
                    try clear p6
                    try clear c8
                    try clear c8b0
                    try clear c9
                    try clear c10
                    try clear c10b0
                    try clear c12
                    try clear c12b0
                    try clear c13
                    try clear c13b0
                    try clear c15
                    try clear c15b0
                    try clear hx194_0
                    try clear hx194_1
                    try clear hx194_2
                    try clear p194
                    try clear p2
                    try clear q194
                    obtain ⟨kq, x7_10, rfl, HA, HJ10, HO_3, HB⟩ := hcut
                    cases kq with
                    | zero => exact absurd HA.out (by simp [naskhref30_Visual.j4])
                    | succ kj10 =>
                      have H := HA.out
                      clear HA
                      simp only [naskhref30_Visual.j4] at H
                      have H' := Aside0.mk H
                      clear H
                      go_wp2
                      go_loopg [8, 9] kj10 (fun kq v8 v9 w' => ∃ (x3_5 : List (S35)) (x8_5 : Int) (x9_5 : Int), v8 = .int .i64 x8_5 ∧ v9 = .int .i64 x9_5 ∧ Aside0 (naskhref30_Visual.l3 kq x3_5 t193 x5_1 x6_3 x7_10 x8_5 x9_5 = some r) ∧ Aside0 (kq ≤ kj10) ∧ Aside0 (Kd.R k35 35 w' w.heap.size (fun _ => True) (.slice Ao5 x3_3.length co5) x3_5) ∧ Aside0 (Below w.heap.size w w'))
                      case atStart => exact ⟨(x3_3), (x6_3), (wrap64 (x7_10 - 1)), (by first | rfl | (simp; done) | (simp [*]; done)), (by first | rfl | (simp; done) | (simp [*]; done)), H', ⟨Nat.le_refl _⟩, ⟨by (try simp only [hl3_1]); (try simp only [hl3_3]); (with_reducible repeat (first | apply Kd.R_alloc | apply Kd.R_drewN | apply Kd.R_drew)); exact HO_3.out⟩, ⟨by repeat (first | (with_reducible first | exact HB.out | apply below_alloc | apply pw_below_drewN | apply below_drew1) | exact HB.out)⟩⟩
                      case round =>
                        clear H'
                        try clear c1
                        try clear p1
                        try clear q1
                        try clear hx1
                        try clear p2
                        try clear c3
                        try clear c5
                        try clear p6
                        try clear c8
                        try clear c8b0
                        try clear c9
                        try clear c10
                        try clear c10b0
                        try clear c12
                        try clear c12b0
                        try clear c13
                        try clear c13b0
                        try clear c15
                        try clear c15b0
                        try clear hx194_0
                        try clear hx194_1
                        try clear hx194_2
                        try clear p1
                        try clear p194
                        try clear p2
                        try clear p6
                        try clear q1
                        try clear q194
                        obtain ⟨x3_5, x8_5, x9_5, rfl, rfl, HA, HK5, HO_3, HB⟩ := hrel
                        have hl3_5 := (Kd.R_reads' HO_3.out).1
                        rw [hl3_5] at HO_3
                        (try simp only [hl3_5])
                        cases gk with
                        | zero => exact absurd HA.out (by simp [naskhref30_Visual.l3])
                        | succ k5 =>
                          have H := HA.out
                          clear HA
                          simp only [naskhref30_Visual.l3] at H
                          by_cases c18 : x8_5 < x9_5
                          · rw [if_pos c18] at H
                            have c18b0 : decide (x8_5 < x9_5) = true := decide_eq_true c18
                            clear c18
                            by_cases c19 : 0 ≤ x9_5
                            · rw [if_pos c19] at H
                              have c19b0 : decide (0 ≤ x9_5) = true := decide_eq_true c19
                              clear c19
                              by_cases c20 : x9_5 < (x3_5.length : Int)
                              · rw [if_pos c20] at H
                                have c20b0 : decide (x9_5 < (x3_5.length : Int)) = true := decide_eq_true c20
                                clear c20
                                by_cases c21 : 0 ≤ x8_5
                                · rw [if_pos c21] at H
                                  have c21b0 : decide (0 ≤ x8_5) = true := decide_eq_true c21
                                  clear c21
                                  by_cases c22 : x8_5 < (x3_5.length : Int)
                                  · rw [if_pos c22] at H
                                    have c22b0 : decide (x8_5 < (x3_5.length : Int)) = true := decide_eq_true c22
                                    clear c22
                                    obtain ⟨y198, hy198⟩ : ∃ y_ : List (S35), y_ = (x3_5.set (x8_5 : Int).toNat (⟨(⟨(rd_T35 x3_5 x9_5).f0.f0, (rd_T35 x3_5 x9_5).f0.f1⟩ : S33), (rd_T35 x3_5 x9_5).f1⟩ : S35)) := ⟨_, rfl⟩
                                    replace H : (naskhref30_Visual.l3 k5 (y198.set (x9_5 : Int).toNat (⟨(⟨(rd_T35 x3_5 x8_5).f0.f0, (rd_T35 x3_5 x8_5).f0.f1⟩ : S33), (rd_T35 x3_5 x8_5).f1⟩ : S35)) t193 x5_1 x6_3 x7_10 (wrap64 (x8_5 + 1)) (wrap64 (x9_5 - 1))) = some r := by first | (rw [hy198]; with_reducible exact H) | (have H2_ := (Option.bind_some _ _).symm.trans H; rw [hy198]; with_reducible exact H2_) | (have H2_ := (Option.bind_some _ _).symm.trans H; with_reducible exact H2_) | with_reducible exact H | (rw [hy198]; exact H) | exact H
                                    have Ny198 := Aside0.mk hy198
                                    clear hy198
                                    obtain ⟨y199, hy199⟩ : ∃ y_ : List (S35), y_ = (y198.set (x9_5 : Int).toNat (⟨(⟨(rd_T35 x3_5 x8_5).f0.f0, (rd_T35 x3_5 x8_5).f0.f1⟩ : S33), (rd_T35 x3_5 x8_5).f1⟩ : S35)) := ⟨_, rfl⟩
                                    replace H : (naskhref30_Visual.l3 k5 y199 t193 x5_1 x6_3 x7_10 (wrap64 (x8_5 + 1)) (wrap64 (x9_5 - 1))) = some r := by first | (rw [hy199]; with_reducible exact H) | (have H2_ := (Option.bind_some _ _).symm.trans H; rw [hy199]; with_reducible exact H2_) | (have H2_ := (Option.bind_some _ _).symm.trans H; with_reducible exact H2_) | with_reducible exact H | (rw [hy199]; exact H) | exact H
                                    have Ny199 := Aside0.mk hy199
                                    clear hy199
                                    have H' := Aside0.mk H
                                    clear H
                                    try go_wp2
                                    have n0_ := Aside0.mk (Kd.R_drew HO_3.out)
                                    have n1_ := Aside0.mk (below_drew1 HB.out)
                                    clear HO_3
                                    clear HB
                                    have HO_3 := n0_
                                    have HB := n1_
                                    clear n0_ n1_
                                    have p196 : 0 ≤ (x9_5 : Int) := of_decide_eq_true (by first | (with_reducible assumption) | assumption)
                                    have q196 : x9_5 < (x3_5.length : Int) := of_decide_eq_true (by first | (with_reducible assumption) | assumption)
                                    obtain ⟨ad196, e196, hx196_0, hx196_1, hx196_2⟩ := at_T35 (Kd.R_reads' HO_3.out).2.2 x9_5 p196 q196
                                    cases e196
                                    replace p196 := eq_true p196
                                    replace q196 := eq_true q196
                                    have p197 : 0 ≤ (x8_5 : Int) := of_decide_eq_true (by first | (with_reducible assumption) | assumption)
                                    have q197 : x8_5 < (x3_5.length : Int) := of_decide_eq_true (by first | (with_reducible assumption) | assumption)
                                    obtain ⟨ad197, e197, hx197_0, hx197_1, hx197_2⟩ := at_T35 (Kd.R_reads' HO_3.out).2.2 x8_5 p197 q197
                                    obtain rfl : ad196 = ad197 := (by injection e197)
                                    replace p197 := eq_true p197
                                    replace q197 := eq_true q197
                                    have p23 : 0 ≤ (x8_5 : Int) := of_decide_eq_true (by first | (with_reducible assumption) | assumption)
                                    have q23 : (x8_5 : Int) < ((x3_5.length : Int) : Int) := of_decide_eq_true (by first | (with_reducible assumption) | assumption)
                                    obtain ⟨go23, co23, eo23, gb23, gl23, cl23, HG23⟩ := Kd.R_form HO_3.out (by omega)
                                    (first | cases eo23 | (injection eo23 with ea_ en_ ec_; (first | subst ea_ | (injection ea_ with ea_; subst ea_)); subst ec_; clear en_))
                                    have GB23 := Aside0.mk gb23
                                    have GG23 := Aside0.mk HG23
                                    clear gb23 gl23 HG23
                                    (first | simp only [add_plain] at hx196_0 | skip)
                                    (first | simp only [add_plain] at hx196_1 | skip)
                                    (first | simp only [add_plain] at hx196_2 | skip)
                                    (first | simp only [add_plain] at hx197_0 | skip)
                                    (first | simp only [add_plain] at hx197_1 | skip)
                                    (first | simp only [add_plain] at hx197_2 | skip)
                                    obtain ⟨ce23, hcl23, hM23, hcc23, hfr23⟩ := Kd.R_elem HO_3.out z35 (x8_5 : Int) p23 q23
                                    obtain rfl := k35_openM hM23
                                    have hx23_0 : World.cell? _ ⟨go23, (x8_5 : Int).toNat * 3, none⟩ = some (.int .i64 ((rd_T35 x3_5 x8_5).f0.f0)) := hcc23 0 _ rfl
                                    have hx23_1 : World.cell? _ ⟨go23, (x8_5 : Int).toNat * 3 + 1, none⟩ = some (.int .i64 ((rd_T35 x3_5 x8_5).f0.f1)) := hcc23 1 _ rfl
                                    have hx23_2 : World.cell? _ ⟨go23, (x8_5 : Int).toNat * 3 + 2, none⟩ = some (.int .i64 ((rd_T35 x3_5 x8_5).f1)) := hcc23 2 _ rfl
                                    have hf23_0 : World.frozen? _ ⟨go23, (x8_5 : Int).toNat * 3, none⟩ = false := hfr23 0
                                    have hf23_1 : World.frozen? _ ⟨go23, (x8_5 : Int).toNat * 3 + 1, none⟩ = false := hfr23 1
                                    have hf23_2 : World.frozen? _ ⟨go23, (x8_5 : Int).toNat * 3 + 2, none⟩ = false := hfr23 2
                                    clear hcl23 hcc23 hfr23 hM23
                                    replace p23 := eq_true p23
                                    replace q23 := eq_true q23
                                    obtain ⟨ce26, hcl26, hM26, hcc26, hfr26⟩ := Kd.R_elem HO_3.out z35 (x8_5 : Int) (of_decide_eq_true (by first | (with_reducible assumption) | assumption)) (by have h_ : (x8_5 : Int) < ((x3_5.length : Int) : Int) := of_decide_eq_true (by first | (with_reducible assumption) | assumption); first | exact h_ | (have e_ := (Kd.R_reads' HO_3.out).1; omega) | simpa using h_)
                                    obtain rfl := k35_openM hM26
                                    have HP26 := (Kd.R_seg HO_3.out (x8_5 : Int) (of_decide_eq_true (by first | (with_reducible assumption) | assumption)) (by have h_ : (x8_5 : Int) < ((x3_5.length : Int) : Int) := of_decide_eq_true (by first | (with_reducible assumption) | assumption); first | exact h_ | (have e_ := (Kd.R_reads' HO_3.out).1; omega) | simpa using h_) (seg := [.int .i64 ((rd_T35 x3_5 x9_5).f0.f0), .int .i64 ((rd_T35 x3_5 x9_5).f0.f1), .int .i64 ((rd_T35 x3_5 x9_5).f1)]) (j := 0) hcl26 hcc26 (show 3 ≤ 3 from by decide) (x' := (⟨(⟨(rd_T35 x3_5 x9_5).f0.f0, (rd_T35 x3_5 x9_5).f0.f1⟩ : S33), (rd_T35 x3_5 x9_5).f1⟩ : S35)) (k35_mkM _ _ _ (⟨(⟨(rd_T35 x3_5 x9_5).f0.f0, (rd_T35 x3_5 x9_5).f0.f1⟩ : S33), (rd_T35 x3_5 x9_5).f1⟩ : S35) ) (fun _ hk => hk)).1
                                    have hS26 : World.setCells wr.drew go23 ((x8_5 : Int).toNat * k35.sz + 0) [.int .i64 ((rd_T35 x3_5 x9_5).f0.f0), .int .i64 ((rd_T35 x3_5 x9_5).f0.f1), .int .i64 ((rd_T35 x3_5 x9_5).f1)] = (((wr.drew.setCell ⟨go23, (x8_5 : Int).toNat * 3, none⟩ (.int .i64 ((rd_T35 x3_5 x9_5).f0.f0))).setCell ⟨go23, (x8_5 : Int).toNat * 3 + 1, none⟩ (.int .i64 ((rd_T35 x3_5 x9_5).f0.f1))).setCell ⟨go23, (x8_5 : Int).toNat * 3 + 2, none⟩ (.int .i64 ((rd_T35 x3_5 x9_5).f1))) := rfl
                                    rw [hS26] at HP26
                                    clear hS26
                                    rw [← Ny198.out] at HP26
                                    have HQ26 := Aside0.mk HP26
                                    clear hcl26 hcc26 hfr26 hM26 HP26
                                    have p24 : 0 ≤ (x9_5 : Int) := of_decide_eq_true (by first | (with_reducible assumption) | assumption)
                                    have q24 : (x9_5 : Int) < ((x3_5.length : Int) : Int) := of_decide_eq_true (by first | (with_reducible assumption) | assumption)
                                    obtain ⟨ce24, hcl24, hM24, hcc24, hfr24⟩ := Kd.R_elem HQ26.out z35 (x9_5 : Int) p24 q24
                                    obtain rfl := k35_openM hM24
                                    have hx24_0 : World.cell? _ ⟨go23, (x9_5 : Int).toNat * 3, none⟩ = some (.int .i64 ((rd_T35 y198 x9_5).f0.f0)) := hcc24 0 _ rfl
                                    have hx24_1 : World.cell? _ ⟨go23, (x9_5 : Int).toNat * 3 + 1, none⟩ = some (.int .i64 ((rd_T35 y198 x9_5).f0.f1)) := hcc24 1 _ rfl
                                    have hx24_2 : World.cell? _ ⟨go23, (x9_5 : Int).toNat * 3 + 2, none⟩ = some (.int .i64 ((rd_T35 y198 x9_5).f1)) := hcc24 2 _ rfl
                                    have hf24_0 : World.frozen? _ ⟨go23, (x9_5 : Int).toNat * 3, none⟩ = false := hfr24 0
                                    have hf24_1 : World.frozen? _ ⟨go23, (x9_5 : Int).toNat * 3 + 1, none⟩ = false := hfr24 1
                                    have hf24_2 : World.frozen? _ ⟨go23, (x9_5 : Int).toNat * 3 + 2, none⟩ = false := hfr24 2
                                    clear hcl24 hcc24 hfr24 hM24
                                    replace p24 := eq_true p24
                                    replace q24 := eq_true q24
                                    obtain ⟨ce27, hcl27, hM27, hcc27, hfr27⟩ := Kd.R_elem HQ26.out z35 (x9_5 : Int) (of_decide_eq_true (by first | (with_reducible assumption) | assumption)) (by have h_ : (x9_5 : Int) < ((x3_5.length : Int) : Int) := of_decide_eq_true (by first | (with_reducible assumption) | assumption); first | exact h_ | (have e_ := (Kd.R_reads' HO_3.out).1; omega) | simpa using h_)
                                    obtain rfl := k35_openM hM27
                                    have HP27 := (Kd.R_seg HQ26.out (x9_5 : Int) (of_decide_eq_true (by first | (with_reducible assumption) | assumption)) (by have h_ : (x9_5 : Int) < ((x3_5.length : Int) : Int) := of_decide_eq_true (by first | (with_reducible assumption) | assumption); first | exact h_ | (have e_ := (Kd.R_reads' HO_3.out).1; omega) | simpa using h_) (seg := [.int .i64 ((rd_T35 x3_5 x8_5).f0.f0), .int .i64 ((rd_T35 x3_5 x8_5).f0.f1), .int .i64 ((rd_T35 x3_5 x8_5).f1)]) (j := 0) hcl27 hcc27 (show 3 ≤ 3 from by decide) (x' := (⟨(⟨(rd_T35 x3_5 x8_5).f0.f0, (rd_T35 x3_5 x8_5).f0.f1⟩ : S33), (rd_T35 x3_5 x8_5).f1⟩ : S35)) (k35_mkM _ _ _ (⟨(⟨(rd_T35 x3_5 x8_5).f0.f0, (rd_T35 x3_5 x8_5).f0.f1⟩ : S33), (rd_T35 x3_5 x8_5).f1⟩ : S35) ) (fun _ hk => hk)).1
                                    rw [← Ny199.out] at HP27
                                    have HQ27 := Aside0.mk HP27
                                    clear hcl27 hcc27 hfr27 hM27 HP27
                                    refine start_ (n := 16) (S := fun w' => w'.cell? ⟨go23, ((x9_5).toNat * 3), none⟩ = some (.int .i64 ((rd_T35 x3_5 x9_5).f0.f0)) ∧ w'.cell? ⟨go23, ((x9_5).toNat * 3) + 1, none⟩ = some (.int .i64 ((rd_T35 x3_5 x9_5).f0.f1)) ∧ w'.cell? ⟨go23, ((x9_5).toNat * 3) + 2, none⟩ = some (.int .i64 ((rd_T35 x3_5 x9_5).f1)) ∧ w'.cell? ⟨go23, ((x8_5).toNat * 3), none⟩ = some (.int .i64 ((rd_T35 x3_5 x8_5).f0.f0)) ∧ w'.cell? ⟨go23, ((x8_5).toNat * 3) + 1, none⟩ = some (.int .i64 ((rd_T35 x3_5 x8_5).f0.f1)) ∧ w'.cell? ⟨go23, ((x8_5).toNat * 3) + 2, none⟩ = some (.int .i64 ((rd_T35 x3_5 x8_5).f1))) (ds := [13, 15]) #[false, false, false, false, false, false, false, false, false, false, false, false, false, false, false, false] (by kernel_rfl) rfl rfl ⟨hx196_0, hx196_1, hx196_2, hx197_0, hx197_1, hx197_2⟩ (fun hHeld => ?_); refine with_tabW naskhref30_Visual.tab14 naskhref30_Visual.bits14 (fun HT_ HW_ => ?_)
                                    generalize wr.drew = w25 at HO_3 HB GG23 HQ26 HQ27 hf23_0 hf23_1 hf23_2 hf24_0 hf24_1 hf24_2 hx196_0 hx196_1 hx196_2 hx197_0 hx197_1 hx197_2 hx23_0 hx23_1 hx23_2 hx24_0 hx24_1 hx24_2 hHeld ⊢
                                    refine pure_ (i := 0) (N := some 52) (v := ?_) (a' := ?_) #[true, false, false, false, false, false, false, false, false, false, false, false, false, false, false, false] rfl rfl (any_of HT_.out (by kernel_rfl)) (fun _ _ _ h => h) (Or.inl ⟨by rfl, ?_⟩) ?_ ?_
                                    rotate_left
                                    · intro w'
                                      go_simp
                                      with_reducible rfl
                                    rotate_left
                                    · simp only [Act.put, List.setIfInBounds_toArray, List.set_cons_zero, List.set_cons_succ, i64_w, i32_w]
                                      rfl
                                    refine pure_ (i := 1) (N := some 53) (v := ?_) (a' := ?_) #[true, true, false, false, false, false, false, false, false, false, false, false, false, false, false, false] rfl rfl (any_of HT_.out (by kernel_rfl)) (fun _ _ _ h => h) (Or.inl ⟨by rfl, ?_⟩) ?_ ?_
                                    rotate_left
                                    · intro w'
                                      go_simp
                                      with_reducible rfl
                                    rotate_left
                                    · simp only [Act.put, List.setIfInBounds_toArray, List.set_cons_zero, List.set_cons_succ, i64_w, i32_w]
                                      rfl
                                    refine pure_ (i := 2) (N := some 54) (v := ?_) (a' := ?_) #[true, true, true, false, false, false, false, false, false, false, false, false, false, false, false, false] rfl rfl (any_of HT_.out (by kernel_rfl)) (fun _ _ _ h => h) (Or.inl ⟨by rfl, ?_⟩) ?_ ?_
                                    rotate_left
                                    · intro w'
                                      go_simp
                                      with_reducible rfl
                                    rotate_left
                                    · simp only [Act.put, List.setIfInBounds_toArray, List.set_cons_zero, List.set_cons_succ, i64_w, i32_w]
                                      rfl
                                    refine pure_ (i := 3) (N := some 55) (v := ?_) (a' := ?_) #[true, true, true, true, false, false, false, false, false, false, false, false, false, false, false, false] rfl rfl (any_of HT_.out (by kernel_rfl)) (fun _ _ _ h => h) (Or.inl ⟨by rfl, ?_⟩) ?_ ?_
                                    rotate_left
                                    · intro w'
                                      go_simp
                                      with_reducible rfl
                                    rotate_left
                                    · simp only [Act.put, List.setIfInBounds_toArray, List.set_cons_zero, List.set_cons_succ, i64_w, i32_w]
                                      rfl
                                    refine pure_ (i := 4) (N := some 56) (v := ?_) (a' := ?_) #[true, true, true, true, true, false, false, false, false, false, false, false, false, false, false, false] rfl rfl (any_of HT_.out (by kernel_rfl)) (fun _ _ _ h => h) (Or.inl ⟨by rfl, ?_⟩) ?_ ?_
                                    rotate_left
                                    · intro w'
                                      go_simp
                                      with_reducible rfl
                                    rotate_left
                                    · simp only [Act.put, List.setIfInBounds_toArray, List.set_cons_zero, List.set_cons_succ, i64_w, i32_w]
                                      rfl
                                    refine pure_ (i := 5) (N := some 57) (v := ?_) (a' := ?_) #[true, true, true, true, true, true, false, false, false, false, false, false, false, false, false, false] rfl rfl (any_of HT_.out (by kernel_rfl)) (fun _ _ _ h => h) (Or.inl ⟨by rfl, ?_⟩) ?_ ?_
                                    rotate_left
                                    · intro w'
                                      go_simp
                                      with_reducible rfl
                                    rotate_left
                                    · simp only [Act.put, List.setIfInBounds_toArray, List.set_cons_zero, List.set_cons_succ, i64_w, i32_w]
                                      rfl
                                    refine pure_ (i := 6) (N := some 58) (v := ?_) (a' := ?_) #[true, true, true, true, true, true, true, false, false, false, false, false, false, false, false, false] rfl rfl (any_of HT_.out (by kernel_rfl)) (fun _ _ _ h => h) (Or.inl ⟨by rfl, ?_⟩) ?_ ?_
                                    rotate_left
                                    · intro w'
                                      go_simp
                                      with_reducible rfl
                                    rotate_left
                                    · simp only [Act.put, List.setIfInBounds_toArray, List.set_cons_zero, List.set_cons_succ, i64_w, i32_w]
                                      rfl
                                    refine pure_ (i := 8) (N := some 60) (v := ?_) (a' := ?_) #[true, true, true, true, true, true, true, false, true, false, false, false, false, false, false, false] rfl rfl (any_of HT_.out (by kernel_rfl)) (fun _ _ _ h => h) (Or.inl ⟨by rfl, ?_⟩) ?_ ?_
                                    rotate_left
                                    · intro w'
                                      go_simp
                                      with_reducible rfl
                                    rotate_left
                                    · simp only [Act.put, List.setIfInBounds_toArray, List.set_cons_zero, List.set_cons_succ, i64_w, i32_w]
                                      rfl
                                    refine pure_ (i := 9) (N := some 61) (v := ?_) (a' := ?_) #[true, true, true, true, true, true, true, false, true, true, false, false, false, false, false, false] rfl rfl (any_of HT_.out (by kernel_rfl)) (fun _ _ _ h => h) (Or.inl ⟨by rfl, ?_⟩) ?_ ?_
                                    rotate_left
                                    · intro w'
                                      go_simp
                                      with_reducible rfl
                                    rotate_left
                                    · simp only [Act.put, List.setIfInBounds_toArray, List.set_cons_zero, List.set_cons_succ, i64_w, i32_w]
                                      rfl
                                    refine pure_ (i := 10) (N := some 62) (v := ?_) (a' := ?_) #[true, true, true, true, true, true, true, false, true, true, true, false, false, false, false, false] rfl rfl (any_of HT_.out (by kernel_rfl)) (fun _ _ _ h => h) (Or.inl ⟨by rfl, ?_⟩) ?_ ?_
                                    rotate_left
                                    · intro w'
                                      go_simp
                                      with_reducible rfl
                                    rotate_left
                                    · simp only [Act.put, List.setIfInBounds_toArray, List.set_cons_zero, List.set_cons_succ, i64_w, i32_w]
                                      rfl
                                    refine take_ (i := 7) (N := some 59) (v := ?_) (a' := ?_) #[true, true, true, true, true, true, true, true, true, true, true, false, false, false, false, false] rfl rfl (take_ofW HT_.out HW_.out (by kernel_rfl)) (fun _ _ _ h => h) (Or.inl ⟨by rfl, ?_⟩) hHeld ?_ ?_
                                    rotate_left
                                    · rintro w' ⟨s0, s1, s2, s3, s4, s5⟩
                                      go_simp
                                      with_reducible rfl
                                    rotate_left
                                    · simp only [Act.put, List.setIfInBounds_toArray, List.set_cons_zero, List.set_cons_succ, i64_w, i32_w]
                                      rfl
                                    refine take_ (i := 11) (N := some 63) (v := ?_) (a' := ?_) #[true, true, true, true, true, true, true, true, true, true, true, true, false, false, false, false] rfl rfl (take_ofW HT_.out HW_.out (by kernel_rfl)) (fun _ _ _ h => h) (Or.inl ⟨by rfl, ?_⟩) hHeld ?_ ?_
                                    rotate_left
                                    · rintro w' ⟨s0, s1, s2, s3, s4, s5⟩
                                      go_simp
                                      with_reducible rfl
                                    rotate_left
                                    · simp only [Act.put, List.setIfInBounds_toArray, List.set_cons_zero, List.set_cons_succ, i64_w, i32_w]
                                      rfl
                                    refine pure_ (i := 12) (N := some 64) (v := ?_) (a' := ?_) #[true, true, true, true, true, true, true, true, true, true, true, true, true, false, false, false] rfl rfl (any_of HT_.out (by kernel_rfl)) (fun _ _ _ h => h) (Or.inl ⟨by rfl, ?_⟩) ?_ ?_
                                    rotate_left
                                    · intro w'
                                      go_simp
                                      with_reducible rfl
                                    rotate_left
                                    · simp only [Act.put, List.setIfInBounds_toArray, List.set_cons_zero, List.set_cons_succ, i64_w, i32_w]
                                      rfl
                                    refine last_ (i := 13) (N := none) #[true, true, true, true, true, true, true, true, true, true, true, true, true, true, false, false] rfl rfl (one_of HT_.out (by kernel_rfl)) (by decide) (fun K hK => ?_)
                                    refine skip_ (w1 := ?_) (by rfl) rfl ?_ ?_
                                    rotate_left
                                    · go_simp
                                      rfl
                                    refine hK.out _ _ ?_
                                    clear hK K
                                    have hbS : Aside0 (Below w.heap.size w (((w25.setCell ⟨go23, (x8_5 : Int).toNat * 3, none⟩ (.int .i64 ((rd_T35 x3_5 x9_5).f0.f0))).setCell ⟨go23, (x8_5 : Int).toNat * 3 + 1, none⟩ (.int .i64 ((rd_T35 x3_5 x9_5).f0.f1))).setCell ⟨go23, (x8_5 : Int).toNat * 3 + 2, none⟩ (.int .i64 ((rd_T35 x3_5 x9_5).f1)))) := ⟨by repeat (first | exact HB.out | refine below_set ?_ GB23.out)⟩
                                    generalize (((w25.setCell ⟨go23, (x8_5 : Int).toNat * 3, none⟩ (.int .i64 ((rd_T35 x3_5 x9_5).f0.f0))).setCell ⟨go23, (x8_5 : Int).toNat * 3 + 1, none⟩ (.int .i64 ((rd_T35 x3_5 x9_5).f0.f1))).setCell ⟨go23, (x8_5 : Int).toNat * 3 + 2, none⟩ (.int .i64 ((rd_T35 x3_5 x9_5).f1))) = w25S at HQ26 HQ27 hf24_0 hf24_1 hf24_2 hx24_0 hx24_1 hx24_2 hbS ⊢
                                    clear HB
                                    have HB := hbS
                                    clear hbS
                                    refine pure_ (i := 14) (N := some 65) (v := ?_) (a' := ?_) #[true, true, true, true, true, true, true, true, true, true, true, true, true, true, true, false] rfl rfl (any_of HT_.out (by kernel_rfl)) (fun _ _ _ h => h) (Or.inl ⟨by rfl, ?_⟩) ?_ ?_
                                    rotate_left
                                    · intro w'
                                      go_simp
                                      with_reducible rfl
                                    rotate_left
                                    · simp only [Act.put, List.setIfInBounds_toArray, List.set_cons_zero, List.set_cons_succ, i64_w, i32_w]
                                      rfl
                                    refine last_ (i := 15) (N := none) #[true, true, true, true, true, true, true, true, true, true, true, true, true, true, true, true] rfl rfl (one_of HT_.out (by kernel_rfl)) (by decide) (fun K hK => ?_)
                                    refine skip_ (w1 := ?_) (by rfl) rfl ?_ ?_
                                    rotate_left
                                    · go_simp
                                      rfl
                                    refine hK.out _ _ ?_
                                    clear hK K
                                    refine done_ (done_of HT_.out (by kernel_rfl)) ?_
                                    try go_wp2
                                    (try simp only [← hl3_5])
                                    go_roundg k5
                                    case measure => have := HK1.out; have := HJ6.out; have := HK3.out; have := HJ10.out; have := HK5.out; omega
                                    case rel => exact ⟨(y199), (wrap64 (x8_5 + 1)), (wrap64 (x9_5 - 1)), (by first | rfl | (simp; done) | (simp [*]; done)), (by first | rfl | (simp; done) | (simp [*]; done)), H', ⟨by have := HK1.out; have := HJ6.out; have := HK3.out; have := HJ10.out; have := HK5.out; omega⟩, ⟨by (try simp only [hl3_1]); (try simp only [hl3_3]); (try simp only [hl3_5]); (with_reducible repeat (first | apply Kd.R_alloc | apply Kd.R_drewN | apply Kd.R_drew)); exact HQ27.out⟩, ⟨by repeat (first | (with_reducible first | exact HB.out | apply below_alloc | apply pw_below_drewN | apply below_drew1 | refine below_set ?_ GB23.out | refine below_set ?_ GB23.out | refine below_set ?_ GB23.out | refine below_set ?_ GB23.out | refine below_set ?_ GB23.out | refine below_set ?_ GB23.out) | exact HB.out)⟩⟩
                                  · rw [if_neg c22] at H
                                    exact absurd H (by simp)
                                · rw [if_neg c21] at H
                                  exact absurd H (by simp)
                              · rw [if_neg c20] at H
                                exact absurd H (by simp)
                            · rw [if_neg c19] at H
                              exact absurd H (by simp)
                          · rw [if_neg c18] at H
                            have c18b0 : decide (x8_5 < x9_5) = false := decide_eq_false c18
                            clear c18
                            obtain ⟨ji28, hji28⟩ : ∃ j_ : Int, (mx x6_3 (wrap64 (x7_10 - 1))) = j_ := ⟨_, rfl⟩
                            replace H : (naskhref30_Visual.l1 k5 x3_5 t193 x5_1 (wrap64 ((ji28) + 1))) = some r := by first | (rw [hji28] at H; exact H) | (simp only [hji28] at H ⊢; exact H)
                            have hji28_ : (if x6_3 < (wrap64 (x7_10 - 1)) then (wrap64 (x7_10 - 1)) else x6_3) = ji28 := hji28
                            have H' := Aside0.mk H
                            clear H
                            go_wp2
                            (try simp only [← hl3_3, ← hl3_5])
                            go_roundg k5
                            case measure => have := HK1.out; have := HJ6.out; have := HK3.out; have := HJ10.out; have := HK5.out; omega
                            case rel => exact ⟨(x3_5), (wrap64 ((ji28) + 1)), (by first | rfl | (simp; done) | (simp only [← hji28] <;> (first | rfl | simp)) | (simp [*]; done)), H', ⟨by have := HK1.out; have := HJ6.out; have := HK3.out; have := HJ10.out; have := HK5.out; omega⟩, ⟨by (try simp only [hl3_1]); (try simp only [hl3_3]); (try simp only [hl3_5]); (with_reducible repeat (first | apply Kd.R_alloc | apply Kd.R_drewN | apply Kd.R_drew)); exact HO_3.out⟩, ⟨by repeat (first | (with_reducible first | exact HB.out | apply below_alloc | apply pw_below_drewN | apply below_drew1) | exact HB.out)⟩⟩
                · rw [if_neg c10] at H
                  have c10b0 : decide (x6_3 < (x3_3.length : Int)) = false := decide_eq_false c10
                  have c10_hl3_1 := c10b0; (try rw [hl3_1] at c10_hl3_1)
                  have c10_hl3_3 := c10b0; (try rw [hl3_3] at c10_hl3_3)
                  have c10_hl3_5 := c10b0; (try rw [hl3_5] at c10_hl3_5)
                  clear c10
                  have H' := Aside0.mk H
                  clear H
                  go_wp2
                  (try simp only [← hl3_1, ← hl3_3])
                  go_roundg k3
                  case measure => have := HK1.out; have := HJ6.out; have := HK3.out; omega
                  case rel => exact ⟨(x3_3), (wrap64 (x5_1 - 1)), (by first | rfl | (simp; done) | (simp [*]; done)), H', ⟨by have := HK1.out; have := HJ6.out; have := HK3.out; omega⟩, ⟨by (try simp only [hl3_1]); (try simp only [hl3_3]); (with_reducible repeat (first | apply Kd.R_alloc | apply Kd.R_drewN | apply Kd.R_drew)); exact HO_3.out⟩, ⟨by repeat (first | (with_reducible first | exact HB.out | apply below_alloc | apply pw_below_drewN | apply below_drew1) | exact HB.out)⟩⟩
          · replace c9 := Bool.eq_false_iff.mpr c9
            subst c9
            have H1 : (some x3_1) = some r := by rw [if_neg (show ¬ (false = true) by decide)] at H; exact H
            clear H
            have H := H1
            clear H1
            obtain rfl := Option.some.inj H
            go_wp2
            go_ret
            exact ⟨_, by first | rfl | (simp [errW_none, errW_some] <;> rfl) | (simp [*, errW_none, errW_some] <;> rfl), by (with_reducible repeat (first | apply Kd.R_alloc | apply Kd.R_drewN | apply Kd.R_drew)); exact HO_3.out, by repeat (first | (with_reducible first | exact HB.out | apply below_alloc | apply pw_below_drewN | apply below_drew1) | exact HB.out)⟩

end Go.Proofs.Ytjnhepgjkphkoaa.PRunsTell
