-- PRINTED by print.py (a twelfth state) out of the translation. Not trusted: Lean checks it.
import Derived.Test.YtmkgihmchkphaaaPCaretPlainx0
import Derived.Test.YtmkgihmchkphaaaPCaretPlainx4
import Derived.Test.YtmkgihmchkphaaaPCaretPlainx7
import Derived.Test.YtmkgihmchkphaaaPCaretPlainx8
namespace Go.Proofs.Ytmkgihmchkphaaa.PCaretPlain
open Go.RowKit Go.Proofs.YtmkgihmchkphaaaM Go.Proofs.YtmkgihmchkphaaaW.PrintWords Go.Proofs.YtmkgihmchkphaaaW.PrintLast Go.Proofs.YtmkgihmchkphaaaW.PrintMore
attribute [local go_sem] max2_int min2_int max_two min_two max_three min_three max_four min_four   -- for this text's walks alone
set_option linter.unusedVariables false
set_option linter.unusedSimpArgs false

/-! ### caret_Left: function 35 -/
def caret_Left.f (k : Nat) (l0 : List Int) (a1 : Int) (a2 : Int) : Option (Int) := (caret_moveLeft.f k l0 a1 a2).bind fun t227 => (some t227)
theorem caret_Left.mono : ∀ a0 a1 a2 k, LeO (caret_Left.f k a0 a1 a2) (caret_Left.f (k + 1) a0 a1 a2) := by
  intro a0 a1 a2 k
  unfold caret_Left.f
  repeat' first
      | (with_reducible exact caret_moveLeft.mono _ _ _ _)
      | (with_reducible exact LeO.refl _)
      | (with_reducible exact LeO.none _)
      | (with_reducible refine LeO.ite ?_ ?_)
      | (with_reducible refine LeO.bind ?_ (fun _ => ?_))
      | exact caret_moveLeft.mono _ _ _ _
      | exact LeO.none _
      | refine LeO.ite ?_ ?_
      | refine LeO.bind ?_ (fun _ => ?_)
set_option maxHeartbeats 8000000 in
set_option maxRecDepth 100000 in
theorem caret_Left.calls (k : Nat) (A0 : Option Addr) (c0 : Nat) (l0 : List Int) (a1 : Int) (a2 : Int) (r : Int) (w : World) (hr0 : Kd.C (Kd.int .i64) w A0 l0.length l0) (hc0 : l0.length ≤ c0) (h : caret_Left.f k l0 a1 a2 = some r) :
    Calls Try.prog 35 #[.slice A0 l0.length c0, .int .i64 a1, .int .i64 a2] w fun e w' => e = .returned (.int .i64 r) ∧ Below w.heap.size w w' := by
  have HR0 := Aside0.mk hr0
  have HC0 := Aside0.mk hc0
  clear hr0 hc0
  have HB := Aside0.mk (Below.refl w.heap.size w)
  have H : ((caret_moveLeft.f k l0 a1 a2).bind fun t227 => (some t227)) = some r := h
  clear h
  replace H := Option.bind_eq_some_iff.mp H
  obtain ⟨t227, A40, H⟩ := H
  replace H : (some t227) = some r := H
  have A4 := Aside0.mk A40
  clear A40
  obtain rfl := Option.some.inj H
  go_enter Try.func35, Try.ntmps35
  go_wp2_with (first | ((with_reducible refine gate_callee (f := 68) rfl ?_); refine goesL_ (some 10) rfl rfl Try.func68 (by kernel_rfl) rfl #[.slice A0 l0.length c0, .int .i64 a1, .int .i64 a2, .func (.func 69) #[] #[], .func (.func 70) #[] #[]] rfl (by (try simp only [List.map_toArray, List.map_cons, List.map_nil]); first | done | rfl | (simp only [List.length_drop, List.length_take]; rfl)) ?_; (with_reducible refine (caret_moveLeft.calls k _ _ l0 a1 a2   t227 _ ?side1 ?side2 A4.out).mono ?_); (case side1 => repeat (first | exact HR0.out | (with_reducible refine Kd.C_alloc ?_ _) | (with_reducible refine Kd.C_drewN ?_ _) | (with_reducible refine Kd.C_drew ?_))); (case side2 => exact HC0.out); rintro e w5 ⟨rfl, hb⟩; refine ⟨_, rfl, ?_⟩; have n0_ := Aside0.mk (below_step (by repeat (first | (with_reducible first | exact HB.out | apply below_alloc | apply pw_below_drewN | apply below_drew1) | exact HB.out)) hb); clear HB; have HB := n0_; clear n0_; (try clear hb); (try clear hb2); (try clear hk); (try clear hi)))
  go_ret
  exact ⟨by first | rfl | (simp [errW_none, errW_some] <;> rfl) | (simp [*, errW_none, errW_some] <;> rfl), by repeat (first | (with_reducible first | exact HB.out | apply below_alloc | apply pw_below_drewN | apply below_drew1) | exact HB.out)⟩

/-! ### naskhlaw44_CaretPlain: function 9 -/
mutual
def naskhlaw44_CaretPlain.j0 : Nat → Bool → Int → Int → Option (Bool)
  | 0, _, _, _ => none
  | k + 1, x1, x5, x6 => if 0 ≤ x5 then (if (x5 : Int).toNat ≤ 35184372088832 then ((some (List.replicate (x5 : Int).toNat 0 : List Int)).bind fun y228 => (naskhlaw44_CaretPlain.l0 k x1 x5 x6 y228 (y228.length : Int) 0)) else (none)) else (none)
def naskhlaw44_CaretPlain.l0 : Nat → Bool → Int → Int → List Int → Int → Int → Option (Bool)
  | 0, _, _, _, _, _, _ => none
  | k + 1, x1, x5, x6, x7, x22, x23 => if x23 < x22 then (if 0 ≤ x23 then (if x23 < (x7.length : Int) then (naskhlaw44_CaretPlain.l0 k x1 x5 x6 (x7.set (x23 : Int).toNat x6) x22 (wrap64 (x23 + 1))) else (none)) else (none)) else ((caret_Stops.f k x7 x6).bind fun t232 => (if (t232.length : Int) = (wrap64 (x5 + 1)) then (naskhlaw44_CaretPlain.l1 k x1 x5 x6 x7 t232 (t232.length : Int) 0) else (some false)))
def naskhlaw44_CaretPlain.l1 : Nat → Bool → Int → Int → List Int → List (S51) → Int → Int → Option (Bool)
  | 0, _, _, _, _, _, _, _ => none
  | k + 1, x1, x5, x6, x7, x39, x40, x41 => if x41 < x40 then (if 0 ≤ x41 then (if x41 < (x39.length : Int) then (if x1 = true then (naskhlaw44_CaretPlain.j3 k x1 x5 x6 x7 x41 (wrap64 (x5 - x41)) (mx (wrap64 (x41 - 1)) 0) (mn (wrap64 (x41 + 1)) x5) x39 x40 x41 ((rd_T51 x39 x41).f0) ((rd_T51 x39 x41).f1)) else (naskhlaw44_CaretPlain.j3 k x1 x5 x6 x7 x41 x41 (mn (wrap64 (x41 + 1)) x5) (mx (wrap64 (x41 - 1)) 0) x39 x40 x41 ((rd_T51 x39 x41).f0) ((rd_T51 x39 x41).f1))) else (none)) else (none)) else ((naskhlaw44_awake.f k).bind fun t235 => (some t235))
def naskhlaw44_CaretPlain.j3 : Nat → Bool → Int → Int → List Int → Int → Int → Int → Int → List (S51) → Int → Int → Int → Int → Option (Bool)
  | 0, _, _, _, _, _, _, _, _, _, _, _, _, _ => none
  | k + 1, x1, x5, x6, x7, x10, x12, x13, x14, x39, x40, x41, x238000, x238001 => if x238000 = x12 then (if x238001 = x12 then ((caret_Right.f k x7 x6 x10).bind fun t238 => (if t238 = x13 then ((caret_Left.f k x7 x6 x10).bind fun t239 => (if t239 = x14 then (naskhlaw44_CaretPlain.l1 k x1 x5 x6 x7 x39 x40 (wrap64 (x41 + 1))) else (some false))) else (some false))) else (some false)) else (some false)
end
def naskhlaw44_CaretPlain.f (k : Nat) (a0 : Int) (a1 : Bool) : Option (Bool) := if a1 = true then (naskhlaw44_CaretPlain.j0 k a1 (wrap64 (Int.tmod a0 60)) 1) else (naskhlaw44_CaretPlain.j0 k a1 (wrap64 (Int.tmod a0 60)) 0)
theorem naskhlaw44_CaretPlain.mono_l : ∀ k, (∀ y0 y1 y2, LeO (naskhlaw44_CaretPlain.j0 k y0 y1 y2) (naskhlaw44_CaretPlain.j0 (k + 1) y0 y1 y2)) ∧ (∀ y0 y1 y2 y3 y4 y5, LeO (naskhlaw44_CaretPlain.l0 k y0 y1 y2 y3 y4 y5) (naskhlaw44_CaretPlain.l0 (k + 1) y0 y1 y2 y3 y4 y5)) ∧ (∀ y0 y1 y2 y3 y4 y5 y6, LeO (naskhlaw44_CaretPlain.l1 k y0 y1 y2 y3 y4 y5 y6) (naskhlaw44_CaretPlain.l1 (k + 1) y0 y1 y2 y3 y4 y5 y6)) ∧ (∀ y0 y1 y2 y3 y4 y5 y6 y7 y8 y9 y10 y11 y12, LeO (naskhlaw44_CaretPlain.j3 k y0 y1 y2 y3 y4 y5 y6 y7 y8 y9 y10 y11 y12) (naskhlaw44_CaretPlain.j3 (k + 1) y0 y1 y2 y3 y4 y5 y6 y7 y8 y9 y10 y11 y12))
  | 0 => ⟨fun _ _ _ r h => by simp [naskhlaw44_CaretPlain.j0] at h, fun _ _ _ _ _ _ r h => by simp [naskhlaw44_CaretPlain.l0] at h, fun _ _ _ _ _ _ _ r h => by simp [naskhlaw44_CaretPlain.l1] at h, fun _ _ _ _ _ _ _ _ _ _ _ _ _ r h => by simp [naskhlaw44_CaretPlain.j3] at h⟩
  | k + 1 => by
    obtain ⟨ih0, ih1, ih2, ih3⟩ := naskhlaw44_CaretPlain.mono_l k
    refine ⟨?_, ?_, ?_, ?_⟩
    · intro y0 y1 y2
      unfold naskhlaw44_CaretPlain.j0
      repeat' first
      | (with_reducible exact ih0 _ _ _)
      | (with_reducible exact ih1 _ _ _ _ _ _)
      | (with_reducible exact ih2 _ _ _ _ _ _ _)
      | (with_reducible exact ih3 _ _ _ _ _ _ _ _ _ _ _ _ _)
      | (with_reducible exact caret_Left.mono _ _ _ _)
      | (with_reducible exact caret_Right.mono _ _ _ _)
      | (with_reducible exact caret_Stops.mono _ _ _)
      | (with_reducible exact naskhlaw44_awake.mono _)
      | (with_reducible exact LeO.refl _)
      | (with_reducible exact LeO.none _)
      | (with_reducible refine LeO.ite ?_ ?_)
      | (with_reducible refine LeO.bind ?_ (fun _ => ?_))
      | exact ih0 _ _ _
      | exact ih1 _ _ _ _ _ _
      | exact ih2 _ _ _ _ _ _ _
      | exact ih3 _ _ _ _ _ _ _ _ _ _ _ _ _
      | exact caret_Left.mono _ _ _ _
      | exact caret_Right.mono _ _ _ _
      | exact caret_Stops.mono _ _ _
      | exact naskhlaw44_awake.mono _
      | exact LeO.none _
      | refine LeO.ite ?_ ?_
      | refine LeO.bind ?_ (fun _ => ?_)
    · intro y0 y1 y2 y3 y4 y5
      unfold naskhlaw44_CaretPlain.l0
      repeat' first
      | (with_reducible exact ih0 _ _ _)
      | (with_reducible exact ih1 _ _ _ _ _ _)
      | (with_reducible exact ih2 _ _ _ _ _ _ _)
      | (with_reducible exact ih3 _ _ _ _ _ _ _ _ _ _ _ _ _)
      | (with_reducible exact caret_Left.mono _ _ _ _)
      | (with_reducible exact caret_Right.mono _ _ _ _)
      | (with_reducible exact caret_Stops.mono _ _ _)
      | (with_reducible exact naskhlaw44_awake.mono _)
      | (with_reducible exact LeO.refl _)
      | (with_reducible exact LeO.none _)
      | (with_reducible refine LeO.ite ?_ ?_)
      | (with_reducible refine LeO.bind ?_ (fun _ => ?_))
      | exact ih0 _ _ _
      | exact ih1 _ _ _ _ _ _
      | exact ih2 _ _ _ _ _ _ _
      | exact ih3 _ _ _ _ _ _ _ _ _ _ _ _ _
      | exact caret_Left.mono _ _ _ _
      | exact caret_Right.mono _ _ _ _
      | exact caret_Stops.mono _ _ _
      | exact naskhlaw44_awake.mono _
      | exact LeO.none _
      | refine LeO.ite ?_ ?_
      | refine LeO.bind ?_ (fun _ => ?_)
    · intro y0 y1 y2 y3 y4 y5 y6
      unfold naskhlaw44_CaretPlain.l1
      repeat' first
      | (with_reducible exact ih0 _ _ _)
      | (with_reducible exact ih1 _ _ _ _ _ _)
      | (with_reducible exact ih2 _ _ _ _ _ _ _)
      | (with_reducible exact ih3 _ _ _ _ _ _ _ _ _ _ _ _ _)
      | (with_reducible exact caret_Left.mono _ _ _ _)
      | (with_reducible exact caret_Right.mono _ _ _ _)
      | (with_reducible exact caret_Stops.mono _ _ _)
      | (with_reducible exact naskhlaw44_awake.mono _)
      | (with_reducible exact LeO.refl _)
      | (with_reducible exact LeO.none _)
      | (with_reducible refine LeO.ite ?_ ?_)
      | (with_reducible refine LeO.bind ?_ (fun _ => ?_))
      | exact ih0 _ _ _
      | exact ih1 _ _ _ _ _ _
      | exact ih2 _ _ _ _ _ _ _
      | exact ih3 _ _ _ _ _ _ _ _ _ _ _ _ _
      | exact caret_Left.mono _ _ _ _
      | exact caret_Right.mono _ _ _ _
      | exact caret_Stops.mono _ _ _
      | exact naskhlaw44_awake.mono _
      | exact LeO.none _
      | refine LeO.ite ?_ ?_
      | refine LeO.bind ?_ (fun _ => ?_)
    · intro y0 y1 y2 y3 y4 y5 y6 y7 y8 y9 y10 y11 y12
      unfold naskhlaw44_CaretPlain.j3
      repeat' first
      | (with_reducible exact ih0 _ _ _)
      | (with_reducible exact ih1 _ _ _ _ _ _)
      | (with_reducible exact ih2 _ _ _ _ _ _ _)
      | (with_reducible exact ih3 _ _ _ _ _ _ _ _ _ _ _ _ _)
      | (with_reducible exact caret_Left.mono _ _ _ _)
      | (with_reducible exact caret_Right.mono _ _ _ _)
      | (with_reducible exact caret_Stops.mono _ _ _)
      | (with_reducible exact naskhlaw44_awake.mono _)
      | (with_reducible exact LeO.refl _)
      | (with_reducible exact LeO.none _)
      | (with_reducible refine LeO.ite ?_ ?_)
      | (with_reducible refine LeO.bind ?_ (fun _ => ?_))
      | exact ih0 _ _ _
      | exact ih1 _ _ _ _ _ _
      | exact ih2 _ _ _ _ _ _ _
      | exact ih3 _ _ _ _ _ _ _ _ _ _ _ _ _
      | exact caret_Left.mono _ _ _ _
      | exact caret_Right.mono _ _ _ _
      | exact caret_Stops.mono _ _ _
      | exact naskhlaw44_awake.mono _
      | exact LeO.none _
      | refine LeO.ite ?_ ?_
      | refine LeO.bind ?_ (fun _ => ?_)
theorem naskhlaw44_CaretPlain.mono : ∀ a0 a1 k, LeO (naskhlaw44_CaretPlain.f k a0 a1) (naskhlaw44_CaretPlain.f (k + 1) a0 a1) := by
  intro a0 a1 k
  obtain ⟨ih0, ih1, ih2, ih3⟩ := naskhlaw44_CaretPlain.mono_l k
  unfold naskhlaw44_CaretPlain.f
  repeat' first
      | (with_reducible exact ih0 _ _ _)
      | (with_reducible exact ih1 _ _ _ _ _ _)
      | (with_reducible exact ih2 _ _ _ _ _ _ _)
      | (with_reducible exact ih3 _ _ _ _ _ _ _ _ _ _ _ _ _)
      | (with_reducible exact caret_Left.mono _ _ _ _)
      | (with_reducible exact caret_Right.mono _ _ _ _)
      | (with_reducible exact caret_Stops.mono _ _ _)
      | (with_reducible exact naskhlaw44_awake.mono _)
      | (with_reducible exact LeO.refl _)
      | (with_reducible exact LeO.none _)
      | (with_reducible refine LeO.ite ?_ ?_)
      | (with_reducible refine LeO.bind ?_ (fun _ => ?_))
      | exact ih0 _ _ _
      | exact ih1 _ _ _ _ _ _
      | exact ih2 _ _ _ _ _ _ _
      | exact ih3 _ _ _ _ _ _ _ _ _ _ _ _ _
      | exact caret_Left.mono _ _ _ _
      | exact caret_Right.mono _ _ _ _
      | exact caret_Stops.mono _ _ _
      | exact naskhlaw44_awake.mono _
      | exact LeO.none _
      | refine LeO.ite ?_ ?_
      | refine LeO.bind ?_ (fun _ => ?_)
set_option maxHeartbeats 8000000 in
set_option maxRecDepth 100000 in
theorem naskhlaw44_CaretPlain.calls (k : Nat) (a0 : Int) (a1 : Bool) (r : Bool) (w : World) (h : naskhlaw44_CaretPlain.f k a0 a1 = some r) :
    Calls Try.prog 9 #[.int .u8 a0, .bool a1] w fun e w' => e = .returned (.bool r) ∧ Below w.heap.size w w' := by
  have hu51 := Try.underlying51
  have HB := Aside0.mk (Below.refl w.heap.size w)
  have H : (if a1 = true then (naskhlaw44_CaretPlain.j0 k a1 (wrap64 (Int.tmod a0 60)) 1) else (naskhlaw44_CaretPlain.j0 k a1 (wrap64 (Int.tmod a0 60)) 0)) = some r := h
  clear h
  have HC3 := Aside0.mk H
  clear H
  go_enter Try.func9, Try.ntmps9
  go_upto_if 18 with (fail)
  go_cut [6] (fun v6 wc => ∃ (kq : Nat) (x6_2 : Int), v6 = .int .i64 x6_2 ∧ Aside0 (naskhlaw44_CaretPlain.j0 kq a1 (wrap64 (Int.tmod a0 60)) x6_2 = some r) ∧ Aside0 (kq ≤ k) ∧ Aside0 (Below w.heap.size w wc))
  case first =>
    have H := HC3.out
    clear HC3
    by_cases c4 : a1 = true
    · subst c4
      have H1 : (naskhlaw44_CaretPlain.j0 k true (wrap64 (Int.tmod a0 60)) 1) = some r := by rw [if_pos rfl] at H; exact H
      clear H
      have H := H1
      clear H1
      have H' := Aside0.mk H
      clear H
      go_wp2
      go_meet
      case rel => exact ⟨_, (1), (by first | rfl | (simp; done) | (simp [*]; done)), H', ⟨by first | omega | exact Nat.le_refl _⟩, ⟨by repeat (first | (with_reducible first | exact HB.out | apply below_alloc | apply pw_below_drewN | apply below_drew1) | exact HB.out)⟩⟩
    · replace c4 := Bool.eq_false_iff.mpr c4
      subst c4
      have H1 : (naskhlaw44_CaretPlain.j0 k false (wrap64 (Int.tmod a0 60)) 0) = some r := by rw [if_neg (show ¬ (false = true) by decide)] at H; exact H
      clear H
      have H := H1
      clear H1
      have H' := Aside0.mk H
      clear H
      go_wp2
      go_meet
      case rel => exact ⟨_, (0), (by first | rfl | (simp; done) | (simp [*]; done)), H', ⟨by first | omega | exact Nat.le_refl _⟩, ⟨by repeat (first | (with_reducible first | exact HB.out | apply below_alloc | apply pw_below_drewN | apply below_drew1) | exact HB.out)⟩⟩
  case rest =>
    clear HC3
    try clear p2
    try clear c4
    obtain ⟨kq, x6_2, rfl, HA, HJ2, HB⟩ := hcut
    cases kq with
    | zero => exact absurd HA.out (by simp [naskhlaw44_CaretPlain.j0])
    | succ kj2 =>
      have H := HA.out
      clear HA
      simp only [naskhlaw44_CaretPlain.j0] at H
      obtain ⟨ji5, hji5⟩ : ∃ j_ : Int, (wrap64 (Int.tmod a0 60)) = j_ := ⟨_, rfl⟩
      replace H : (if 0 ≤ (ji5) then (if ((ji5) : Int).toNat ≤ 35184372088832 then ((some (List.replicate ((ji5) : Int).toNat 0 : List Int)).bind fun y228 => (naskhlaw44_CaretPlain.l0 kj2 a1 (ji5) x6_2 y228 (y228.length : Int) 0)) else (none)) else (none)) = some r := by first | (rw [hji5] at H; exact H) | (simp only [hji5] at H ⊢; exact H)
      have hji5w : (IntKind.i64.wrap (Int.tmod a0 60)) = ji5 := (i64_w _).trans hji5
      by_cases c6 : 0 ≤ (ji5)
      · rw [if_pos c6] at H
        have c6b0 := eq_true c6
        have c6b1 : decide (0 ≤ (ji5)) = true := decide_eq_true c6
        clear c6
        by_cases c7 : ((ji5) : Int).toNat ≤ 35184372088832
        · rw [if_pos c7] at H
          have c7b0 := eq_true c7
          have c7b1 : decide (((ji5) : Int).toNat ≤ 35184372088832) = true := decide_eq_true c7
          clear c7
          obtain ⟨y228, hy228⟩ : ∃ y_ : List Int, y_ = (List.replicate ((ji5) : Int).toNat 0) := ⟨_, rfl⟩
          replace H : (naskhlaw44_CaretPlain.l0 kj2 a1 (ji5) x6_2 y228 (y228.length : Int) 0) = some r := by first | (rw [hy228]; with_reducible exact H) | (have H2_ := (Option.bind_some _ _).symm.trans H; rw [hy228]; with_reducible exact H2_) | (have H2_ := (Option.bind_some _ _).symm.trans H; with_reducible exact H2_) | with_reducible exact H | (rw [hy228]; exact H) | exact H
          have Ny228 := Aside0.mk hy228
          clear hy228
          have H' := Aside0.mk H
          clear H
          go_wp2_with (first | ((with_reducible refine gate_dst (N := 20) rfl ?_); refine Kd.R_make (Kd.int .i64) _ 3 rfl (N := 20) rfl 22 _ _ rfl (ji5) (by first | rfl | exact congrArg (Value.int .i64) hji5) (by first | rfl | exact congrArg (Value.int .i64) hji5) Try.underlying22 (.int .i64 0) 8 info3 rfl (by decide) (by omega) 0 (ok := fun _ => True) (okp := fun _ => True) rfl (fun _ hk => hk) trivial (of_decide_eq_true (by first | (with_reducible assumption) | assumption)) (Nat.le_trans (Nat.mul_le_mul_right _ (of_decide_eq_true (by first | (with_reducible assumption) | assumption) : (ji5).toNat ≤ 35184372088832)) (by omega)) (Below.refl _ _) (Nat.le_refl _) ?_; intro v229 w8 ho9 hb hg_ hnew_; clear hg_ hnew_; (first | rw [← Ny228.out] at ho9 | (simp only [Int.reduceToNat] at ho9; rw [← Ny228.out] at ho9)); have n0_ := Aside0.mk (Kd.R_lower ho9 (below_size (by repeat (first | (with_reducible first | exact HB.out | apply below_alloc | apply pw_below_drewN | apply below_drew1) | exact HB.out)))); have n1_ := Aside0.mk (below_step (by repeat (first | (with_reducible first | exact HB.out | apply below_alloc | apply pw_below_drewN | apply below_drew1) | exact HB.out)) hb); clear HB; have HO230 := n0_; have HB := n1_; clear n0_ n1_; clear hb ho9; obtain ⟨Ao10, co10, eo10⟩ := Kd.R_slice HO230.out; subst eo10))
          go_loopg [23] kj2 (fun kq v23 w' => ∃ (x7_2 : List Int) (x23_2 : Int), v23 = .int .i64 x23_2 ∧ Aside0 (naskhlaw44_CaretPlain.l0 kq a1 (ji5) x6_2 x7_2 (y228.length : Int) x23_2 = some r) ∧ Aside0 (kq ≤ kj2) ∧ Aside0 (Kd.R (Kd.int .i64) 3 w' w.heap.size (fun _ => True) (.slice Ao10 y228.length co10) x7_2) ∧ Aside0 (Below w.heap.size w w'))
          case atStart => exact ⟨(y228), (0), (by first | rfl | (simp; done) | (simp [*]; done)), H', ⟨Nat.le_refl _⟩, ⟨by (with_reducible repeat (first | apply Kd.R_alloc | apply Kd.R_drewN | apply Kd.R_drew)); exact HO230.out⟩, ⟨by repeat (first | (with_reducible first | exact HB.out | apply below_alloc | apply pw_below_drewN | apply below_drew1) | exact HB.out)⟩⟩
          case round =>
            clear H'
            try clear p2
            try clear c4
            try clear c6
            try clear c6b0
            try clear c6b1
            try clear p6
            try clear c7
            try clear c7b0
            try clear c7b1
            try clear c9
            try clear p2
            obtain ⟨x7_2, x23_2, rfl, HA, HK2, HO_7, HB⟩ := hrel
            have hl7_2 := (Kd.R_reads' HO_7.out).1
            rw [hl7_2] at HO_7
            (try simp only [hl7_2])
            cases gk with
            | zero => exact absurd HA.out (by simp [naskhlaw44_CaretPlain.l0])
            | succ k2 =>
              have H := HA.out
              clear HA
              simp only [naskhlaw44_CaretPlain.l0] at H
              by_cases c11 : x23_2 < (y228.length : Int)
              · rw [if_pos c11] at H
                have c11b0 : decide (x23_2 < (y228.length : Int)) = true := decide_eq_true c11
                clear c11
                by_cases c12 : 0 ≤ x23_2
                · rw [if_pos c12] at H
                  have c12b0 : decide (0 ≤ x23_2) = true := decide_eq_true c12
                  clear c12
                  by_cases c13 : x23_2 < (x7_2.length : Int)
                  · rw [if_pos c13] at H
                    have c13b0 : decide (x23_2 < (x7_2.length : Int)) = true := decide_eq_true c13
                    clear c13
                    obtain ⟨y231, hy231⟩ : ∃ y_ : List Int, y_ = (x7_2.set (x23_2 : Int).toNat x6_2) := ⟨_, rfl⟩
                    replace H : (naskhlaw44_CaretPlain.l0 k2 a1 (ji5) x6_2 y231 (y228.length : Int) (wrap64 (x23_2 + 1))) = some r := by first | (rw [hy231]; with_reducible exact H) | (have H2_ := (Option.bind_some _ _).symm.trans H; rw [hy231]; with_reducible exact H2_) | (have H2_ := (Option.bind_some _ _).symm.trans H; with_reducible exact H2_) | with_reducible exact H | (rw [hy231]; exact H) | exact H
                    have Ny231 := Aside0.mk hy231
                    clear hy231
                    have H' := Aside0.mk H
                    clear H
                    have p14 : 0 ≤ (x23_2 : Int) := of_decide_eq_true (by first | (with_reducible assumption) | assumption)
                    have q14 : (x23_2 : Int) < ((x7_2.length : Int) : Int) := of_decide_eq_true (by first | (with_reducible assumption) | assumption)
                    obtain ⟨go14, co14, eo14, gb14, gl14, cl14, HG14⟩ := Kd.R_form HO_7.out (by omega)
                    (first | cases eo14 | (injection eo14 with ea_ en_ ec_; (first | subst ea_ | (injection ea_ with ea_; subst ea_)); subst ec_; clear en_))
                    have GB14 := Aside0.mk gb14
                    have GG14 := Aside0.mk HG14
                    clear gb14 gl14 HG14
                    obtain ⟨hx14_0, hf14_0⟩ := Kd.R_celln 0 HO_7.out (x23_2 : Int) p14 q14
                    replace p14 := eq_true p14
                    replace q14 := eq_true q14
                    have HP15 := Kd.R_putg HO_7.out (x23_2 : Int) x6_2
                    go_wp2_with (first | ((with_reducible refine gate_store (t := 3) (p := 29) rfl ?_); refine store_event (t := 3) (p := 29) (v := ?vo_w16) (w1 := (wr.setCell ⟨go14, (x23_2 : Int).toNat, none⟩ (.int .i64 x6_2))) ?hg ?ho ?hn ?hr ?_; (case ho => rfl); (case hg => rfl); (case hn => rfl); (case hr => first | (go_simp; done) | (go_simp; rfl)); intro w16 hw; have hg : wr.grownBy w16 (some go14) := (by rw [hw]; exact HP15.2); have hp_ : Kd.R (Kd.int .i64) 3 w16 w.heap.size (fun _ => True) (.slice (some ⟨go14, 0, none⟩) x7_2.length co10) y231 := (by rw [hw, Ny231.out]; exact HP15.1); clear HP15; have n0_ := Aside0.mk (hp_); have n1_ := Aside0.mk ((by rw [hw]; exact below_set (HB.out) GB14.out : Below w.heap.size w w16)); clear HO_7; clear HB; have HO_7 := n0_; have HB := n1_; clear n0_ n1_; clear hg hw hp_))
                    (try simp only [← hl7_2])
                    go_roundg k2
                    case measure => have := HJ2.out; have := HK2.out; omega
                    case rel => exact ⟨(y231), (wrap64 (x23_2 + 1)), (by first | rfl | (simp; done) | (simp [*]; done)), H', ⟨by have := HJ2.out; have := HK2.out; omega⟩, ⟨by (try simp only [hl7_2]); (with_reducible repeat (first | apply Kd.R_alloc | apply Kd.R_drewN | apply Kd.R_drew)); exact HO_7.out⟩, ⟨by repeat (first | (with_reducible first | exact HB.out | apply below_alloc | apply pw_below_drewN | apply below_drew1) | exact HB.out)⟩⟩
                  · rw [if_neg c13] at H
                    exact absurd H (by simp)
                · rw [if_neg c12] at H
                  exact absurd H (by simp)
              · rw [if_neg c11] at H
                have c11b0 : decide (x23_2 < (y228.length : Int)) = false := decide_eq_false c11
                have c11_hl7_2 := c11b0; (try rw [hl7_2] at c11_hl7_2)
                clear c11
                replace H := Option.bind_eq_some_iff.mp H
                obtain ⟨t232, A170, H⟩ := H
                replace H : (if (t232.length : Int) = (wrap64 ((ji5) + 1)) then (naskhlaw44_CaretPlain.l1 k2 a1 (ji5) x6_2 x7_2 t232 (t232.length : Int) 0) else (some false)) = some r := H
                have A17 := Aside0.mk A170
                clear A170
                by_cases c18 : (t232.length : Int) = (wrap64 ((ji5) + 1))
                · rw [if_pos c18] at H
                  have c18b0 : ((t232.length : Int) == (wrap64 ((ji5) + 1))) = true := beq_iff_eq.mpr c18
                  have c18b1 : ((t232.length : Int) != (wrap64 ((ji5) + 1))) = false := bne_eq_false_iff_eq.mpr c18
                  clear c18
                  have H' := Aside0.mk H
                  clear H
                  go_wp2_with (first | ((with_reducible refine gate_callee (f := 31) rfl ?_); refine goesL_ (some 33) rfl rfl Try.func31 (by kernel_rfl) rfl #[.slice Ao10 x7_2.length co10, .int .i64 x6_2] rfl (by (try simp only [List.map_toArray, List.map_cons, List.map_nil]); first | done | rfl | (simp only [List.length_drop, List.length_take]; rfl)) ?_; (with_reducible refine (caret_Stops.calls k2 _ _ x7_2 x6_2 t232 _ ?side1 ?side2 A17.out).mono ?_); (case side1 => repeat (first | exact (Kd.R_reads' HO_7.out).2.2 | (with_reducible refine Kd.C_alloc ?_ _) | (with_reducible refine Kd.C_drewN ?_ _) | (with_reducible refine Kd.C_drew ?_))); (case side2 => exact (Kd.R_reads' HO_7.out).2.1); rintro e w19 ⟨v233, rfl, ho0, hb⟩; refine ⟨_, rfl, ?_⟩; have n0_ := Aside0.mk (Kd.R_below (by (with_reducible repeat (first | apply Kd.R_alloc | apply Kd.R_drewN | apply Kd.R_drew)); exact HO_7.out) hb); have n1_ := Aside0.mk (Kd.R_lower ho0 (below_size (by repeat (first | (with_reducible first | exact HB.out | apply below_alloc | apply pw_below_drewN | apply below_drew1) | exact HB.out)))); have n2_ := Aside0.mk (below_step (by repeat (first | (with_reducible first | exact HB.out | apply below_alloc | apply pw_below_drewN | apply below_drew1) | exact HB.out)) hb); clear HO_7; clear HB; have HO_7 := n0_; have HO234 := n1_; have HB := n2_; clear n0_ n1_ n2_; (try clear hb); (try clear hb2); (try clear hk); (try clear hi); (try clear ho0); obtain ⟨Ao20, co20, eo20⟩ := Kd.R_slice HO234.out; subst eo20))
                  go_loopg [41] k2 (fun kq v41 w' => ∃ (x41_3 : Int), v41 = .int .i64 x41_3 ∧ Aside0 (naskhlaw44_CaretPlain.l1 kq a1 (ji5) x6_2 x7_2 t232 (t232.length : Int) x41_3 = some r) ∧ Aside0 (kq ≤ k2) ∧ Aside0 (Kd.R (Kd.int .i64) 3 w' w.heap.size (fun _ => True) (.slice Ao10 x7_2.length co10) x7_2) ∧ Aside0 (Kd.R k51 51 w' w.heap.size (fun _ => True) (.slice Ao20 t232.length co20) t232) ∧ Aside0 (Below w.heap.size w w'))
                  case atStart => exact ⟨(0), (by first | rfl | (simp; done) | (simp [*]; done)), H', ⟨Nat.le_refl _⟩, ⟨by (try simp only [hl7_2]); (with_reducible repeat (first | apply Kd.R_alloc | apply Kd.R_drewN | apply Kd.R_drew)); exact HO_7.out⟩, ⟨by (try simp only [hl7_2]); (with_reducible repeat (first | apply Kd.R_alloc | apply Kd.R_drewN | apply Kd.R_drew)); exact HO234.out⟩, ⟨by repeat (first | (with_reducible first | exact HB.out | apply below_alloc | apply pw_below_drewN | apply below_drew1) | exact HB.out)⟩⟩
                  case round =>
                    clear H'
                    try clear c1
                    try clear p1
                    try clear q1
                    try clear hx1
                    try clear p2
                    try clear c3
                    try clear c4
                    try clear c6
                    try clear c6b0
                    try clear c6b1
                    try clear p6
                    try clear c7
                    try clear c7b0
                    try clear c7b1
                    try clear c9
                    try clear c11
                    try clear c11b0
                    try clear c12
                    try clear c12b0
                    try clear c13
                    try clear c13b0
                    try clear p14
                    try clear q14
                    try clear hx14
                    try clear hf14
                    try clear c18
                    try clear c18b0
                    try clear c18b1
                    try clear hx14_0
                    try clear p14
                    try clear p2
                    try clear p6
                    try clear q14
                    obtain ⟨x41_3, rfl, HA, HK3, HO_7, HO_39, HB⟩ := hrel
                    cases gk with
                    | zero => exact absurd HA.out (by simp [naskhlaw44_CaretPlain.l1])
                    | succ k3 =>
                      have H := HA.out
                      clear HA
                      simp only [naskhlaw44_CaretPlain.l1] at H
                      by_cases c21 : x41_3 < (t232.length : Int)
                      · rw [if_pos c21] at H
                        have c21b0 : decide (x41_3 < (t232.length : Int)) = true := decide_eq_true c21
                        clear c21
                        by_cases c22 : 0 ≤ x41_3
                        · rw [if_pos c22] at H
                          have c22b0 : decide (0 ≤ x41_3) = true := decide_eq_true c22
                          clear c22
                          by_cases c23 : x41_3 < (t232.length : Int)
                          · rw [if_pos c23] at H
                            have c23b0 : decide (x41_3 < (t232.length : Int)) = true := decide_eq_true c23
                            clear c23
                            obtain ⟨ji24, hji24⟩ : ∃ j_ : Int, (mn (wrap64 (x41_3 + 1)) (ji5)) = j_ := ⟨_, rfl⟩
                            replace H : (if a1 = true then (naskhlaw44_CaretPlain.j3 k3 a1 (ji5) x6_2 x7_2 x41_3 (wrap64 ((ji5) - x41_3)) (mx (wrap64 (x41_3 - 1)) 0) ji24 t232 (t232.length : Int) x41_3 ((rd_T51 t232 x41_3).f0) ((rd_T51 t232 x41_3).f1)) else (naskhlaw44_CaretPlain.j3 k3 a1 (ji5) x6_2 x7_2 x41_3 x41_3 ji24 (mx (wrap64 (x41_3 - 1)) 0) t232 (t232.length : Int) x41_3 ((rd_T51 t232 x41_3).f0) ((rd_T51 t232 x41_3).f1))) = some r := by first | (rw [hji24] at H; exact H) | (simp only [hji24] at H ⊢; exact H)
                            have hji24_ : (if (ji5) < (wrap64 (x41_3 + 1)) then (ji5) else (wrap64 (x41_3 + 1))) = ji24 := hji24
                            obtain ⟨ji25, hji25⟩ : ∃ j_ : Int, (mx (wrap64 (x41_3 - 1)) 0) = j_ := ⟨_, rfl⟩
                            replace H : (if a1 = true then (naskhlaw44_CaretPlain.j3 k3 a1 (ji5) x6_2 x7_2 x41_3 (wrap64 ((ji5) - x41_3)) ji25 ji24 t232 (t232.length : Int) x41_3 ((rd_T51 t232 x41_3).f0) ((rd_T51 t232 x41_3).f1)) else (naskhlaw44_CaretPlain.j3 k3 a1 (ji5) x6_2 x7_2 x41_3 x41_3 ji24 ji25 t232 (t232.length : Int) x41_3 ((rd_T51 t232 x41_3).f0) ((rd_T51 t232 x41_3).f1))) = some r := by first | (rw [hji25] at H; exact H) | (simp only [hji25] at H ⊢; exact H)
                            have hji25_ : (if (wrap64 (x41_3 - 1)) < 0 then 0 else (wrap64 (x41_3 - 1))) = ji25 := hji25
                            have HC26 := Aside0.mk H
                            clear H
                            have p236 : 0 ≤ (x41_3 : Int) := of_decide_eq_true (by first | (with_reducible assumption) | assumption)
                            have q236 : x41_3 < (t232.length : Int) := of_decide_eq_true (by first | (with_reducible assumption) | assumption)
                            obtain ⟨ad236, e236, hx236_0, hx236_1⟩ := at_T51 (Kd.R_reads' HO_39.out).2.2 x41_3 p236 q236
                            cases e236
                            replace p236 := eq_true p236
                            replace q236 := eq_true q236
                            go_upto_if 54 with (first | ((with_reducible refine gate_dst (N := 11) rfl ?_); refine box_event ?hg (N := 11) ?hd (cs := #[.int .i64 0, .int .i64 0]) (t := 51) ?hr ?_; (case hd => rfl); (case hg => rfl); (case hr => first | (go_simp; done) | (go_simp; rfl)); intro gb237 hg w27 hbox hb; have n0_ := Aside0.mk (Kd.R_below (by (with_reducible repeat (first | apply Kd.R_alloc | apply Kd.R_drewN | apply Kd.R_drew)); exact HO_7.out) hb); have n1_ := Aside0.mk (Kd.R_below (Kd.R_elderB (by (with_reducible repeat (first | apply Kd.R_alloc | apply Kd.R_drewN | apply Kd.R_drew)); exact HO_39.out) gb237 (Nat.le_of_eq hg.symm)) hb); have n2_ := Aside0.mk (below_step (by repeat (first | (with_reducible first | exact HB.out | apply below_alloc | apply pw_below_drewN | apply below_drew1) | exact HB.out)) hb); have n3_ := Aside0.mk (hbox); have n4_ := Aside0.mk ((by rw [hg]; exact (below_size (by repeat (first | (with_reducible first | exact HB.out | apply below_alloc | apply pw_below_drewN | apply below_drew1) | exact HB.out))) : w.heap.size ≤ gb237)); have n5_ := Aside0.mk ((by rw [hg]; exact (below_size (by repeat (first | (with_reducible first | exact HB.out | apply below_alloc | apply pw_below_drewN | apply below_drew1) | exact HB.out))) : w.heap.size ≤ gb237)); clear HO_7; clear HO_39; clear HB; have HO_7 := n0_; have HO_39 := n1_; have HB := n2_; have BK237 := n3_; have GW237 := n4_; have GE237 := n5_; clear n0_ n1_ n2_ n3_ n4_ n5_; clear hb hbox hg; have hcz28_0 : w27.cell? ⟨gb237, 0, none⟩ = some (.int .i64 0) := (blk_cell BK237.out 0).trans rfl; have hcz28_1 : w27.cell? ⟨gb237, 1, none⟩ = some (.int .i64 0) := (blk_cell BK237.out 1).trans rfl; have hfz28_0 := blk_frozen BK237.out 0; have hfz28_1 := blk_frozen BK237.out 1))
                            (try simp only [Act.put, List.setIfInBounds_toArray, List.set_cons_zero, List.set_cons_succ])
                            go_cut [12, 13, 14] (fun v12 v13 v14 wc => ∃ (kq : Nat) (x12_25 : Int) (x13_25 : Int) (x14_25 : Int), v12 = .int .i64 x12_25 ∧ v13 = .int .i64 x13_25 ∧ v14 = .int .i64 x14_25 ∧ Aside0 (naskhlaw44_CaretPlain.j3 kq a1 (ji5) x6_2 x7_2 x41_3 x12_25 x13_25 x14_25 t232 (t232.length : Int) x41_3 ((rd_T51 t232 x41_3).f0) ((rd_T51 t232 x41_3).f1) = some r) ∧ Aside0 (kq ≤ k3) ∧ Aside0 (Kd.R (Kd.int .i64) 3 wc w.heap.size (fun _ => True) (.slice Ao10 x7_2.length co10) x7_2) ∧ Aside0 (Kd.R k51 51 wc w.heap.size (fun k_ => k_ ≠ gb237) (.slice (some ad236) t232.length co20) t232) ∧ Aside0 (wc.heap[gb237]? = some (.cells #[.int .i64 ((rd_T51 t232 x41_3).f0), .int .i64 ((rd_T51 t232 x41_3).f1)] 51 (0, 0))) ∧ Aside0 (Below w.heap.size w wc))
                            case first =>
                              have H := HC26.out
                              clear HC26
                              by_cases c29 : a1 = true
                              · subst c29
                                have H1 : (naskhlaw44_CaretPlain.j3 k3 true (ji5) x6_2 x7_2 x41_3 (wrap64 ((ji5) - x41_3)) ji25 ji24 t232 (t232.length : Int) x41_3 ((rd_T51 t232 x41_3).f0) ((rd_T51 t232 x41_3).f1)) = some r := by rw [if_pos rfl] at H; exact H
                                clear H
                                have H := H1
                                clear H1
                                have H' := Aside0.mk H
                                clear H
                                go_wp2
                                go_meet
                                case rel => exact ⟨_, (wrap64 ((ji5) - x41_3)), (ji25), (ji24), (by first | rfl | (simp; done) | (simp only [← hji5] <;> (first | rfl | simp)) | (simp [*]; done)), (by first | rfl | (simp; done) | (simp only [← hji25] <;> (first | rfl | simp)) | (simp [*]; done)), (by first | rfl | (simp; done) | (simp only [← hji24] <;> (first | rfl | simp)) | (simp [*]; done)), H', ⟨by have := HJ2.out; have := HK2.out; have := HK3.out; first | omega | exact Nat.le_refl _⟩, ⟨by (try simp only [hl7_2]); (with_reducible repeat (first | apply Kd.R_alloc | apply Kd.R_drewN | apply Kd.R_drew)); exact Kd.R_mono (Kd.R_far (p := ⟨gb237, 1, none⟩) (Kd.R_far (p := ⟨gb237, 0, none⟩) (Kd.R_types HO_7.out BK237.out (by decide)) (fun _ hk => hk.2) (.int .i64 ((rd_T51 t232 x41_3).f0))) (fun _ hk => hk.2) (.int .i64 ((rd_T51 t232 x41_3).f1))) (fun _ hk => trivial)⟩, ⟨by (try simp only [hl7_2]); (with_reducible repeat (first | apply Kd.R_alloc | apply Kd.R_drewN | apply Kd.R_drew)); exact Kd.R_mono (Kd.R_far (p := ⟨gb237, 1, none⟩) (Kd.R_far (p := ⟨gb237, 0, none⟩) (Kd.R_mono HO_39.out (fun k_ hk => (⟨hk, hk.2⟩ : _ ∧ k_ ≠ gb237))) (fun _ hk => hk.2) (.int .i64 ((rd_T51 t232 x41_3).f0))) (fun _ hk => hk.2) (.int .i64 ((rd_T51 t232 x41_3).f1))) (fun _ hk => hk.1.2)⟩, ⟨by (try simp only [hl7_2]); (with_reducible repeat (first | refine blk_drewN ?_ _ | refine blk_drew ?_ | refine blk_alloc ?_ _)); refine blk_put (cs := #[.int .i64 ((rd_T51 t232 x41_3).f0), .int .i64 0]) ?_ 1 _ rfl; (with_reducible repeat (first | refine blk_drewN ?_ _ | refine blk_drew ?_ | refine blk_alloc ?_ _)); refine blk_put (cs := #[.int .i64 0, .int .i64 0]) ?_ 0 _ rfl; (with_reducible repeat (first | refine blk_drewN ?_ _ | refine blk_drew ?_ | refine blk_alloc ?_ _)); exact BK237.out⟩, ⟨by repeat (first | (with_reducible first | exact HB.out | apply below_alloc | apply pw_below_drewN | apply below_drew1 | refine below_set ?_ GE237.out) | exact HB.out)⟩⟩
                              · replace c29 := Bool.eq_false_iff.mpr c29
                                subst c29
                                have H1 : (naskhlaw44_CaretPlain.j3 k3 false (ji5) x6_2 x7_2 x41_3 x41_3 ji24 ji25 t232 (t232.length : Int) x41_3 ((rd_T51 t232 x41_3).f0) ((rd_T51 t232 x41_3).f1)) = some r := by rw [if_neg (show ¬ (false = true) by decide)] at H; exact H
                                clear H
                                have H := H1
                                clear H1
                                have H' := Aside0.mk H
                                clear H
                                go_wp2
                                go_meet
                                case rel => exact ⟨_, (x41_3), (ji24), (ji25), (by first | rfl | (simp; done) | (simp [*]; done)), (by first | rfl | (simp; done) | (simp only [← hji24] <;> (first | rfl | simp)) | (simp [*]; done)), (by first | rfl | (simp; done) | (simp only [← hji25] <;> (first | rfl | simp)) | (simp [*]; done)), H', ⟨by have := HJ2.out; have := HK2.out; have := HK3.out; first | omega | exact Nat.le_refl _⟩, ⟨by (try simp only [hl7_2]); (with_reducible repeat (first | apply Kd.R_alloc | apply Kd.R_drewN | apply Kd.R_drew)); exact Kd.R_mono (Kd.R_far (p := ⟨gb237, 1, none⟩) (Kd.R_far (p := ⟨gb237, 0, none⟩) (Kd.R_types HO_7.out BK237.out (by decide)) (fun _ hk => hk.2) (.int .i64 ((rd_T51 t232 x41_3).f0))) (fun _ hk => hk.2) (.int .i64 ((rd_T51 t232 x41_3).f1))) (fun _ hk => trivial)⟩, ⟨by (try simp only [hl7_2]); (with_reducible repeat (first | apply Kd.R_alloc | apply Kd.R_drewN | apply Kd.R_drew)); exact Kd.R_mono (Kd.R_far (p := ⟨gb237, 1, none⟩) (Kd.R_far (p := ⟨gb237, 0, none⟩) (Kd.R_mono HO_39.out (fun k_ hk => (⟨hk, hk.2⟩ : _ ∧ k_ ≠ gb237))) (fun _ hk => hk.2) (.int .i64 ((rd_T51 t232 x41_3).f0))) (fun _ hk => hk.2) (.int .i64 ((rd_T51 t232 x41_3).f1))) (fun _ hk => hk.1.2)⟩, ⟨by (try simp only [hl7_2]); (with_reducible repeat (first | refine blk_drewN ?_ _ | refine blk_drew ?_ | refine blk_alloc ?_ _)); refine blk_put (cs := #[.int .i64 ((rd_T51 t232 x41_3).f0), .int .i64 0]) ?_ 1 _ rfl; (with_reducible repeat (first | refine blk_drewN ?_ _ | refine blk_drew ?_ | refine blk_alloc ?_ _)); refine blk_put (cs := #[.int .i64 0, .int .i64 0]) ?_ 0 _ rfl; (with_reducible repeat (first | refine blk_drewN ?_ _ | refine blk_drew ?_ | refine blk_alloc ?_ _)); exact BK237.out⟩, ⟨by repeat (first | (with_reducible first | exact HB.out | apply below_alloc | apply pw_below_drewN | apply below_drew1 | refine below_set ?_ GE237.out) | exact HB.out)⟩⟩
                            case rest =>
                              clear HC26
                              try clear c1
                              try clear p1
                              try clear q1
                              try clear hx1
                              try clear c2
                              try clear p2
                              try clear q2
                              try clear hx2
                              try clear c3
                              try clear c4
                              try clear c6
                              try clear c6b0
                              try clear c6b1
                              try clear p6
                              try clear c7
                              try clear c7b0
                              try clear c7b1
                              try clear c9
                              try clear c11
                              try clear c11b0
                              try clear c12
                              try clear c12b0
                              try clear c13
                              try clear c13b0
                              try clear p14
                              try clear q14
                              try clear hx14
                              try clear hf14
                              try clear c18
                              try clear c18b0
                              try clear c18b1
                              try clear c21
                              try clear c21b0
                              try clear c22
                              try clear c22b0
                              try clear c23
                              try clear c23b0
                              try clear p23
                              try clear q23
                              try clear hx23
                              try clear c29
                              try clear c30
                              try clear c30b0
                              try clear c31
                              try clear c31b0
                              try clear hcz28_0
                              try clear hcz28_1
                              try clear hfz28_0
                              try clear hfz28_1
                              try clear hx14_0
                              try clear hx236_0
                              try clear hx236_1
                              try clear p1
                              try clear p14
                              try clear p2
                              try clear p236
                              try clear p6
                              try clear q1
                              try clear q14
                              try clear q236
                              obtain ⟨kq, x12_25, x13_25, x14_25, rfl, rfl, rfl, HA, HJ25, HO_7, HO_39, BK237, HB⟩ := hcut
                              cases kq with
                              | zero => exact absurd HA.out (by simp [naskhlaw44_CaretPlain.j3])
                              | succ kj25 =>
                                have H := HA.out
                                clear HA
                                simp only [naskhlaw44_CaretPlain.j3] at H
                                by_cases c32 : ((rd_T51 t232 x41_3).f0) = x12_25
                                · rw [if_pos c32] at H
                                  have c32b0 : (((rd_T51 t232 x41_3).f0) == x12_25) = true := beq_iff_eq.mpr c32
                                  have c32b1 : (((rd_T51 t232 x41_3).f0) != x12_25) = false := bne_eq_false_iff_eq.mpr c32
                                  clear c32
                                  by_cases c33 : ((rd_T51 t232 x41_3).f1) = x12_25
                                  · rw [if_pos c33] at H
                                    have c33b0 : (((rd_T51 t232 x41_3).f1) == x12_25) = true := beq_iff_eq.mpr c33
                                    have c33b1 : (((rd_T51 t232 x41_3).f1) != x12_25) = false := bne_eq_false_iff_eq.mpr c33
                                    clear c33
                                    replace H := Option.bind_eq_some_iff.mp H
                                    obtain ⟨t238, A340, H⟩ := H
                                    replace H : (if t238 = x13_25 then ((caret_Left.f kj25 x7_2 x6_2 x41_3).bind fun t239 => (if t239 = x14_25 then (naskhlaw44_CaretPlain.l1 kj25 a1 (ji5) x6_2 x7_2 t232 (t232.length : Int) (wrap64 (x41_3 + 1))) else (some false))) else (some false)) = some r := H
                                    have A34 := Aside0.mk A340
                                    clear A340
                                    by_cases c35 : t238 = x13_25
                                    · rw [if_pos c35] at H
                                      have c35b0 : (t238 == x13_25) = true := beq_iff_eq.mpr c35
                                      have c35b1 : (t238 != x13_25) = false := bne_eq_false_iff_eq.mpr c35
                                      clear c35
                                      replace H := Option.bind_eq_some_iff.mp H
                                      obtain ⟨t239, A360, H⟩ := H
                                      replace H : (if t239 = x14_25 then (naskhlaw44_CaretPlain.l1 kj25 a1 (ji5) x6_2 x7_2 t232 (t232.length : Int) (wrap64 (x41_3 + 1))) else (some false)) = some r := H
                                      have A36 := Aside0.mk A360
                                      clear A360
                                      by_cases c37 : t239 = x14_25
                                      · rw [if_pos c37] at H
                                        have c37b0 : (t239 == x14_25) = true := beq_iff_eq.mpr c37
                                        have c37b1 : (t239 != x14_25) = false := bne_eq_false_iff_eq.mpr c37
                                        clear c37
                                        have H' := Aside0.mk H
                                        clear H
                                        have hcz38_0 : wc.cell? ⟨gb237, 0, none⟩ = some (.int .i64 ((rd_T51 t232 x41_3).f0)) := (blk_cell BK237.out 0).trans rfl
                                        have hcz38_1 : wc.cell? ⟨gb237, 1, none⟩ = some (.int .i64 ((rd_T51 t232 x41_3).f1)) := (blk_cell BK237.out 1).trans rfl
                                        have hfz38_0 := blk_frozen BK237.out 0
                                        have hfz38_1 := blk_frozen BK237.out 1
                                        go_wp2_with (first | (go_at_call 37; (with_reducible refine (caret_Right.calls kj25 _ _ x7_2 x6_2 x41_3 t238 _ ?side1 ?side2 A34.out).mono ?_); (case side1 => repeat (first | exact (Kd.R_reads' HO_7.out).2.2 | (with_reducible refine Kd.C_alloc ?_ _) | (with_reducible refine Kd.C_drewN ?_ _) | (with_reducible refine Kd.C_drew ?_))); (case side2 => exact (Kd.R_reads' HO_7.out).2.1); rintro e w39 ⟨rfl, hb⟩; have n0_ := Aside0.mk (Kd.R_below (by (with_reducible repeat (first | apply Kd.R_alloc | apply Kd.R_drewN | apply Kd.R_drew)); exact HO_7.out) hb); have n1_ := Aside0.mk (Kd.R_below (by (with_reducible repeat (first | apply Kd.R_alloc | apply Kd.R_drewN | apply Kd.R_drew)); exact HO_39.out) hb); have n2_ := Aside0.mk (blk_below (g := gb237) (o := .cells #[.int .i64 ((rd_T51 t232 x41_3).f0), .int .i64 ((rd_T51 t232 x41_3).f1)] 51 (0, 0)) (by (with_reducible repeat (first | refine blk_drewN ?_ _ | refine blk_drew ?_ | refine blk_alloc ?_ _)); exact BK237.out) hb); have n3_ := Aside0.mk (below_step (by repeat (first | (with_reducible first | exact HB.out | apply below_alloc | apply pw_below_drewN | apply below_drew1 | refine below_set ?_ GE237.out) | exact HB.out)) hb); clear HO_7; clear HO_39; clear BK237; clear HB; have HO_7 := n0_; have HO_39 := n1_; have BK237 := n2_; have HB := n3_; clear n0_ n1_ n2_ n3_; (try clear hb); (try clear hb2); (try clear hk); (try clear hi)) | (go_at_call 35; (with_reducible refine (caret_Left.calls kj25 _ _ x7_2 x6_2 x41_3 t239 _ ?side1 ?side2 A36.out).mono ?_); (case side1 => repeat (first | exact (Kd.R_reads' HO_7.out).2.2 | (with_reducible refine Kd.C_alloc ?_ _) | (with_reducible refine Kd.C_drewN ?_ _) | (with_reducible refine Kd.C_drew ?_))); (case side2 => exact (Kd.R_reads' HO_7.out).2.1); rintro e w40 ⟨rfl, hb⟩; have n0_ := Aside0.mk (Kd.R_below (by (with_reducible repeat (first | apply Kd.R_alloc | apply Kd.R_drewN | apply Kd.R_drew)); exact HO_7.out) hb); have n1_ := Aside0.mk (Kd.R_below (by (with_reducible repeat (first | apply Kd.R_alloc | apply Kd.R_drewN | apply Kd.R_drew)); exact HO_39.out) hb); have n2_ := Aside0.mk (blk_below (g := gb237) (o := .cells #[.int .i64 ((rd_T51 t232 x41_3).f0), .int .i64 ((rd_T51 t232 x41_3).f1)] 51 (0, 0)) (by (with_reducible repeat (first | refine blk_drewN ?_ _ | refine blk_drew ?_ | refine blk_alloc ?_ _)); exact BK237.out) hb); have n3_ := Aside0.mk (below_step (by repeat (first | (with_reducible first | exact HB.out | apply below_alloc | apply pw_below_drewN | apply below_drew1 | refine below_set ?_ GE237.out) | exact HB.out)) hb); clear HO_7; clear HO_39; clear BK237; clear HB; have HO_7 := n0_; have HO_39 := n1_; have BK237 := n2_; have HB := n3_; clear n0_ n1_ n2_ n3_; (try clear hb); (try clear hb2); (try clear hk); (try clear hi)))
                                        go_roundg kj25
                                        case measure => have := HJ2.out; have := HK2.out; have := HK3.out; have := HJ25.out; omega
                                        case rel => exact ⟨(wrap64 (x41_3 + 1)), (by first | rfl | (simp; done) | (simp [*]; done)), H', ⟨by have := HJ2.out; have := HK2.out; have := HK3.out; have := HJ25.out; omega⟩, ⟨by (try simp only [hl7_2]); (with_reducible repeat (first | apply Kd.R_alloc | apply Kd.R_drewN | apply Kd.R_drew)); exact HO_7.out⟩, ⟨by (try simp only [hl7_2]); (with_reducible repeat (first | apply Kd.R_alloc | apply Kd.R_drewN | apply Kd.R_drew)); exact Kd.R_mono HO_39.out (fun _ hk => trivial)⟩, ⟨by repeat (first | (with_reducible first | exact HB.out | apply below_alloc | apply pw_below_drewN | apply below_drew1 | refine below_set ?_ GE237.out) | exact HB.out)⟩⟩
                                      · rw [if_neg c37] at H
                                        have c37b0 : (t239 == x14_25) = false := beq_eq_false_iff_ne.mpr c37
                                        have c37b1 : (t239 != x14_25) = true := bne_iff_ne.mpr c37
                                        obtain rfl := Option.some.inj H
                                        have hcz41_0 : wc.cell? ⟨gb237, 0, none⟩ = some (.int .i64 ((rd_T51 t232 x41_3).f0)) := (blk_cell BK237.out 0).trans rfl
                                        have hcz41_1 : wc.cell? ⟨gb237, 1, none⟩ = some (.int .i64 ((rd_T51 t232 x41_3).f1)) := (blk_cell BK237.out 1).trans rfl
                                        have hfz41_0 := blk_frozen BK237.out 0
                                        have hfz41_1 := blk_frozen BK237.out 1
                                        go_wp2_with (first | (go_at_call 37; (with_reducible refine (caret_Right.calls kj25 _ _ x7_2 x6_2 x41_3 t238 _ ?side1 ?side2 A34.out).mono ?_); (case side1 => repeat (first | exact (Kd.R_reads' HO_7.out).2.2 | (with_reducible refine Kd.C_alloc ?_ _) | (with_reducible refine Kd.C_drewN ?_ _) | (with_reducible refine Kd.C_drew ?_))); (case side2 => exact (Kd.R_reads' HO_7.out).2.1); rintro e w42 ⟨rfl, hb⟩; have n0_ := Aside0.mk (Kd.R_below (by (with_reducible repeat (first | apply Kd.R_alloc | apply Kd.R_drewN | apply Kd.R_drew)); exact HO_7.out) hb); have n1_ := Aside0.mk (Kd.R_below (by (with_reducible repeat (first | apply Kd.R_alloc | apply Kd.R_drewN | apply Kd.R_drew)); exact HO_39.out) hb); have n2_ := Aside0.mk (blk_below (g := gb237) (o := .cells #[.int .i64 ((rd_T51 t232 x41_3).f0), .int .i64 ((rd_T51 t232 x41_3).f1)] 51 (0, 0)) (by (with_reducible repeat (first | refine blk_drewN ?_ _ | refine blk_drew ?_ | refine blk_alloc ?_ _)); exact BK237.out) hb); have n3_ := Aside0.mk (below_step (by repeat (first | (with_reducible first | exact HB.out | apply below_alloc | apply pw_below_drewN | apply below_drew1 | refine below_set ?_ GE237.out) | exact HB.out)) hb); clear HO_7; clear HO_39; clear BK237; clear HB; have HO_7 := n0_; have HO_39 := n1_; have BK237 := n2_; have HB := n3_; clear n0_ n1_ n2_ n3_; (try clear hb); (try clear hb2); (try clear hk); (try clear hi)) | (go_at_call 35; (with_reducible refine (caret_Left.calls kj25 _ _ x7_2 x6_2 x41_3 t239 _ ?side1 ?side2 A36.out).mono ?_); (case side1 => repeat (first | exact (Kd.R_reads' HO_7.out).2.2 | (with_reducible refine Kd.C_alloc ?_ _) | (with_reducible refine Kd.C_drewN ?_ _) | (with_reducible refine Kd.C_drew ?_))); (case side2 => exact (Kd.R_reads' HO_7.out).2.1); rintro e w43 ⟨rfl, hb⟩; have n0_ := Aside0.mk (Kd.R_below (by (with_reducible repeat (first | apply Kd.R_alloc | apply Kd.R_drewN | apply Kd.R_drew)); exact HO_7.out) hb); have n1_ := Aside0.mk (Kd.R_below (by (with_reducible repeat (first | apply Kd.R_alloc | apply Kd.R_drewN | apply Kd.R_drew)); exact HO_39.out) hb); have n2_ := Aside0.mk (blk_below (g := gb237) (o := .cells #[.int .i64 ((rd_T51 t232 x41_3).f0), .int .i64 ((rd_T51 t232 x41_3).f1)] 51 (0, 0)) (by (with_reducible repeat (first | refine blk_drewN ?_ _ | refine blk_drew ?_ | refine blk_alloc ?_ _)); exact BK237.out) hb); have n3_ := Aside0.mk (below_step (by repeat (first | (with_reducible first | exact HB.out | apply below_alloc | apply pw_below_drewN | apply below_drew1 | refine below_set ?_ GE237.out) | exact HB.out)) hb); clear HO_7; clear HO_39; clear BK237; clear HB; have HO_7 := n0_; have HO_39 := n1_; have BK237 := n2_; have HB := n3_; clear n0_ n1_ n2_ n3_; (try clear hb); (try clear hb2); (try clear hk); (try clear hi)))
                                        go_ret
                                        exact ⟨by first | rfl | (simp [errW_none, errW_some] <;> rfl) | (simp only [← hji5, ← hji24, ← hji25]; first | rfl | (simp [errW_none, errW_some] <;> rfl)) | (simp [*, errW_none, errW_some] <;> rfl), by repeat (first | (with_reducible first | exact HB.out | apply below_alloc | apply pw_below_drewN | apply below_drew1 | refine below_set ?_ GE237.out) | exact HB.out)⟩
                                    · rw [if_neg c35] at H
                                      have c35b0 : (t238 == x13_25) = false := beq_eq_false_iff_ne.mpr c35
                                      have c35b1 : (t238 != x13_25) = true := bne_iff_ne.mpr c35
                                      obtain rfl := Option.some.inj H
                                      have hcz44_0 : wc.cell? ⟨gb237, 0, none⟩ = some (.int .i64 ((rd_T51 t232 x41_3).f0)) := (blk_cell BK237.out 0).trans rfl
                                      have hcz44_1 : wc.cell? ⟨gb237, 1, none⟩ = some (.int .i64 ((rd_T51 t232 x41_3).f1)) := (blk_cell BK237.out 1).trans rfl
                                      have hfz44_0 := blk_frozen BK237.out 0
                                      have hfz44_1 := blk_frozen BK237.out 1
                                      go_wp2_with (first | (go_at_call 37; (with_reducible refine (caret_Right.calls kj25 _ _ x7_2 x6_2 x41_3 t238 _ ?side1 ?side2 A34.out).mono ?_); (case side1 => repeat (first | exact (Kd.R_reads' HO_7.out).2.2 | (with_reducible refine Kd.C_alloc ?_ _) | (with_reducible refine Kd.C_drewN ?_ _) | (with_reducible refine Kd.C_drew ?_))); (case side2 => exact (Kd.R_reads' HO_7.out).2.1); rintro e w45 ⟨rfl, hb⟩; have n0_ := Aside0.mk (Kd.R_below (by (with_reducible repeat (first | apply Kd.R_alloc | apply Kd.R_drewN | apply Kd.R_drew)); exact HO_7.out) hb); have n1_ := Aside0.mk (Kd.R_below (by (with_reducible repeat (first | apply Kd.R_alloc | apply Kd.R_drewN | apply Kd.R_drew)); exact HO_39.out) hb); have n2_ := Aside0.mk (blk_below (g := gb237) (o := .cells #[.int .i64 ((rd_T51 t232 x41_3).f0), .int .i64 ((rd_T51 t232 x41_3).f1)] 51 (0, 0)) (by (with_reducible repeat (first | refine blk_drewN ?_ _ | refine blk_drew ?_ | refine blk_alloc ?_ _)); exact BK237.out) hb); have n3_ := Aside0.mk (below_step (by repeat (first | (with_reducible first | exact HB.out | apply below_alloc | apply pw_below_drewN | apply below_drew1 | refine below_set ?_ GE237.out) | exact HB.out)) hb); clear HO_7; clear HO_39; clear BK237; clear HB; have HO_7 := n0_; have HO_39 := n1_; have BK237 := n2_; have HB := n3_; clear n0_ n1_ n2_ n3_; (try clear hb); (try clear hb2); (try clear hk); (try clear hi)))
                                      go_ret
                                      exact ⟨by first | rfl | (simp [errW_none, errW_some] <;> rfl) | (simp only [← hji5, ← hji24, ← hji25]; first | rfl | (simp [errW_none, errW_some] <;> rfl)) | (simp [*, errW_none, errW_some] <;> rfl), by repeat (first | (with_reducible first | exact HB.out | apply below_alloc | apply pw_below_drewN | apply below_drew1 | refine below_set ?_ GE237.out) | exact HB.out)⟩
                                  · rw [if_neg c33] at H
                                    have c33b0 : (((rd_T51 t232 x41_3).f1) == x12_25) = false := beq_eq_false_iff_ne.mpr c33
                                    have c33b1 : (((rd_T51 t232 x41_3).f1) != x12_25) = true := bne_iff_ne.mpr c33
                                    obtain rfl := Option.some.inj H
                                    have hcz46_0 : wc.cell? ⟨gb237, 0, none⟩ = some (.int .i64 ((rd_T51 t232 x41_3).f0)) := (blk_cell BK237.out 0).trans rfl
                                    have hcz46_1 : wc.cell? ⟨gb237, 1, none⟩ = some (.int .i64 ((rd_T51 t232 x41_3).f1)) := (blk_cell BK237.out 1).trans rfl
                                    have hfz46_0 := blk_frozen BK237.out 0
                                    have hfz46_1 := blk_frozen BK237.out 1
                                    go_wp2
                                    go_ret
                                    exact ⟨by first | rfl | (simp [errW_none, errW_some] <;> rfl) | (simp only [← hji5, ← hji24, ← hji25]; first | rfl | (simp [errW_none, errW_some] <;> rfl)) | (simp [*, errW_none, errW_some] <;> rfl), by repeat (first | (with_reducible first | exact HB.out | apply below_alloc | apply pw_below_drewN | apply below_drew1 | refine below_set ?_ GE237.out) | exact HB.out)⟩
                                · rw [if_neg c32] at H
                                  have c32b0 : (((rd_T51 t232 x41_3).f0) == x12_25) = false := beq_eq_false_iff_ne.mpr c32
                                  have c32b1 : (((rd_T51 t232 x41_3).f0) != x12_25) = true := bne_iff_ne.mpr c32
                                  obtain rfl := Option.some.inj H
                                  have hcz47_0 : wc.cell? ⟨gb237, 0, none⟩ = some (.int .i64 ((rd_T51 t232 x41_3).f0)) := (blk_cell BK237.out 0).trans rfl
                                  have hcz47_1 : wc.cell? ⟨gb237, 1, none⟩ = some (.int .i64 ((rd_T51 t232 x41_3).f1)) := (blk_cell BK237.out 1).trans rfl
                                  have hfz47_0 := blk_frozen BK237.out 0
                                  have hfz47_1 := blk_frozen BK237.out 1
                                  go_wp2
                                  go_ret
                                  exact ⟨by first | rfl | (simp [errW_none, errW_some] <;> rfl) | (simp only [← hji5, ← hji24, ← hji25]; first | rfl | (simp [errW_none, errW_some] <;> rfl)) | (simp [*, errW_none, errW_some] <;> rfl), by repeat (first | (with_reducible first | exact HB.out | apply below_alloc | apply pw_below_drewN | apply below_drew1 | refine below_set ?_ GE237.out) | exact HB.out)⟩
                          · rw [if_neg c23] at H
                            exact absurd H (by simp)
                        · rw [if_neg c22] at H
                          exact absurd H (by simp)
                      · rw [if_neg c21] at H
                        have c21b0 : decide (x41_3 < (t232.length : Int)) = false := decide_eq_false c21
                        have c21_hl7_2 := c21b0; (try rw [hl7_2] at c21_hl7_2)
                        clear c21
                        replace H := Option.bind_eq_some_iff.mp H
                        obtain ⟨t235, A480, H⟩ := H
                        replace H : (some t235) = some r := H
                        have A48 := Aside0.mk A480
                        clear A480
                        obtain rfl := Option.some.inj H
                        go_wp2_with (first | ((with_reducible refine gate_callee (f := 30) rfl ?_); refine goesL_ (some 92) rfl rfl Try.func30 (by kernel_rfl) rfl #[] rfl (by (try simp only [List.map_toArray, List.map_cons, List.map_nil]); first | done | rfl | (simp only [List.length_drop, List.length_take]; rfl)) ?_; (with_reducible refine (naskhlaw44_awake.calls k3  t235 _ A48.out).mono ?_); rintro e w49 ⟨rfl, hb⟩; refine ⟨_, rfl, ?_⟩; have n0_ := Aside0.mk (Kd.R_below (by (with_reducible repeat (first | apply Kd.R_alloc | apply Kd.R_drewN | apply Kd.R_drew)); exact HO_7.out) hb); have n1_ := Aside0.mk (Kd.R_below (by (with_reducible repeat (first | apply Kd.R_alloc | apply Kd.R_drewN | apply Kd.R_drew)); exact HO_39.out) hb); have n2_ := Aside0.mk (below_step (by repeat (first | (with_reducible first | exact HB.out | apply below_alloc | apply pw_below_drewN | apply below_drew1) | exact HB.out)) hb); clear HO_7; clear HO_39; clear HB; have HO_7 := n0_; have HO_39 := n1_; have HB := n2_; clear n0_ n1_ n2_; (try clear hb); (try clear hb2); (try clear hk); (try clear hi)))
                        go_ret
                        exact ⟨by first | rfl | (simp [errW_none, errW_some] <;> rfl) | (simp only [← hji5]; first | rfl | (simp [errW_none, errW_some] <;> rfl)) | (simp [*, errW_none, errW_some] <;> rfl), by repeat (first | (with_reducible first | exact HB.out | apply below_alloc | apply pw_below_drewN | apply below_drew1) | exact HB.out)⟩
                · rw [if_neg c18] at H
                  have c18b0 : ((t232.length : Int) == (wrap64 ((ji5) + 1))) = false := beq_eq_false_iff_ne.mpr c18
                  have c18b1 : ((t232.length : Int) != (wrap64 ((ji5) + 1))) = true := bne_iff_ne.mpr c18
                  obtain rfl := Option.some.inj H
                  go_wp2_with (first | ((with_reducible refine gate_callee (f := 31) rfl ?_); refine goesL_ (some 33) rfl rfl Try.func31 (by kernel_rfl) rfl #[.slice Ao10 x7_2.length co10, .int .i64 x6_2] rfl (by (try simp only [List.map_toArray, List.map_cons, List.map_nil]); first | done | rfl | (simp only [List.length_drop, List.length_take]; rfl)) ?_; (with_reducible refine (caret_Stops.calls k2 _ _ x7_2 x6_2 t232 _ ?side1 ?side2 A17.out).mono ?_); (case side1 => repeat (first | exact (Kd.R_reads' HO_7.out).2.2 | (with_reducible refine Kd.C_alloc ?_ _) | (with_reducible refine Kd.C_drewN ?_ _) | (with_reducible refine Kd.C_drew ?_))); (case side2 => exact (Kd.R_reads' HO_7.out).2.1); rintro e w50 ⟨v233, rfl, ho0, hb⟩; refine ⟨_, rfl, ?_⟩; have n0_ := Aside0.mk (Kd.R_below (by (with_reducible repeat (first | apply Kd.R_alloc | apply Kd.R_drewN | apply Kd.R_drew)); exact HO_7.out) hb); have n1_ := Aside0.mk (Kd.R_lower ho0 (below_size (by repeat (first | (with_reducible first | exact HB.out | apply below_alloc | apply pw_below_drewN | apply below_drew1) | exact HB.out)))); have n2_ := Aside0.mk (below_step (by repeat (first | (with_reducible first | exact HB.out | apply below_alloc | apply pw_below_drewN | apply below_drew1) | exact HB.out)) hb); clear HO_7; clear HB; have HO_7 := n0_; have HO234 := n1_; have HB := n2_; clear n0_ n1_ n2_; (try clear hb); (try clear hb2); (try clear hk); (try clear hi); (try clear ho0); obtain ⟨Ao51, co51, eo51⟩ := Kd.R_slice HO234.out; subst eo51))
                  go_ret
                  exact ⟨by first | rfl | (simp [errW_none, errW_some] <;> rfl) | (simp only [← hji5]; first | rfl | (simp [errW_none, errW_some] <;> rfl)) | (simp [*, errW_none, errW_some] <;> rfl), by repeat (first | (with_reducible first | exact HB.out | apply below_alloc | apply pw_below_drewN | apply below_drew1) | exact HB.out)⟩
        · rw [if_neg c7] at H
          exact absurd H (by simp)
      · rw [if_neg c6] at H
        exact absurd H (by simp)

/-- THE ONE PURE STATEMENT of naskhlaw44_CaretPlain: yours. -/
def naskhlaw44_CaretPlain.Pure : Prop := ∀ (a0 : Int) (a1 : Bool), (Lit.int .u8 a0).wf = true → ∃ k, naskhlaw44_CaretPlain.f k a0 a1 = some true
theorem naskhlaw44_CaretPlain.walk (P : naskhlaw44_CaretPlain.Pure) (a0 : Int) (a1 : Bool) (w : World) (w0 : (Lit.int .u8 a0).wf = true) :
    Calls Try.prog 9 #[.int .u8 a0, .bool a1] w fun e w' => e = .returned (.bool true) ∧ Below w.heap.size w w' := by
  obtain ⟨k, h⟩ := P a0 a1 w0
  refine (naskhlaw44_CaretPlain.calls k a0 a1 true w h).mono ?_
  rintro e w' ⟨rfl, hd⟩
  exact ⟨rfl, hd⟩

end Go.Proofs.Ytmkgihmchkphaaa.PCaretPlain
