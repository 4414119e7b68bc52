import Derived.Test.YtbkdaafphcfpdaaPSeqOncex0
import Derived.Test.YtbkdaafphcfpdaaPSeqOncex3
import Derived.Test.YtbkdaafphcfpdaaPSeqOncex5
namespace Go.Proofs.Ytbkdaafphcfpdaa.PSeqOnce
open Go.RowKit Go.Proofs.YtbkdaafphcfpdaaM Go.Proofs.YtbkdaafphcfpdaaW.PrintWords Go.Proofs.YtbkdaafphcfpdaaW.PrintLast Go.Proofs.YtbkdaafphcfpdaaW.PrintMore
attribute [local go_sem] max2_int min2_int max_two min_two max_three min_three max_four min_four   -- for this text's walks alone
set_option linter.unusedVariables false
set_option linter.unusedSimpArgs false
mutual
def naskhlaw23_SeqOnce.j0 : Nat → List Int → Int → List Int → List Int → List Int → Bool → Option (Bool)
  | 0, _, _, _, _, _, _ => none
  | k + 1, x0, x5, x6, x7, x8, x43 => if x43 = true then (some false) else ((seq_Sequences.f k x6 x7 x0 x5).bind fun t222 => (naskhlaw23_SeqOnce.l0 k x6 x7 x8 t222 (t222.length : Int) 0))
def naskhlaw23_SeqOnce.l0 : Nat → List Int → List Int → List Int → List (S42) → Int → Int → Option (Bool)
  | 0, _, _, _, _, _, _ => none
  | k + 1, x6, x7, x8, x48, x49, x50 => if x50 < x49 then (if 0 ≤ x50 then (if x50 < (x48.length : Int) then (naskhlaw23_SeqOnce.l1 k x6 x7 x8 x48 x49 x50 ((rd_T42 x48 x50).f0) (((rd_T42 x48 x50).f0).length : Int) 0 ((rd_T42 x48 x50).f0) ((rd_T42 x48 x50).f1) ((rd_T42 x48 x50).f2) ((rd_T42 x48 x50).f3)) else (none)) else (none)) else (naskhlaw23_SeqOnce.l2 k x7 x8 (x8.length : Int) 0)
def naskhlaw23_SeqOnce.l1 : Nat → List Int → List Int → List Int → List (S42) → Int → Int → List Int → Int → Int → List Int → Int → Int → Int → Option (Bool)
  | 0, _, _, _, _, _, _, _, _, _, _, _, _, _ => none
  | k + 1, x6, x7, x8, x48, x49, x50, x55, x56, x57, x227000, x227001, x227002, x227003 => if x57 < x56 then (if 0 ≤ x57 then (if x57 < (x55.length : Int) then (if (rd x55 x57) < 0 then (some false) else (if (rd x55 x57) ≥ (x8.length : Int) then (some false) else (if 0 ≤ (rd x55 x57) then (if (rd x55 x57) < (x6.length : Int) then (if (rd x6 (rd x55 x57)) = x227001 then (if (rd x55 x57) < (x8.length : Int) then (naskhlaw23_SeqOnce.l1 k x6 x7 (x8.set ((rd x55 x57) : Int).toNat (wrap64 ((rd x8 (rd x55 x57)) + 1))) x48 x49 x50 x55 x56 (wrap64 (x57 + 1)) x227000 x227001 x227002 x227003) else (none)) else (some false)) else (none)) else (none)))) else (none)) else (none)) else (naskhlaw23_SeqOnce.l0 k x6 x7 x8 x48 x49 (wrap64 (x50 + 1)))
def naskhlaw23_SeqOnce.l2 : Nat → List Int → List Int → Int → Int → Option (Bool)
  | 0, _, _, _, _ => none
  | k + 1, x7, x86, x87, x88 => if x88 < x87 then (if 0 ≤ x88 then (if x88 < (x86.length : Int) then (if x88 < (x7.length : Int) then ((naskhref22_Left.f (rd x7 x88)).bind fun t234 => (if t234 = true then (if (rd x86 x88) = 0 then (naskhlaw23_SeqOnce.l2 k x7 x86 x87 (wrap64 (x88 + 1))) else (some false)) else (if (rd x86 x88) = 1 then (naskhlaw23_SeqOnce.l2 k x7 x86 x87 (wrap64 (x88 + 1))) else (some false)))) else (none)) else (none)) else (none)) else ((naskhlaw23_awake.f k).bind fun t231 => (some t231))
end
def naskhlaw23_SeqOnce.f (k : Nat) (l0 : List Int) (a1 : Int) : Option (Bool) := if (l0.length : Int) > 200 then ((naskhlaw23_awake.f k).bind fun t212 => (some t212)) else ((explicit_Levels.f k l0 (mn (mx a1 0) 1)).bind fun bt213 => (if 0 ≤ (l0.length : Int) then (if ((l0.length : Int) : Int).toNat ≤ 35184372088832 then ((some (List.replicate ((l0.length : Int) : Int).toNat 0 : List Int)).bind fun y219 => (if (bt213.1.length : Int) = (l0.length : Int) then (naskhlaw23_SeqOnce.j0 k l0 (mn (mx a1 0) 1) bt213.1 bt213.2 y219 ((bt213.2.length : Int) != (l0.length : Int))) else (naskhlaw23_SeqOnce.j0 k l0 (mn (mx a1 0) 1) bt213.1 bt213.2 y219 true))) else (none)) else (none)))
theorem naskhlaw23_SeqOnce.mono_l : ∀ k, (∀ y0 y1 y2 y3 y4 y5, LeO (naskhlaw23_SeqOnce.j0 k y0 y1 y2 y3 y4 y5) (naskhlaw23_SeqOnce.j0 (k + 1) y0 y1 y2 y3 y4 y5)) ∧ (∀ y0 y1 y2 y3 y4 y5, LeO (naskhlaw23_SeqOnce.l0 k y0 y1 y2 y3 y4 y5) (naskhlaw23_SeqOnce.l0 (k + 1) y0 y1 y2 y3 y4 y5)) ∧ (∀ y0 y1 y2 y3 y4 y5 y6 y7 y8 y9 y10 y11 y12, LeO (naskhlaw23_SeqOnce.l1 k y0 y1 y2 y3 y4 y5 y6 y7 y8 y9 y10 y11 y12) (naskhlaw23_SeqOnce.l1 (k + 1) y0 y1 y2 y3 y4 y5 y6 y7 y8 y9 y10 y11 y12)) ∧ (∀ y0 y1 y2 y3, LeO (naskhlaw23_SeqOnce.l2 k y0 y1 y2 y3) (naskhlaw23_SeqOnce.l2 (k + 1) y0 y1 y2 y3))
  | 0 => ⟨fun _ _ _ _ _ _ r h => by simp [naskhlaw23_SeqOnce.j0] at h, fun _ _ _ _ _ _ r h => by simp [naskhlaw23_SeqOnce.l0] at h, fun _ _ _ _ _ _ _ _ _ _ _ _ _ r h => by simp [naskhlaw23_SeqOnce.l1] at h, fun _ _ _ _ r h => by simp [naskhlaw23_SeqOnce.l2] at h⟩
  | k + 1 => by
    obtain ⟨ih0, ih1, ih2, ih3⟩ := naskhlaw23_SeqOnce.mono_l k
    refine ⟨?_, ?_, ?_, ?_⟩
    · intro y0 y1 y2 y3 y4 y5
      unfold naskhlaw23_SeqOnce.j0
      repeat' first
      | (with_reducible exact ih0 _ _ _ _ _ _)
      | (with_reducible exact ih1 _ _ _ _ _ _)
      | (with_reducible exact ih2 _ _ _ _ _ _ _ _ _ _ _ _ _)
      | (with_reducible exact ih3 _ _ _ _)
      | (with_reducible exact explicit_Levels.mono _ _ _)
      | (with_reducible exact naskhlaw23_awake.mono _)
      | (with_reducible exact seq_Sequences.mono _ _ _ _ _)
      | (with_reducible exact LeO.refl _)
      | (with_reducible exact LeO.none _)
      | (with_reducible refine LeO.ite ?_ ?_)
      | (with_reducible refine LeO.bind ?_ (fun _ => ?_))
      | exact ih0 _ _ _ _ _ _
      | exact ih1 _ _ _ _ _ _
      | exact ih2 _ _ _ _ _ _ _ _ _ _ _ _ _
      | exact ih3 _ _ _ _
      | exact explicit_Levels.mono _ _ _
      | exact naskhlaw23_awake.mono _
      | exact seq_Sequences.mono _ _ _ _ _
      | exact LeO.none _
      | refine LeO.ite ?_ ?_
      | refine LeO.bind ?_ (fun _ => ?_)
    · intro y0 y1 y2 y3 y4 y5
      unfold naskhlaw23_SeqOnce.l0
      repeat' first
      | (with_reducible exact ih0 _ _ _ _ _ _)
      | (with_reducible exact ih1 _ _ _ _ _ _)
      | (with_reducible exact ih2 _ _ _ _ _ _ _ _ _ _ _ _ _)
      | (with_reducible exact ih3 _ _ _ _)
      | (with_reducible exact explicit_Levels.mono _ _ _)
      | (with_reducible exact naskhlaw23_awake.mono _)
      | (with_reducible exact seq_Sequences.mono _ _ _ _ _)
      | (with_reducible exact LeO.refl _)
      | (with_reducible exact LeO.none _)
      | (with_reducible refine LeO.ite ?_ ?_)
      | (with_reducible refine LeO.bind ?_ (fun _ => ?_))
      | exact ih0 _ _ _ _ _ _
      | exact ih1 _ _ _ _ _ _
      | exact ih2 _ _ _ _ _ _ _ _ _ _ _ _ _
      | exact ih3 _ _ _ _
      | exact explicit_Levels.mono _ _ _
      | exact naskhlaw23_awake.mono _
      | exact seq_Sequences.mono _ _ _ _ _
      | exact LeO.none _
      | refine LeO.ite ?_ ?_
      | refine LeO.bind ?_ (fun _ => ?_)
    · intro y0 y1 y2 y3 y4 y5 y6 y7 y8 y9 y10 y11 y12
      unfold naskhlaw23_SeqOnce.l1
      repeat' first
      | (with_reducible exact ih0 _ _ _ _ _ _)
      | (with_reducible exact ih1 _ _ _ _ _ _)
      | (with_reducible exact ih2 _ _ _ _ _ _ _ _ _ _ _ _ _)
      | (with_reducible exact ih3 _ _ _ _)
      | (with_reducible exact explicit_Levels.mono _ _ _)
      | (with_reducible exact naskhlaw23_awake.mono _)
      | (with_reducible exact seq_Sequences.mono _ _ _ _ _)
      | (with_reducible exact LeO.refl _)
      | (with_reducible exact LeO.none _)
      | (with_reducible refine LeO.ite ?_ ?_)
      | (with_reducible refine LeO.bind ?_ (fun _ => ?_))
      | exact ih0 _ _ _ _ _ _
      | exact ih1 _ _ _ _ _ _
      | exact ih2 _ _ _ _ _ _ _ _ _ _ _ _ _
      | exact ih3 _ _ _ _
      | exact explicit_Levels.mono _ _ _
      | exact naskhlaw23_awake.mono _
      | exact seq_Sequences.mono _ _ _ _ _
      | exact LeO.none _
      | refine LeO.ite ?_ ?_
      | refine LeO.bind ?_ (fun _ => ?_)
    · intro y0 y1 y2 y3
      unfold naskhlaw23_SeqOnce.l2
      repeat' first
      | (with_reducible exact ih0 _ _ _ _ _ _)
      | (with_reducible exact ih1 _ _ _ _ _ _)
      | (with_reducible exact ih2 _ _ _ _ _ _ _ _ _ _ _ _ _)
      | (with_reducible exact ih3 _ _ _ _)
      | (with_reducible exact explicit_Levels.mono _ _ _)
      | (with_reducible exact naskhlaw23_awake.mono _)
      | (with_reducible exact seq_Sequences.mono _ _ _ _ _)
      | (with_reducible exact LeO.refl _)
      | (with_reducible exact LeO.none _)
      | (with_reducible refine LeO.ite ?_ ?_)
      | (with_reducible refine LeO.bind ?_ (fun _ => ?_))
      | exact ih0 _ _ _ _ _ _
      | exact ih1 _ _ _ _ _ _
      | exact ih2 _ _ _ _ _ _ _ _ _ _ _ _ _
      | exact ih3 _ _ _ _
      | exact explicit_Levels.mono _ _ _
      | exact naskhlaw23_awake.mono _
      | exact seq_Sequences.mono _ _ _ _ _
      | exact LeO.none _
      | refine LeO.ite ?_ ?_
      | refine LeO.bind ?_ (fun _ => ?_)
theorem naskhlaw23_SeqOnce.mono : ∀ a0 a1 k, LeO (naskhlaw23_SeqOnce.f k a0 a1) (naskhlaw23_SeqOnce.f (k + 1) a0 a1) := by
  intro a0 a1 k
  obtain ⟨ih0, ih1, ih2, ih3⟩ := naskhlaw23_SeqOnce.mono_l k
  unfold naskhlaw23_SeqOnce.f
  repeat' first
      | (with_reducible exact ih0 _ _ _ _ _ _)
      | (with_reducible exact ih1 _ _ _ _ _ _)
      | (with_reducible exact ih2 _ _ _ _ _ _ _ _ _ _ _ _ _)
      | (with_reducible exact ih3 _ _ _ _)
      | (with_reducible exact explicit_Levels.mono _ _ _)
      | (with_reducible exact naskhlaw23_awake.mono _)
      | (with_reducible exact seq_Sequences.mono _ _ _ _ _)
      | (with_reducible exact LeO.refl _)
      | (with_reducible exact LeO.none _)
      | (with_reducible refine LeO.ite ?_ ?_)
      | (with_reducible refine LeO.bind ?_ (fun _ => ?_))
      | exact ih0 _ _ _ _ _ _
      | exact ih1 _ _ _ _ _ _
      | exact ih2 _ _ _ _ _ _ _ _ _ _ _ _ _
      | exact ih3 _ _ _ _
      | exact explicit_Levels.mono _ _ _
      | exact naskhlaw23_awake.mono _
      | exact seq_Sequences.mono _ _ _ _ _
      | exact LeO.none _
      | refine LeO.ite ?_ ?_
      | refine LeO.bind ?_ (fun _ => ?_)
set_option maxHeartbeats 8000000 in
set_option maxRecDepth 100000 in
theorem naskhlaw23_SeqOnce.calls (k : Nat) (A0 : Option Addr) (c0 : Nat) (l0 : List Int) (a1 : Int) (r : Bool) (w : World) (hr0 : Kd.C (Kd.int .i64) w A0 l0.length l0) (hc0 : l0.length ≤ c0) (h : naskhlaw23_SeqOnce.f k l0 a1 = some r) :
    Calls Try.prog 9 #[.slice A0 l0.length c0, .int .i64 a1] w fun e w' => e = .returned (.bool r) ∧ Below w.heap.size w w' := by
  have hu42 := Try.underlying42
  have HR0 := Aside0.mk hr0
  have HC0 := Aside0.mk hc0
  clear hr0 hc0
  have HB := Aside0.mk (Below.refl w.heap.size w)
  have H : (if (l0.length : Int) > 200 then ((naskhlaw23_awake.f k).bind fun t212 => (some t212)) else ((explicit_Levels.f k l0 (mn (mx a1 0) 1)).bind fun bt213 => (if 0 ≤ (l0.length : Int) then (if ((l0.length : Int) : Int).toNat ≤ 35184372088832 then ((some (List.replicate ((l0.length : Int) : Int).toNat 0 : List Int)).bind fun y219 => (if (bt213.1.length : Int) = (l0.length : Int) then (naskhlaw23_SeqOnce.j0 k l0 (mn (mx a1 0) 1) bt213.1 bt213.2 y219 ((bt213.2.length : Int) != (l0.length : Int))) else (naskhlaw23_SeqOnce.j0 k l0 (mn (mx a1 0) 1) bt213.1 bt213.2 y219 true))) else (none)) else (none)))) = some r := h
  clear h
  by_cases c3 : (l0.length : Int) > 200
  · rw [if_pos c3] at H
    have c3b0 : decide (200 < (l0.length : Int)) = true := decide_eq_true c3
    have c3b1 : decide (200 < l0.length) = true := decide_eq_true (by omega)
    clear c3
    replace H := Option.bind_eq_some_iff.mp H
    obtain ⟨t212, A40, H⟩ := H
    replace H : (some t212) = some r := H
    have A4 := Aside0.mk A40
    clear A40
    obtain rfl := Option.some.inj H
    go_enter Try.func9, Try.ntmps9
    go_wp2_with (first | (go_at_call 10; (with_reducible refine (naskhlaw23_awake.calls k  t212 _ A4.out).mono ?_); rintro e w5 ⟨rfl, hb⟩; have n0_ := Aside0.mk (below_step (by repeat (first | (with_reducible first | exact HB.out | apply below_alloc | apply pw_below_drewN | apply below_drew1) | exact HB.out)) hb); clear HB; have HB := n0_; clear n0_; (try clear hb); (try clear hb2); (try clear hk); (try clear hi)))
    repeat (go_quiet (first | (go_at_call 10; (with_reducible refine (naskhlaw23_awake.calls k  t212 _ A4.out).mono ?_); rintro e w5 ⟨rfl, hb⟩; have n0_ := Aside0.mk (below_step (by repeat (first | (with_reducible first | exact HB.out | apply below_alloc | apply pw_below_drewN | apply below_drew1) | exact HB.out)) hb); clear HB; have HB := n0_; clear n0_; (try clear hb); (try clear hb2); (try clear hk); (try clear hi))); try go_wp2_with (first | (go_at_call 10; (with_reducible refine (naskhlaw23_awake.calls k  t212 _ A4.out).mono ?_); rintro e w5 ⟨rfl, hb⟩; have n0_ := Aside0.mk (below_step (by repeat (first | (with_reducible first | exact HB.out | apply below_alloc | apply pw_below_drewN | apply below_drew1) | exact HB.out)) hb); clear HB; have HB := n0_; clear n0_; (try clear hb); (try clear hb2); (try clear hk); (try clear hi))))
    go_ret
    exact ⟨by first | rfl | (simp [errW_none, errW_some] <;> rfl) | (simp [*, errW_none, errW_some] <;> rfl), by repeat (first | (with_reducible first | exact HB.out | apply below_alloc | apply pw_below_drewN | apply below_drew1) | exact HB.out)⟩
  · rw [if_neg c3] at H
    have c3b0 : decide (200 < (l0.length : Int)) = false := decide_eq_false c3
    have c3b1 : decide (200 < l0.length) = false := decide_eq_false (by omega)
    clear c3
    obtain ⟨ji6, hji6⟩ : ∃ j_ : Int, (mx a1 0) = j_ := ⟨_, rfl⟩
    replace H : ((explicit_Levels.f k l0 (mn (ji6) 1)).bind fun bt213 => (if 0 ≤ (l0.length : Int) then (if ((l0.length : Int) : Int).toNat ≤ 35184372088832 then ((some (List.replicate ((l0.length : Int) : Int).toNat 0 : List Int)).bind fun y219 => (if (bt213.1.length : Int) = (l0.length : Int) then (naskhlaw23_SeqOnce.j0 k l0 (mn (ji6) 1) bt213.1 bt213.2 y219 ((bt213.2.length : Int) != (l0.length : Int))) else (naskhlaw23_SeqOnce.j0 k l0 (mn (ji6) 1) bt213.1 bt213.2 y219 true))) else (none)) else (none))) = some r := by first | (rw [hji6] at H; exact H) | (simp only [hji6] at H ⊢; exact H)
    (try (have hji6l : 0 ≤ ji6 := by (rw [← hji6]; unfold mx; (repeat' split) <;> omega)))
    (try (have hji6m : 0 ≤ ji6 := by omega))
    have hji6_ : (if a1 < 0 then 0 else a1) = ji6 := hji6
    obtain ⟨ji7, hji7⟩ : ∃ j_ : Int, (mn (ji6) 1) = j_ := ⟨_, rfl⟩
    replace H : ((explicit_Levels.f k l0 (ji7)).bind fun bt213 => (if 0 ≤ (l0.length : Int) then (if ((l0.length : Int) : Int).toNat ≤ 35184372088832 then ((some (List.replicate ((l0.length : Int) : Int).toNat 0 : List Int)).bind fun y219 => (if (bt213.1.length : Int) = (l0.length : Int) then (naskhlaw23_SeqOnce.j0 k l0 ji7 bt213.1 bt213.2 y219 ((bt213.2.length : Int) != (l0.length : Int))) else (naskhlaw23_SeqOnce.j0 k l0 ji7 bt213.1 bt213.2 y219 true))) else (none)) else (none))) = some r := by first | (rw [hji7] at H; exact H) | (simp only [hji7] at H ⊢; exact H)
    have hji7_ : (if 1 < (ji6) then 1 else (ji6)) = ji7 := hji7
    replace H := Option.bind_eq_some_iff.mp H
    obtain ⟨⟨t213, t214⟩, A80, H⟩ := H
    replace H : (if 0 ≤ (l0.length : Int) then (if ((l0.length : Int) : Int).toNat ≤ 35184372088832 then ((some (List.replicate ((l0.length : Int) : Int).toNat 0 : List Int)).bind fun y219 => (if (t213.length : Int) = (l0.length : Int) then (naskhlaw23_SeqOnce.j0 k l0 ji7 t213 t214 y219 ((t214.length : Int) != (l0.length : Int))) else (naskhlaw23_SeqOnce.j0 k l0 ji7 t213 t214 y219 true))) else (none)) else (none)) = some r := H
    have A8 := Aside0.mk A80
    clear A80
    by_cases c9 : 0 ≤ (l0.length : Int)
    · rw [if_pos c9] at H
      have c9b0 := eq_true c9
      have c9b1 : decide (0 ≤ (l0.length : Int)) = true := decide_eq_true c9
      clear c9
      by_cases c10 : ((l0.length : Int) : Int).toNat ≤ 35184372088832
      · rw [if_pos c10] at H
        have c10b0 := eq_true c10
        have c10b1 : decide (((l0.length : Int) : Int).toNat ≤ 35184372088832) = true := decide_eq_true c10
        clear c10
        obtain ⟨y219, hy219⟩ : ∃ y_ : List Int, y_ = (List.replicate ((l0.length : Int) : Int).toNat 0) := ⟨_, rfl⟩
        replace H : (if (t213.length : Int) = (l0.length : Int) then (naskhlaw23_SeqOnce.j0 k l0 ji7 t213 t214 y219 ((t214.length : Int) != (l0.length : Int))) else (naskhlaw23_SeqOnce.j0 k l0 ji7 t213 t214 y219 true)) = some r := by first | (rw [hy219]; with_reducible exact H) | (have H2_ := (Option.bind_some _ _).symm.trans H; rw [hy219]; with_reducible exact H2_) | (have H2_ := (Option.bind_some _ _).symm.trans H; with_reducible exact H2_) | with_reducible exact H | (rw [hy219]; exact H) | exact H
        have Ny219 := Aside0.mk hy219
        clear hy219
        have HC11 := Aside0.mk H
        clear H
        go_enter Try.func9, Try.ntmps9
        go_upto_region 6 with (first | (go_at_call 21; (with_reducible refine (explicit_Levels.calls k _ _ l0 ji7 t213 t214 _ ?side1 ?side2 A8.out).mono ?_); (case side1 => repeat (first | exact HR0.out | (with_reducible refine Kd.C_alloc ?_ _) | (with_reducible refine Kd.C_drewN ?_ _) | (with_reducible refine Kd.C_drew ?_))); (case side2 => exact HC0.out); rintro e w12 ⟨v215, v217, rfl, ho0, ho1, hb⟩; have n0_ := Aside0.mk (Kd.R_lower ho0 (below_size (by repeat (first | (with_reducible first | exact HB.out | apply below_alloc | apply pw_below_drewN | apply below_drew1) | exact HB.out)))); have n1_ := Aside0.mk (Kd.R_lower ho1 (below_size (by repeat (first | (with_reducible first | exact HB.out | apply below_alloc | apply pw_below_drewN | apply below_drew1) | exact HB.out)))); have n2_ := Aside0.mk (below_step (by repeat (first | (with_reducible first | exact HB.out | apply below_alloc | apply pw_below_drewN | apply below_drew1) | exact HB.out)) hb); clear HB; have HO216 := n0_; have HO218 := n1_; have HB := n2_; clear n0_ n1_ n2_; (try clear hb); (try clear hb2); (try clear hk); (try clear hi); (try clear ho0); (try clear ho1)) | ((with_reducible refine gate_dst (N := 31) rfl ?_); (try (refine gate_guard (by rfl) ?_; dsimp only)); refine Kd.R_make (Kd.int .i64) _ 3 rfl (N := 31) rfl 22 _ _ rfl (l0.length : Int) rfl rfl Try.underlying22 (.int .i64 0) 8 info3 rfl (by decide) (by omega) 0 (ok := fun _ => True) (okp := fun _ => True) rfl (fun _ hk => hk) trivial (of_decide_eq_true (by first | (with_reducible assumption) | assumption)) (Nat.le_trans (Nat.mul_le_mul_right _ (of_decide_eq_true (by first | (with_reducible assumption) | assumption) : (l0.length : Int).toNat ≤ 35184372088832)) (by omega)) (Below.refl _ _) (Nat.le_refl _) ?_; intro v220 w13 ho14 hb hg_ hnew_; clear hg_ hnew_; (first | rw [← Ny219.out] at ho14 | (simp only [Int.reduceToNat] at ho14; rw [← Ny219.out] at ho14)); have n0_ := Aside0.mk (Kd.R_elder' (by (with_reducible repeat (first | apply Kd.R_alloc | apply Kd.R_drewN | apply Kd.R_drew)); exact HO216.out) (Kd.R_base ho14) hb); have n1_ := Aside0.mk (Kd.R_elder' (by (with_reducible repeat (first | apply Kd.R_alloc | apply Kd.R_drewN | apply Kd.R_drew)); exact HO218.out) (Kd.R_base ho14) hb); have n2_ := Aside0.mk (Kd.R_lower (Kd.R_new' (Kd.R_new' ho14 (Kd.R_lt (by (with_reducible repeat (first | apply Kd.R_alloc | apply Kd.R_drewN | apply Kd.R_drew)); exact HO216.out))) (Kd.R_lt (by (with_reducible repeat (first | apply Kd.R_alloc | apply Kd.R_drewN | apply Kd.R_drew)); exact HO218.out))) (below_size (by repeat (first | (with_reducible first | exact HB.out | apply below_alloc | apply pw_below_drewN | apply below_drew1) | exact HB.out)))); have n3_ := Aside0.mk (below_step (by repeat (first | (with_reducible first | exact HB.out | apply below_alloc | apply pw_below_drewN | apply below_drew1) | exact HB.out)) hb); clear HO216; clear HO218; clear HB; have HO216 := n0_; have HO218 := n1_; have HO221 := n2_; have HB := n3_; clear n0_ n1_ n2_ n3_; clear hb ho14))
        repeat (go_quiet (first | (go_at_call 21; (with_reducible refine (explicit_Levels.calls k _ _ l0 ji7 t213 t214 _ ?side1 ?side2 A8.out).mono ?_); (case side1 => repeat (first | exact HR0.out | (with_reducible refine Kd.C_alloc ?_ _) | (with_reducible refine Kd.C_drewN ?_ _) | (with_reducible refine Kd.C_drew ?_))); (case side2 => exact HC0.out); rintro e w12 ⟨v215, v217, rfl, ho0, ho1, hb⟩; have n0_ := Aside0.mk (Kd.R_lower ho0 (below_size (by repeat (first | (with_reducible first | exact HB.out | apply below_alloc | apply pw_below_drewN | apply below_drew1) | exact HB.out)))); have n1_ := Aside0.mk (Kd.R_lower ho1 (below_size (by repeat (first | (with_reducible first | exact HB.out | apply below_alloc | apply pw_below_drewN | apply below_drew1) | exact HB.out)))); have n2_ := Aside0.mk (below_step (by repeat (first | (with_reducible first | exact HB.out | apply below_alloc | apply pw_below_drewN | apply below_drew1) | exact HB.out)) hb); clear HB; have HO216 := n0_; have HO218 := n1_; have HB := n2_; clear n0_ n1_ n2_; (try clear hb); (try clear hb2); (try clear hk); (try clear hi); (try clear ho0); (try clear ho1)) | ((with_reducible refine gate_dst (N := 31) rfl ?_); (try (refine gate_guard (by rfl) ?_; dsimp only)); refine Kd.R_make (Kd.int .i64) _ 3 rfl (N := 31) rfl 22 _ _ rfl (l0.length : Int) rfl rfl Try.underlying22 (.int .i64 0) 8 info3 rfl (by decide) (by omega) 0 (ok := fun _ => True) (okp := fun _ => True) rfl (fun _ hk => hk) trivial (of_decide_eq_true (by first | (with_reducible assumption) | assumption)) (Nat.le_trans (Nat.mul_le_mul_right _ (of_decide_eq_true (by first | (with_reducible assumption) | assumption) : (l0.length : Int).toNat ≤ 35184372088832)) (by omega)) (Below.refl _ _) (Nat.le_refl _) ?_; intro v220 w13 ho14 hb hg_ hnew_; clear hg_ hnew_; (first | rw [← Ny219.out] at ho14 | (simp only [Int.reduceToNat] at ho14; rw [← Ny219.out] at ho14)); have n0_ := Aside0.mk (Kd.R_elder' (by (with_reducible repeat (first | apply Kd.R_alloc | apply Kd.R_drewN | apply Kd.R_drew)); exact HO216.out) (Kd.R_base ho14) hb); have n1_ := Aside0.mk (Kd.R_elder' (by (with_reducible repeat (first | apply Kd.R_alloc | apply Kd.R_drewN | apply Kd.R_drew)); exact HO218.out) (Kd.R_base ho14) hb); have n2_ := Aside0.mk (Kd.R_lower (Kd.R_new' (Kd.R_new' ho14 (Kd.R_lt (by (with_reducible repeat (first | apply Kd.R_alloc | apply Kd.R_drewN | apply Kd.R_drew)); exact HO216.out))) (Kd.R_lt (by (with_reducible repeat (first | apply Kd.R_alloc | apply Kd.R_drewN | apply Kd.R_drew)); exact HO218.out))) (below_size (by repeat (first | (with_reducible first | exact HB.out | apply below_alloc | apply pw_below_drewN | apply below_drew1) | exact HB.out)))); have n3_ := Aside0.mk (below_step (by repeat (first | (with_reducible first | exact HB.out | apply below_alloc | apply pw_below_drewN | apply below_drew1) | exact HB.out)) hb); clear HO216; clear HO218; clear HB; have HO216 := n0_; have HO218 := n1_; have HO221 := n2_; have HB := n3_; clear n0_ n1_ n2_ n3_; clear hb ho14)); go_upto_region 6 with (first | (go_at_call 21; (with_reducible refine (explicit_Levels.calls k _ _ l0 ji7 t213 t214 _ ?side1 ?side2 A8.out).mono ?_); (case side1 => repeat (first | exact HR0.out | (with_reducible refine Kd.C_alloc ?_ _) | (with_reducible refine Kd.C_drewN ?_ _) | (with_reducible refine Kd.C_drew ?_))); (case side2 => exact HC0.out); rintro e w12 ⟨v215, v217, rfl, ho0, ho1, hb⟩; have n0_ := Aside0.mk (Kd.R_lower ho0 (below_size (by repeat (first | (with_reducible first | exact HB.out | apply below_alloc | apply pw_below_drewN | apply below_drew1) | exact HB.out)))); have n1_ := Aside0.mk (Kd.R_lower ho1 (below_size (by repeat (first | (with_reducible first | exact HB.out | apply below_alloc | apply pw_below_drewN | apply below_drew1) | exact HB.out)))); have n2_ := Aside0.mk (below_step (by repeat (first | (with_reducible first | exact HB.out | apply below_alloc | apply pw_below_drewN | apply below_drew1) | exact HB.out)) hb); clear HB; have HO216 := n0_; have HO218 := n1_; have HB := n2_; clear n0_ n1_ n2_; (try clear hb); (try clear hb2); (try clear hk); (try clear hi); (try clear ho0); (try clear ho1)) | ((with_reducible refine gate_dst (N := 31) rfl ?_); (try (refine gate_guard (by rfl) ?_; dsimp only)); refine Kd.R_make (Kd.int .i64) _ 3 rfl (N := 31) rfl 22 _ _ rfl (l0.length : Int) rfl rfl Try.underlying22 (.int .i64 0) 8 info3 rfl (by decide) (by omega) 0 (ok := fun _ => True) (okp := fun _ => True) rfl (fun _ hk => hk) trivial (of_decide_eq_true (by first | (with_reducible assumption) | assumption)) (Nat.le_trans (Nat.mul_le_mul_right _ (of_decide_eq_true (by first | (with_reducible assumption) | assumption) : (l0.length : Int).toNat ≤ 35184372088832)) (by omega)) (Below.refl _ _) (Nat.le_refl _) ?_; intro v220 w13 ho14 hb hg_ hnew_; clear hg_ hnew_; (first | rw [← Ny219.out] at ho14 | (simp only [Int.reduceToNat] at ho14; rw [← Ny219.out] at ho14)); have n0_ := Aside0.mk (Kd.R_elder' (by (with_reducible repeat (first | apply Kd.R_alloc | apply Kd.R_drewN | apply Kd.R_drew)); exact HO216.out) (Kd.R_base ho14) hb); have n1_ := Aside0.mk (Kd.R_elder' (by (with_reducible repeat (first | apply Kd.R_alloc | apply Kd.R_drewN | apply Kd.R_drew)); exact HO218.out) (Kd.R_base ho14) hb); have n2_ := Aside0.mk (Kd.R_lower (Kd.R_new' (Kd.R_new' ho14 (Kd.R_lt (by (with_reducible repeat (first | apply Kd.R_alloc | apply Kd.R_drewN | apply Kd.R_drew)); exact HO216.out))) (Kd.R_lt (by (with_reducible repeat (first | apply Kd.R_alloc | apply Kd.R_drewN | apply Kd.R_drew)); exact HO218.out))) (below_size (by repeat (first | (with_reducible first | exact HB.out | apply below_alloc | apply pw_below_drewN | apply below_drew1) | exact HB.out)))); have n3_ := Aside0.mk (below_step (by repeat (first | (with_reducible first | exact HB.out | apply below_alloc | apply pw_below_drewN | apply below_drew1) | exact HB.out)) hb); clear HO216; clear HO218; clear HB; have HO216 := n0_; have HO218 := n1_; have HO221 := n2_; have HB := n3_; clear n0_ n1_ n2_ n3_; clear hb ho14)))
        (try simp only [Act.put, List.setIfInBounds_toArray, List.set_cons_zero, List.set_cons_succ])
        go_cut [43] (fun v43 wc => ∃ (kq : Nat) (x43_10 : Bool), v43 = .bool x43_10 ∧ Aside0 (naskhlaw23_SeqOnce.j0 kq l0 ji7 t213 t214 y219 x43_10 = some r) ∧ Aside0 (kq ≤ k) ∧ Aside0 (Kd.R (Kd.int .i64) 3 wc w.heap.size (fun k_ => some k_ ≠ (v217 : Value).ownBlock ∧ some k_ ≠ (v220 : Value).ownBlock) v215 t213) ∧ Aside0 (Kd.R (Kd.int .i64) 3 wc w.heap.size (fun k_ => some k_ ≠ (v215 : Value).ownBlock ∧ some k_ ≠ (v220 : Value).ownBlock) v217 t214) ∧ Aside0 (Kd.R (Kd.int .i64) 3 wc w.heap.size (fun k_ => some k_ ≠ (v215 : Value).ownBlock ∧ some k_ ≠ (v217 : Value).ownBlock) v220 y219) ∧ Aside0 (Below w.heap.size w wc))
        case first =>
          have H := HC11.out
          clear HC11
          by_cases c15 : (t213.length : Int) = (l0.length : Int)
          · rw [if_pos c15] at H
            have c15b0 : ((t213.length : Int) == (l0.length : Int)) = true := beq_iff_eq.mpr c15
            have c15b1 : ((t213.length : Int) != (l0.length : Int)) = false := bne_eq_false_iff_eq.mpr c15
            have c15b2 : (t213.length == l0.length) = true := by first | simpa using c15 | (simp at c15 ⊢; omega)
            clear c15
            (first | rw [c15b0] | (simp only [i64_w, i32_w]; rw [c15b0]) | skip)
            have H' := Aside0.mk H
            clear H
            obtain ⟨Ao16, co16, eo16⟩ := Kd.R_slice HO216.out
            subst eo16
            obtain ⟨Ao17, co17, eo17⟩ := Kd.R_slice HO218.out
            subst eo17
            go_wp2
            repeat (go_quiet (fail); try go_wp2)
            go_meet
            case rel => exact ⟨_, (((t214.length : Int) != (l0.length : Int))), (by first | rfl | (simp; done) | (simp [*]; done)), H', ⟨by first | omega | exact Nat.le_refl _⟩, ⟨by (with_reducible repeat (first | apply Kd.R_alloc | apply Kd.R_drewN | apply Kd.R_drew)); exact HO216.out⟩, ⟨by (with_reducible repeat (first | apply Kd.R_alloc | apply Kd.R_drewN | apply Kd.R_drew)); exact HO218.out⟩, ⟨by (with_reducible repeat (first | apply Kd.R_alloc | apply Kd.R_drewN | apply Kd.R_drew)); exact Kd.R_mono HO221.out (fun _ hk => ⟨hk.1.2, hk.2⟩)⟩, ⟨by repeat (first | (with_reducible first | exact HB.out | apply below_alloc | apply pw_below_drewN | apply below_drew1) | exact HB.out)⟩⟩
          · rw [if_neg c15] at H
            have c15b0 : ((t213.length : Int) == (l0.length : Int)) = false := beq_eq_false_iff_ne.mpr c15
            have c15b1 : ((t213.length : Int) != (l0.length : Int)) = true := bne_iff_ne.mpr c15
            have c15b2 : (t213.length == l0.length) = false := by first | simpa using c15 | (simp at c15 ⊢; omega)
            (first | rw [c15b0] | (simp only [i64_w, i32_w]; rw [c15b0]) | skip)
            have H' := Aside0.mk H
            clear H
            obtain ⟨Ao18, co18, eo18⟩ := Kd.R_slice HO216.out
            subst eo18
            go_wp2
            repeat (go_quiet (fail); try go_wp2)
            go_meet
            case rel => exact ⟨_, (true), (by first | rfl | (simp; done) | (simp [*]; done)), H', ⟨by first | omega | exact Nat.le_refl _⟩, ⟨by (with_reducible repeat (first | apply Kd.R_alloc | apply Kd.R_drewN | apply Kd.R_drew)); exact HO216.out⟩, ⟨by (with_reducible repeat (first | apply Kd.R_alloc | apply Kd.R_drewN | apply Kd.R_drew)); exact HO218.out⟩, ⟨by (with_reducible repeat (first | apply Kd.R_alloc | apply Kd.R_drewN | apply Kd.R_drew)); exact Kd.R_mono HO221.out (fun _ hk => ⟨hk.1.2, hk.2⟩)⟩, ⟨by repeat (first | (with_reducible first | exact HB.out | apply below_alloc | apply pw_below_drewN | apply below_drew1) | exact HB.out)⟩⟩
        case rest =>
          clear HC11
          try clear c1
          try clear p2
          try clear c3
          try clear c3b0
          try clear c3b1
          try clear c9
          try clear c9b0
          try clear c9b1
          try clear c10
          try clear c10b0
          try clear c10b1
          try clear c15
          try clear c15b0
          try clear c15b1
          try clear c15b2
          obtain ⟨kq, x43_10, rfl, HA, HJ10, HO_6, HO_7, HO_8, HB⟩ := hcut
          cases kq with
          | zero => exact absurd HA.out (by simp [naskhlaw23_SeqOnce.j0])
          | succ kj10 =>
            have H := HA.out
            clear HA
            simp only [naskhlaw23_SeqOnce.j0] at H
            by_cases c19 : x43_10 = true
            · subst c19
              have H1 : (some false) = some r := by rw [if_pos rfl] at H; exact H
              clear H
              have H := H1
              clear H1
              obtain rfl := Option.some.inj H
              go_wp2
              repeat (go_quiet (fail); try go_wp2)
              go_ret
              exact ⟨by first | rfl | (simp [errW_none, errW_some] <;> rfl) | (simp only [← hji6, ← hji7]; first | rfl | (simp [errW_none, errW_some] <;> rfl)) | (simp [*, errW_none, errW_some] <;> rfl), by repeat (first | (with_reducible first | exact HB.out | apply below_alloc | apply pw_below_drewN | apply below_drew1) | exact HB.out)⟩
            · replace c19 := Bool.eq_false_iff.mpr c19
              subst c19
              have H1 : ((seq_Sequences.f kj10 t213 t214 l0 ji7).bind fun t222 => (naskhlaw23_SeqOnce.l0 kj10 t213 t214 y219 t222 (t222.length : Int) 0)) = some r := by rw [if_neg (show ¬ (false = true) by decide)] at H; exact H
              clear H
              have H := H1
              clear H1
              replace H := Option.bind_eq_some_iff.mp H
              obtain ⟨t222, A200, H⟩ := H
              replace H : (naskhlaw23_SeqOnce.l0 kj10 t213 t214 y219 t222 (t222.length : Int) 0) = some r := H
              have A20 := Aside0.mk A200
              clear A200
              have H' := Aside0.mk H
              clear H
              obtain ⟨Ao21, co21, eo21⟩ := Kd.R_slice HO_6.out
              subst eo21
              obtain ⟨Ao22, co22, eo22⟩ := Kd.R_slice HO_7.out
              subst eo22
              go_wp2_with (first | (go_at_call 13; (with_reducible refine (seq_Sequences.calls kj10 _ _ t213 _ _ t214 _ _ l0 ji7 t222 _ ?side1 ?side2 ?side3 ?side4 ?side5 ?side6 A20.out).mono ?_); (case side1 => repeat (first | exact (Kd.R_reads' HO_6.out).2.2 | (with_reducible refine Kd.C_alloc ?_ _) | (with_reducible refine Kd.C_drewN ?_ _) | (with_reducible refine Kd.C_drew ?_))); (case side2 => exact (Kd.R_reads' HO_6.out).2.1); (case side3 => repeat (first | exact (Kd.R_reads' HO_7.out).2.2 | (with_reducible refine Kd.C_alloc ?_ _) | (with_reducible refine Kd.C_drewN ?_ _) | (with_reducible refine Kd.C_drew ?_))); (case side4 => exact (Kd.R_reads' HO_7.out).2.1); (case side5 => repeat (first | exact (Kd.C_below HR0.out HB.out) | (with_reducible refine Kd.C_alloc ?_ _) | (with_reducible refine Kd.C_drewN ?_ _) | (with_reducible refine Kd.C_drew ?_))); (case side6 => exact HC0.out); rintro e w23 ⟨v223, rfl, ho0, hb⟩; have n0_ := Aside0.mk (Kd.R_below (by (with_reducible repeat (first | apply Kd.R_alloc | apply Kd.R_drewN | apply Kd.R_drew)); exact HO_6.out) hb); have n1_ := Aside0.mk (Kd.R_below (by (with_reducible repeat (first | apply Kd.R_alloc | apply Kd.R_drewN | apply Kd.R_drew)); exact HO_7.out) hb); have n2_ := Aside0.mk (Kd.R_below (by (with_reducible repeat (first | apply Kd.R_alloc | apply Kd.R_drewN | apply Kd.R_drew)); exact HO_8.out) hb); have n3_ := Aside0.mk (Kd.S_lower (Kd.S_new' (Kd.S_new' (Kd.S_new' ho0 (Kd.R_lt (by (with_reducible repeat (first | apply Kd.R_alloc | apply Kd.R_drewN | apply Kd.R_drew)); exact HO_6.out))) (Kd.R_lt (by (with_reducible repeat (first | apply Kd.R_alloc | apply Kd.R_drewN | apply Kd.R_drew)); exact HO_7.out))) (Kd.R_lt (by (with_reducible repeat (first | apply Kd.R_alloc | apply Kd.R_drewN | apply Kd.R_drew)); exact HO_8.out))) (below_size (by repeat (first | (with_reducible first | exact HB.out | apply below_alloc | apply pw_below_drewN | apply below_drew1) | exact HB.out)))); have n4_ := Aside0.mk (below_step (by repeat (first | (with_reducible first | exact HB.out | apply below_alloc | apply pw_below_drewN | apply below_drew1) | exact HB.out)) hb); clear HO_6; clear HO_7; clear HO_8; clear HB; have HO_6 := n0_; have HO_7 := n1_; have HO_8 := n2_; have HO224 := n3_; have HB := n4_; clear n0_ n1_ n2_ n3_ n4_; (try clear hb); (try clear hb2); (try clear hk); (try clear hi); (try clear ho0); obtain ⟨Ao24, co24, eo24⟩ := Kd.S_slice HO224.out; subst eo24))
              repeat (go_quiet (first | (go_at_call 13; (with_reducible refine (seq_Sequences.calls kj10 _ _ t213 _ _ t214 _ _ l0 ji7 t222 _ ?side1 ?side2 ?side3 ?side4 ?side5 ?side6 A20.out).mono ?_); (case side1 => repeat (first | exact (Kd.R_reads' HO_6.out).2.2 | (with_reducible refine Kd.C_alloc ?_ _) | (with_reducible refine Kd.C_drewN ?_ _) | (with_reducible refine Kd.C_drew ?_))); (case side2 => exact (Kd.R_reads' HO_6.out).2.1); (case side3 => repeat (first | exact (Kd.R_reads' HO_7.out).2.2 | (with_reducible refine Kd.C_alloc ?_ _) | (with_reducible refine Kd.C_drewN ?_ _) | (with_reducible refine Kd.C_drew ?_))); (case side4 => exact (Kd.R_reads' HO_7.out).2.1); (case side5 => repeat (first | exact (Kd.C_below HR0.out HB.out) | (with_reducible refine Kd.C_alloc ?_ _) | (with_reducible refine Kd.C_drewN ?_ _) | (with_reducible refine Kd.C_drew ?_))); (case side6 => exact HC0.out); rintro e w23 ⟨v223, rfl, ho0, hb⟩; have n0_ := Aside0.mk (Kd.R_below (by (with_reducible repeat (first | apply Kd.R_alloc | apply Kd.R_drewN | apply Kd.R_drew)); exact HO_6.out) hb); have n1_ := Aside0.mk (Kd.R_below (by (with_reducible repeat (first | apply Kd.R_alloc | apply Kd.R_drewN | apply Kd.R_drew)); exact HO_7.out) hb); have n2_ := Aside0.mk (Kd.R_below (by (with_reducible repeat (first | apply Kd.R_alloc | apply Kd.R_drewN | apply Kd.R_drew)); exact HO_8.out) hb); have n3_ := Aside0.mk (Kd.S_lower (Kd.S_new' (Kd.S_new' (Kd.S_new' ho0 (Kd.R_lt (by (with_reducible repeat (first | apply Kd.R_alloc | apply Kd.R_drewN | apply Kd.R_drew)); exact HO_6.out))) (Kd.R_lt (by (with_reducible repeat (first | apply Kd.R_alloc | apply Kd.R_drewN | apply Kd.R_drew)); exact HO_7.out))) (Kd.R_lt (by (with_reducible repeat (first | apply Kd.R_alloc | apply Kd.R_drewN | apply Kd.R_drew)); exact HO_8.out))) (below_size (by repeat (first | (with_reducible first | exact HB.out | apply below_alloc | apply pw_below_drewN | apply below_drew1) | exact HB.out)))); have n4_ := Aside0.mk (below_step (by repeat (first | (with_reducible first | exact HB.out | apply below_alloc | apply pw_below_drewN | apply below_drew1) | exact HB.out)) hb); clear HO_6; clear HO_7; clear HO_8; clear HB; have HO_6 := n0_; have HO_7 := n1_; have HO_8 := n2_; have HO224 := n3_; have HB := n4_; clear n0_ n1_ n2_ n3_ n4_; (try clear hb); (try clear hb2); (try clear hk); (try clear hi); (try clear ho0); obtain ⟨Ao24, co24, eo24⟩ := Kd.S_slice HO224.out; subst eo24)); try go_wp2_with (first | (go_at_call 13; (with_reducible refine (seq_Sequences.calls kj10 _ _ t213 _ _ t214 _ _ l0 ji7 t222 _ ?side1 ?side2 ?side3 ?side4 ?side5 ?side6 A20.out).mono ?_); (case side1 => repeat (first | exact (Kd.R_reads' HO_6.out).2.2 | (with_reducible refine Kd.C_alloc ?_ _) | (with_reducible refine Kd.C_drewN ?_ _) | (with_reducible refine Kd.C_drew ?_))); (case side2 => exact (Kd.R_reads' HO_6.out).2.1); (case side3 => repeat (first | exact (Kd.R_reads' HO_7.out).2.2 | (with_reducible refine Kd.C_alloc ?_ _) | (with_reducible refine Kd.C_drewN ?_ _) | (with_reducible refine Kd.C_drew ?_))); (case side4 => exact (Kd.R_reads' HO_7.out).2.1); (case side5 => repeat (first | exact (Kd.C_below HR0.out HB.out) | (with_reducible refine Kd.C_alloc ?_ _) | (with_reducible refine Kd.C_drewN ?_ _) | (with_reducible refine Kd.C_drew ?_))); (case side6 => exact HC0.out); rintro e w23 ⟨v223, rfl, ho0, hb⟩; have n0_ := Aside0.mk (Kd.R_below (by (with_reducible repeat (first | apply Kd.R_alloc | apply Kd.R_drewN | apply Kd.R_drew)); exact HO_6.out) hb); have n1_ := Aside0.mk (Kd.R_below (by (with_reducible repeat (first | apply Kd.R_alloc | apply Kd.R_drewN | apply Kd.R_drew)); exact HO_7.out) hb); have n2_ := Aside0.mk (Kd.R_below (by (with_reducible repeat (first | apply Kd.R_alloc | apply Kd.R_drewN | apply Kd.R_drew)); exact HO_8.out) hb); have n3_ := Aside0.mk (Kd.S_lower (Kd.S_new' (Kd.S_new' (Kd.S_new' ho0 (Kd.R_lt (by (with_reducible repeat (first | apply Kd.R_alloc | apply Kd.R_drewN | apply Kd.R_drew)); exact HO_6.out))) (Kd.R_lt (by (with_reducible repeat (first | apply Kd.R_alloc | apply Kd.R_drewN | apply Kd.R_drew)); exact HO_7.out))) (Kd.R_lt (by (with_reducible repeat (first | apply Kd.R_alloc | apply Kd.R_drewN | apply Kd.R_drew)); exact HO_8.out))) (below_size (by repeat (first | (with_reducible first | exact HB.out | apply below_alloc | apply pw_below_drewN | apply below_drew1) | exact HB.out)))); have n4_ := Aside0.mk (below_step (by repeat (first | (with_reducible first | exact HB.out | apply below_alloc | apply pw_below_drewN | apply below_drew1) | exact HB.out)) hb); clear HO_6; clear HO_7; clear HO_8; clear HB; have HO_6 := n0_; have HO_7 := n1_; have HO_8 := n2_; have HO224 := n3_; have HB := n4_; clear n0_ n1_ n2_ n3_ n4_; (try clear hb); (try clear hb2); (try clear hk); (try clear hi); (try clear ho0); obtain ⟨Ao24, co24, eo24⟩ := Kd.S_slice HO224.out; subst eo24)))
              go_loopg [50] kj10 (fun kq v50 w' => ∃ (x8_2 : List Int) (x50_2 : Int), v50 = .int .i64 x50_2 ∧ Aside0 (naskhlaw23_SeqOnce.l0 kq t213 t214 x8_2 t222 (t222.length : Int) x50_2 = some r) ∧ Aside0 (kq ≤ kj10) ∧ Aside0 (Kd.R (Kd.int .i64) 3 w' w.heap.size (fun k_ => some k_ ≠ ((.slice Ao22 t214.length co22) : Value).ownBlock ∧ some k_ ≠ (v220 : Value).ownBlock) (.slice Ao21 t213.length co21) t213) ∧ Aside0 (Kd.R (Kd.int .i64) 3 w' w.heap.size (fun k_ => some k_ ≠ ((.slice Ao21 t213.length co21) : Value).ownBlock ∧ some k_ ≠ (v220 : Value).ownBlock) (.slice Ao22 t214.length co22) t214) ∧ Aside0 (Kd.R (Kd.int .i64) 3 w' w.heap.size (fun k_ => some k_ ≠ ((.slice Ao21 t213.length co21) : Value).ownBlock ∧ some k_ ≠ ((.slice Ao22 t214.length co22) : Value).ownBlock) v220 x8_2) ∧ Aside0 (Kd.S k42 42 w' w.heap.size (fun k_ => some k_ ≠ ((.slice Ao21 t213.length co21) : Value).ownBlock ∧ some k_ ≠ ((.slice Ao22 t214.length co22) : Value).ownBlock ∧ some k_ ≠ (v220 : Value).ownBlock) (.slice Ao24 t222.length co24) t222) ∧ Aside0 (Below w.heap.size w w'))
              case atStart => exact ⟨(y219), (0), (by first | rfl | (simp; done) | (simp [*]; done)), H', ⟨Nat.le_refl _⟩, ⟨by (with_reducible repeat (first | apply Kd.R_alloc | apply Kd.R_drewN | apply Kd.R_drew)); exact HO_6.out⟩, ⟨by (with_reducible repeat (first | apply Kd.R_alloc | apply Kd.R_drewN | apply Kd.R_drew)); exact HO_7.out⟩, ⟨by (with_reducible repeat (first | apply Kd.R_alloc | apply Kd.R_drewN | apply Kd.R_drew)); exact HO_8.out⟩, ⟨by (with_reducible repeat (first | apply Kd.S_alloc | apply Kd.S_drewN | apply Kd.S_drew)); exact Kd.S_mono HO224.out (fun _ hk => ⟨hk.1.1.2, ⟨hk.1.2, hk.2⟩⟩)⟩, ⟨by repeat (first | (with_reducible first | exact HB.out | apply below_alloc | apply pw_below_drewN | apply below_drew1) | exact HB.out)⟩⟩
              case round =>
                clear H'
                try clear c1
                try clear p2
                try clear c3
                try clear c3b0
                try clear c3b1
                try clear c9
                try clear c9b0
                try clear c9b1
                try clear c10
                try clear c10b0
                try clear c10b1
                try clear c15
                try clear c15b0
                try clear c15b1
                try clear c15b2
                try clear c19
                try clear p2
                obtain ⟨x8_2, x50_2, rfl, HA, HK2, HO_6, HO_7, HO_8, HO_48, HB⟩ := hrel
                cases gk with
                | zero => exact absurd HA.out (by simp [naskhlaw23_SeqOnce.l0])
                | succ k2 =>
                  have H := HA.out
                  clear HA
                  simp only [naskhlaw23_SeqOnce.l0] at H
                  by_cases c25 : x50_2 < (t222.length : Int)
                  · rw [if_pos c25] at H
                    have c25b0 : decide (x50_2 < (t222.length : Int)) = true := decide_eq_true c25
                    clear c25
                    by_cases c26 : 0 ≤ x50_2
                    · rw [if_pos c26] at H
                      have c26b0 : decide (0 ≤ x50_2) = true := decide_eq_true c26
                      clear c26
                      by_cases c27 : x50_2 < (t222.length : Int)
                      · rw [if_pos c27] at H
                        have c27b0 : decide (x50_2 < (t222.length : Int)) = true := decide_eq_true c27
                        clear c27
                        have H' := Aside0.mk H
                        clear H
                        have p225 : 0 ≤ (x50_2 : Int) := of_decide_eq_true (by first | (with_reducible assumption) | assumption)
                        have q225 : x50_2 < (t222.length : Int) := of_decide_eq_true (by first | (with_reducible assumption) | assumption)
                        obtain ⟨ad225, A225_0, c225_0, e225, hx225_0, hx225_1, hx225_2, hx225_3, hl225_0, hi225_0⟩ := at_T42 (Kd.S_reads' HO_48.out).2.2 x50_2 p225 q225
                        cases e225
                        obtain ⟨ce225, hce225, hMe225, hcc225⟩ := Kd.S_get HO_48.out z42 x50_2 p225 (by first | exact q225 | exact of_decide_eq_true (by first | (with_reducible assumption) | assumption) | (have e_ := (Kd.S_reads' HO_48.out).1; omega))
                        obtain ⟨ve225_0, rfl, ge225_0⟩ := k42_openM hMe225
                        have hv225_0 := hcc225 0 _ rfl
                        rw [Nat.add_zero] at hv225_0
                        replace hv225_0 := Option.some.inj (hv225_0.symm.trans hx225_0)
                        rw [hv225_0] at ge225_0
                        have HL225_0 := Aside0.mk (show Kd.R (Kd.int .i64) 3 _ _ _ _ ((rd_T42 t222 x50_2).f0) from ge225_0)
                        clear hv225_0 ge225_0
                        clear hcc225 hce225
                        have HR225_0 := Aside0.mk hi225_0
                        have HC225_0 := Aside0.mk hl225_0
                        clear hi225_0 hl225_0
                        replace p225 := eq_true p225
                        replace q225 := eq_true q225
                        go_wp2_with (first | ((with_reducible refine gate_dst (N := 10) rfl ?_); (try (refine gate_guard (by rfl) ?_; dsimp only)); refine box_event ?hg (N := 10) ?hd (cs := #[.slice none 0 0, .int .i64 0, .int .i64 0, .int .i64 0]) (t := 42) ?hr ?_; (case hd => rfl); (case hg => rfl); (case hr => first | (go_simp; done) | (go_simp; rfl)); intro gb226 hg w28 hbox hb; have n0_ := Aside0.mk (Kd.R_below (by (with_reducible repeat (first | apply Kd.R_alloc | apply Kd.R_drewN | apply Kd.R_drew)); exact HO_6.out) hb); have n1_ := Aside0.mk (Kd.R_below (by (with_reducible repeat (first | apply Kd.R_alloc | apply Kd.R_drewN | apply Kd.R_drew)); exact HO_7.out) hb); have n2_ := Aside0.mk (Kd.R_below (by (with_reducible repeat (first | apply Kd.R_alloc | apply Kd.R_drewN | apply Kd.R_drew)); exact HO_8.out) hb); have n3_ := Aside0.mk (Kd.S_below (Kd.S_elderB (by (with_reducible repeat (first | apply Kd.S_alloc | apply Kd.S_drewN | apply Kd.S_drew)); exact HO_48.out) gb226 (Nat.le_of_eq hg.symm)) hb); have n4_ := Aside0.mk (Kd.R_below (by (with_reducible repeat (first | apply Kd.R_alloc | apply Kd.R_drewN | apply Kd.R_drew)); exact HL225_0.out) hb); have n5_ := Aside0.mk (Kd.C_below (by repeat (first | (with_reducible exact HR225_0.out) | (with_reducible refine Kd.C_alloc ?_ _) | (with_reducible refine Kd.C_drewN ?_ _) | (with_reducible refine Kd.C_drew ?_) | exact HR225_0.out)) hb); have n6_ := Aside0.mk (below_step (by repeat (first | (with_reducible first | exact HB.out | apply below_alloc | apply pw_below_drewN | apply below_drew1) | exact HB.out)) hb); have n7_ := Aside0.mk (hbox); have n8_ := Aside0.mk ((by rw [hg]; exact (below_size (by repeat (first | (with_reducible first | exact HB.out | apply below_alloc | apply pw_below_drewN | apply below_drew1) | exact HB.out))) : w.heap.size ≤ gb226)); have n9_ := Aside0.mk ((by rw [hg]; exact (below_size (by repeat (first | (with_reducible first | exact HB.out | apply below_alloc | apply pw_below_drewN | apply below_drew1) | exact HB.out))) : w.heap.size ≤ gb226)); clear HO_6; clear HO_7; clear HO_8; clear HO_48; clear HL225_0; clear HR225_0; clear HB; have HO_6 := n0_; have HO_7 := n1_; have HO_8 := n2_; have HO_48 := n3_; have HL225_0 := n4_; have HR225_0 := n5_; have HB := n6_; have BK226 := n7_; have GW226 := n8_; have GE226 := n9_; clear n0_ n1_ n2_ n3_ n4_ n5_ n6_ n7_ n8_ n9_; clear hb hbox hg; have hcz29_0 : w28.cell? ⟨gb226, 0, none⟩ = some (.slice none 0 0) := (blk_cell BK226.out 0).trans rfl; have hcz29_1 : w28.cell? ⟨gb226, 1, none⟩ = some (.int .i64 0) := (blk_cell BK226.out 1).trans rfl; have hcz29_2 : w28.cell? ⟨gb226, 2, none⟩ = some (.int .i64 0) := (blk_cell BK226.out 2).trans rfl; have hcz29_3 : w28.cell? ⟨gb226, 3, none⟩ = some (.int .i64 0) := (blk_cell BK226.out 3).trans rfl; have hfz29_0 := blk_frozen BK226.out 0; have hfz29_1 := blk_frozen BK226.out 1; have hfz29_2 := blk_frozen BK226.out 2; have hfz29_3 := blk_frozen BK226.out 3))
                        repeat (go_quiet (first | ((with_reducible refine gate_dst (N := 10) rfl ?_); (try (refine gate_guard (by rfl) ?_; dsimp only)); refine box_event ?hg (N := 10) ?hd (cs := #[.slice none 0 0, .int .i64 0, .int .i64 0, .int .i64 0]) (t := 42) ?hr ?_; (case hd => rfl); (case hg => rfl); (case hr => first | (go_simp; done) | (go_simp; rfl)); intro gb226 hg w28 hbox hb; have n0_ := Aside0.mk (Kd.R_below (by (with_reducible repeat (first | apply Kd.R_alloc | apply Kd.R_drewN | apply Kd.R_drew)); exact HO_6.out) hb); have n1_ := Aside0.mk (Kd.R_below (by (with_reducible repeat (first | apply Kd.R_alloc | apply Kd.R_drewN | apply Kd.R_drew)); exact HO_7.out) hb); have n2_ := Aside0.mk (Kd.R_below (by (with_reducible repeat (first | apply Kd.R_alloc | apply Kd.R_drewN | apply Kd.R_drew)); exact HO_8.out) hb); have n3_ := Aside0.mk (Kd.S_below (Kd.S_elderB (by (with_reducible repeat (first | apply Kd.S_alloc | apply Kd.S_drewN | apply Kd.S_drew)); exact HO_48.out) gb226 (Nat.le_of_eq hg.symm)) hb); have n4_ := Aside0.mk (Kd.R_below (by (with_reducible repeat (first | apply Kd.R_alloc | apply Kd.R_drewN | apply Kd.R_drew)); exact HL225_0.out) hb); have n5_ := Aside0.mk (Kd.C_below (by repeat (first | (with_reducible exact HR225_0.out) | (with_reducible refine Kd.C_alloc ?_ _) | (with_reducible refine Kd.C_drewN ?_ _) | (with_reducible refine Kd.C_drew ?_) | exact HR225_0.out)) hb); have n6_ := Aside0.mk (below_step (by repeat (first | (with_reducible first | exact HB.out | apply below_alloc | apply pw_below_drewN | apply below_drew1) | exact HB.out)) hb); have n7_ := Aside0.mk (hbox); have n8_ := Aside0.mk ((by rw [hg]; exact (below_size (by repeat (first | (with_reducible first | exact HB.out | apply below_alloc | apply pw_below_drewN | apply below_drew1) | exact HB.out))) : w.heap.size ≤ gb226)); have n9_ := Aside0.mk ((by rw [hg]; exact (below_size (by repeat (first | (with_reducible first | exact HB.out | apply below_alloc | apply pw_below_drewN | apply below_drew1) | exact HB.out))) : w.heap.size ≤ gb226)); clear HO_6; clear HO_7; clear HO_8; clear HO_48; clear HL225_0; clear HR225_0; clear HB; have HO_6 := n0_; have HO_7 := n1_; have HO_8 := n2_; have HO_48 := n3_; have HL225_0 := n4_; have HR225_0 := n5_; have HB := n6_; have BK226 := n7_; have GW226 := n8_; have GE226 := n9_; clear n0_ n1_ n2_ n3_ n4_ n5_ n6_ n7_ n8_ n9_; clear hb hbox hg; have hcz29_0 : w28.cell? ⟨gb226, 0, none⟩ = some (.slice none 0 0) := (blk_cell BK226.out 0).trans rfl; have hcz29_1 : w28.cell? ⟨gb226, 1, none⟩ = some (.int .i64 0) := (blk_cell BK226.out 1).trans rfl; have hcz29_2 : w28.cell? ⟨gb226, 2, none⟩ = some (.int .i64 0) := (blk_cell BK226.out 2).trans rfl; have hcz29_3 : w28.cell? ⟨gb226, 3, none⟩ = some (.int .i64 0) := (blk_cell BK226.out 3).trans rfl; have hfz29_0 := blk_frozen BK226.out 0; have hfz29_1 := blk_frozen BK226.out 1; have hfz29_2 := blk_frozen BK226.out 2; have hfz29_3 := blk_frozen BK226.out 3)); try go_wp2_with (first | ((with_reducible refine gate_dst (N := 10) rfl ?_); (try (refine gate_guard (by rfl) ?_; dsimp only)); refine box_event ?hg (N := 10) ?hd (cs := #[.slice none 0 0, .int .i64 0, .int .i64 0, .int .i64 0]) (t := 42) ?hr ?_; (case hd => rfl); (case hg => rfl); (case hr => first | (go_simp; done) | (go_simp; rfl)); intro gb226 hg w28 hbox hb; have n0_ := Aside0.mk (Kd.R_below (by (with_reducible repeat (first | apply Kd.R_alloc | apply Kd.R_drewN | apply Kd.R_drew)); exact HO_6.out) hb); have n1_ := Aside0.mk (Kd.R_below (by (with_reducible repeat (first | apply Kd.R_alloc | apply Kd.R_drewN | apply Kd.R_drew)); exact HO_7.out) hb); have n2_ := Aside0.mk (Kd.R_below (by (with_reducible repeat (first | apply Kd.R_alloc | apply Kd.R_drewN | apply Kd.R_drew)); exact HO_8.out) hb); have n3_ := Aside0.mk (Kd.S_below (Kd.S_elderB (by (with_reducible repeat (first | apply Kd.S_alloc | apply Kd.S_drewN | apply Kd.S_drew)); exact HO_48.out) gb226 (Nat.le_of_eq hg.symm)) hb); have n4_ := Aside0.mk (Kd.R_below (by (with_reducible repeat (first | apply Kd.R_alloc | apply Kd.R_drewN | apply Kd.R_drew)); exact HL225_0.out) hb); have n5_ := Aside0.mk (Kd.C_below (by repeat (first | (with_reducible exact HR225_0.out) | (with_reducible refine Kd.C_alloc ?_ _) | (with_reducible refine Kd.C_drewN ?_ _) | (with_reducible refine Kd.C_drew ?_) | exact HR225_0.out)) hb); have n6_ := Aside0.mk (below_step (by repeat (first | (with_reducible first | exact HB.out | apply below_alloc | apply pw_below_drewN | apply below_drew1) | exact HB.out)) hb); have n7_ := Aside0.mk (hbox); have n8_ := Aside0.mk ((by rw [hg]; exact (below_size (by repeat (first | (with_reducible first | exact HB.out | apply below_alloc | apply pw_below_drewN | apply below_drew1) | exact HB.out))) : w.heap.size ≤ gb226)); have n9_ := Aside0.mk ((by rw [hg]; exact (below_size (by repeat (first | (with_reducible first | exact HB.out | apply below_alloc | apply pw_below_drewN | apply below_drew1) | exact HB.out))) : w.heap.size ≤ gb226)); clear HO_6; clear HO_7; clear HO_8; clear HO_48; clear HL225_0; clear HR225_0; clear HB; have HO_6 := n0_; have HO_7 := n1_; have HO_8 := n2_; have HO_48 := n3_; have HL225_0 := n4_; have HR225_0 := n5_; have HB := n6_; have BK226 := n7_; have GW226 := n8_; have GE226 := n9_; clear n0_ n1_ n2_ n3_ n4_ n5_ n6_ n7_ n8_ n9_; clear hb hbox hg; have hcz29_0 : w28.cell? ⟨gb226, 0, none⟩ = some (.slice none 0 0) := (blk_cell BK226.out 0).trans rfl; have hcz29_1 : w28.cell? ⟨gb226, 1, none⟩ = some (.int .i64 0) := (blk_cell BK226.out 1).trans rfl; have hcz29_2 : w28.cell? ⟨gb226, 2, none⟩ = some (.int .i64 0) := (blk_cell BK226.out 2).trans rfl; have hcz29_3 : w28.cell? ⟨gb226, 3, none⟩ = some (.int .i64 0) := (blk_cell BK226.out 3).trans rfl; have hfz29_0 := blk_frozen BK226.out 0; have hfz29_1 := blk_frozen BK226.out 1; have hfz29_2 := blk_frozen BK226.out 2; have hfz29_3 := blk_frozen BK226.out 3)))
                        go_loopg [57] k2 (fun kq v57 w' => ∃ (x8_3 : List Int) (x57_3 : Int), v57 = .int .i64 x57_3 ∧ Aside0 (naskhlaw23_SeqOnce.l1 kq t213 t214 x8_3 t222 (t222.length : Int) x50_2 ((rd_T42 t222 x50_2).f0) (((rd_T42 t222 x50_2).f0).length : Int) x57_3 ((rd_T42 t222 x50_2).f0) ((rd_T42 t222 x50_2).f1) ((rd_T42 t222 x50_2).f2) ((rd_T42 t222 x50_2).f3) = some r) ∧ Aside0 (kq ≤ k2) ∧ Aside0 (Kd.R (Kd.int .i64) 3 w' w.heap.size (fun k_ => some k_ ≠ ((.slice Ao22 t214.length co22) : Value).ownBlock ∧ some k_ ≠ (v220 : Value).ownBlock) (.slice Ao21 t213.length co21) t213) ∧ Aside0 (Kd.R (Kd.int .i64) 3 w' w.heap.size (fun k_ => some k_ ≠ ((.slice Ao21 t213.length co21) : Value).ownBlock ∧ some k_ ≠ (v220 : Value).ownBlock) (.slice Ao22 t214.length co22) t214) ∧ Aside0 (Kd.R (Kd.int .i64) 3 w' w.heap.size (fun k_ => some k_ ≠ ((.slice Ao21 t213.length co21) : Value).ownBlock ∧ some k_ ≠ ((.slice Ao22 t214.length co22) : Value).ownBlock) v220 x8_3) ∧ Aside0 (Kd.S k42 42 w' w.heap.size (fun k_ => some k_ ≠ ((.slice Ao21 t213.length co21) : Value).ownBlock ∧ some k_ ≠ ((.slice Ao22 t214.length co22) : Value).ownBlock ∧ some k_ ≠ (v220 : Value).ownBlock ∧ k_ ≠ gb226) (.slice (some ad225) t222.length co24) t222) ∧ Aside0 (w'.heap[gb226]? = some (.cells #[(.slice A225_0 ((rd_T42 t222 x50_2).f0).length c225_0), .int .i64 ((rd_T42 t222 x50_2).f1), .int .i64 ((rd_T42 t222 x50_2).f2), .int .i64 ((rd_T42 t222 x50_2).f3)] 42 (0, 0))) ∧ Aside0 (Kd.R (Kd.int .i64) 3 w' w.heap.size (fun k_ => some k_ ≠ (v220 : Value).ownBlock) (.slice A225_0 ((rd_T42 t222 x50_2).f0).length c225_0) ((rd_T42 t222 x50_2).f0)) ∧ Aside0 (Below w.heap.size w w'))
                        case atStart => exact ⟨(x8_2), (0), (by first | rfl | (simp; done) | (simp [*]; done)), H', ⟨Nat.le_refl _⟩, ⟨by (with_reducible repeat (first | apply Kd.R_alloc | apply Kd.R_drewN | apply Kd.R_drew)); exact Kd.R_mono (Kd.R_far (p := ⟨gb226, 3, none⟩) (Kd.R_far (p := ⟨gb226, 2, none⟩) (Kd.R_far (p := ⟨gb226, 1, none⟩) (Kd.R_far (p := ⟨gb226, 0, none⟩) (Kd.R_types HO_6.out BK226.out (by decide)) (fun _ hk => hk.2) (.slice A225_0 ((rd_T42 t222 x50_2).f0).length c225_0)) (fun _ hk => hk.2) (.int .i64 ((rd_T42 t222 x50_2).f1))) (fun _ hk => hk.2) (.int .i64 ((rd_T42 t222 x50_2).f2))) (fun _ hk => hk.2) (.int .i64 ((rd_T42 t222 x50_2).f3))) (fun _ hk => ⟨hk.1.1, hk.1.2⟩)⟩, ⟨by (with_reducible repeat (first | apply Kd.R_alloc | apply Kd.R_drewN | apply Kd.R_drew)); exact Kd.R_mono (Kd.R_far (p := ⟨gb226, 3, none⟩) (Kd.R_far (p := ⟨gb226, 2, none⟩) (Kd.R_far (p := ⟨gb226, 1, none⟩) (Kd.R_far (p := ⟨gb226, 0, none⟩) (Kd.R_types HO_7.out BK226.out (by decide)) (fun _ hk => hk.2) (.slice A225_0 ((rd_T42 t222 x50_2).f0).length c225_0)) (fun _ hk => hk.2) (.int .i64 ((rd_T42 t222 x50_2).f1))) (fun _ hk => hk.2) (.int .i64 ((rd_T42 t222 x50_2).f2))) (fun _ hk => hk.2) (.int .i64 ((rd_T42 t222 x50_2).f3))) (fun _ hk => ⟨hk.1.1, hk.1.2⟩)⟩, ⟨by (with_reducible repeat (first | apply Kd.R_alloc | apply Kd.R_drewN | apply Kd.R_drew)); exact Kd.R_mono (Kd.R_far (p := ⟨gb226, 3, none⟩) (Kd.R_far (p := ⟨gb226, 2, none⟩) (Kd.R_far (p := ⟨gb226, 1, none⟩) (Kd.R_far (p := ⟨gb226, 0, none⟩) (Kd.R_types HO_8.out BK226.out (by decide)) (fun _ hk => hk.2) (.slice A225_0 ((rd_T42 t222 x50_2).f0).length c225_0)) (fun _ hk => hk.2) (.int .i64 ((rd_T42 t222 x50_2).f1))) (fun _ hk => hk.2) (.int .i64 ((rd_T42 t222 x50_2).f2))) (fun _ hk => hk.2) (.int .i64 ((rd_T42 t222 x50_2).f3))) (fun _ hk => ⟨hk.1.1, hk.1.2⟩)⟩, ⟨by (with_reducible repeat (first | apply Kd.S_alloc | apply Kd.S_drewN | apply Kd.S_drew)); exact Kd.S_mono (Kd.S_far (p := ⟨gb226, 3, none⟩) (Kd.S_far (p := ⟨gb226, 2, none⟩) (Kd.S_far (p := ⟨gb226, 1, none⟩) (Kd.S_far (p := ⟨gb226, 0, none⟩) (Kd.S_mono HO_48.out (fun k_ hk => (⟨hk, hk.2⟩ : _ ∧ k_ ≠ gb226))) (fun _ hk => hk.2) (.slice A225_0 ((rd_T42 t222 x50_2).f0).length c225_0)) (fun _ hk => hk.2) (.int .i64 ((rd_T42 t222 x50_2).f1))) (fun _ hk => hk.2) (.int .i64 ((rd_T42 t222 x50_2).f2))) (fun _ hk => hk.2) (.int .i64 ((rd_T42 t222 x50_2).f3))) (fun _ hk => ⟨hk.1.1.1, ⟨hk.1.1.2.1, ⟨hk.1.1.2.2, hk.1.2⟩⟩⟩)⟩, ⟨by (with_reducible repeat (first | refine blk_drewN ?_ _ | refine blk_drew ?_ | refine blk_alloc ?_ _)); refine blk_put (cs := #[.slice A225_0 ((rd_T42 t222 x50_2).f0).length c225_0, .int .i64 ((rd_T42 t222 x50_2).f1), .int .i64 ((rd_T42 t222 x50_2).f2), .int .i64 0]) ?_ 3 _ rfl; (with_reducible repeat (first | refine blk_drewN ?_ _ | refine blk_drew ?_ | refine blk_alloc ?_ _)); refine blk_put (cs := #[.slice A225_0 ((rd_T42 t222 x50_2).f0).length c225_0, .int .i64 ((rd_T42 t222 x50_2).f1), .int .i64 0, .int .i64 0]) ?_ 2 _ rfl; (with_reducible repeat (first | refine blk_drewN ?_ _ | refine blk_drew ?_ | refine blk_alloc ?_ _)); refine blk_put (cs := #[.slice A225_0 ((rd_T42 t222 x50_2).f0).length c225_0, .int .i64 0, .int .i64 0, .int .i64 0]) ?_ 1 _ rfl; (with_reducible repeat (first | refine blk_drewN ?_ _ | refine blk_drew ?_ | refine blk_alloc ?_ _)); refine blk_put (cs := #[.slice none 0 0, .int .i64 0, .int .i64 0, .int .i64 0]) ?_ 0 _ rfl; (with_reducible repeat (first | refine blk_drewN ?_ _ | refine blk_drew ?_ | refine blk_alloc ?_ _)); exact BK226.out⟩, ⟨by (with_reducible repeat (first | apply Kd.R_alloc | apply Kd.R_drewN | apply Kd.R_drew)); exact Kd.R_mono (Kd.R_far (p := ⟨gb226, 3, none⟩) (Kd.R_far (p := ⟨gb226, 2, none⟩) (Kd.R_far (p := ⟨gb226, 1, none⟩) (Kd.R_far (p := ⟨gb226, 0, none⟩) (Kd.R_types HL225_0.out BK226.out (by decide)) (fun _ hk => hk.2) (.slice A225_0 ((rd_T42 t222 x50_2).f0).length c225_0)) (fun _ hk => hk.2) (.int .i64 ((rd_T42 t222 x50_2).f1))) (fun _ hk => hk.2) (.int .i64 ((rd_T42 t222 x50_2).f2))) (fun _ hk => hk.2) (.int .i64 ((rd_T42 t222 x50_2).f3))) (fun k_ hk => by first | exact hk.1.1.2.2.1 | exact hk.1.1.2.2 | exact hk.1.2.2.1 | exact hk.1.2.2 | exact hk.1.1.1.2.2 | exact hk.1.1.1.2.2.1)⟩, ⟨by repeat (first | (with_reducible first | exact HB.out | apply below_alloc | apply pw_below_drewN | apply below_drew1 | refine below_set ?_ GE226.out) | exact HB.out)⟩⟩
                        case round =>
                          clear H'
                          try clear c1
                          try clear c2
                          try clear p2
                          try clear q2
                          try clear hx2
                          try clear c3
                          try clear c3b0
                          try clear c3b1
                          try clear c9
                          try clear c9b0
                          try clear c9b1
                          try clear c10
                          try clear c10b0
                          try clear c10b1
                          try clear c15
                          try clear c15b0
                          try clear c15b1
                          try clear c15b2
                          try clear c19
                          try clear c22
                          try clear p22
                          try clear q22
                          try clear hx22
                          try clear c25
                          try clear c25b0
                          try clear c26
                          try clear c26b0
                          try clear c27
                          try clear c27b0
                          try clear hcz29_0
                          try clear hcz29_1
                          try clear hcz29_2
                          try clear hcz29_3
                          try clear hfz29_0
                          try clear hfz29_1
                          try clear hfz29_2
                          try clear hfz29_3
                          try clear hx225_0
                          try clear hx225_1
                          try clear hx225_2
                          try clear hx225_3
                          try clear p2
                          try clear p225
                          try clear q225
                          obtain ⟨x8_3, x57_3, rfl, HA, HK3, HO_6, HO_7, HO_8, HO_48, BK226, HL55, HB⟩ := hrel
                          cases gk with
                          | zero => exact absurd HA.out (by simp [naskhlaw23_SeqOnce.l1])
                          | succ k3 =>
                            have H := HA.out
                            clear HA
                            simp only [naskhlaw23_SeqOnce.l1] at H
                            by_cases c30 : x57_3 < (((rd_T42 t222 x50_2).f0).length : Int)
                            · rw [if_pos c30] at H
                              have c30b0 : decide (x57_3 < (((rd_T42 t222 x50_2).f0).length : Int)) = true := decide_eq_true c30
                              clear c30
                              by_cases c31 : 0 ≤ x57_3
                              · rw [if_pos c31] at H
                                have c31b0 : decide (0 ≤ x57_3) = true := decide_eq_true c31
                                clear c31
                                by_cases c32 : x57_3 < (((rd_T42 t222 x50_2).f0).length : Int)
                                · rw [if_pos c32] at H
                                  have c32b0 : decide (x57_3 < (((rd_T42 t222 x50_2).f0).length : Int)) = true := decide_eq_true c32
                                  clear c32
                                  by_cases c33 : (rd ((rd_T42 t222 x50_2).f0) x57_3) < 0
                                  · rw [if_pos c33] at H
                                    have c33b0 : decide ((rd ((rd_T42 t222 x50_2).f0) x57_3) < 0) = true := decide_eq_true c33
                                    clear c33
                                    obtain rfl := Option.some.inj H
                                    have p227 : 0 ≤ (x57_3 : Int) := of_decide_eq_true (by first | (with_reducible assumption) | assumption)
                                    have q227 : x57_3 < (((rd_T42 t222 x50_2).f0).length : Int) := of_decide_eq_true (by first | (with_reducible assumption) | assumption)
                                    obtain ⟨ad227, e227, hx227_0⟩ := Kd.at_int (Kd.R_reads' HL55.out).2.2 x57_3 p227 q227
                                    cases e227
                                    skip
                                    replace p227 := eq_true p227
                                    replace q227 := eq_true q227
                                    go_wp2
                                    repeat (go_quiet (fail); try go_wp2)
                                    go_ret
                                    exact ⟨by first | rfl | (simp [errW_none, errW_some] <;> rfl) | (simp only [← hji6, ← hji7]; first | rfl | (simp [errW_none, errW_some] <;> rfl)) | (simp [*, errW_none, errW_some] <;> rfl), by repeat (first | (with_reducible first | exact HB.out | apply below_alloc | apply pw_below_drewN | apply below_drew1 | refine below_set ?_ GE226.out) | exact HB.out)⟩
                                  · rw [if_neg c33] at H
                                    have c33b0 : decide ((rd ((rd_T42 t222 x50_2).f0) x57_3) < 0) = false := decide_eq_false c33
                                    clear c33
                                    by_cases c34 : (rd ((rd_T42 t222 x50_2).f0) x57_3) ≥ (x8_3.length : Int)
                                    · rw [if_pos c34] at H
                                      have c34b0 : decide ((x8_3.length : Int) ≤ (rd ((rd_T42 t222 x50_2).f0) x57_3)) = true := decide_eq_true c34
                                      clear c34
                                      obtain rfl := Option.some.inj H
                                      have p227 : 0 ≤ (x57_3 : Int) := of_decide_eq_true (by first | (with_reducible assumption) | assumption)
                                      have q227 : x57_3 < (((rd_T42 t222 x50_2).f0).length : Int) := of_decide_eq_true (by first | (with_reducible assumption) | assumption)
                                      obtain ⟨ad227, e227, hx227_0⟩ := Kd.at_int (Kd.R_reads' HL55.out).2.2 x57_3 p227 q227
                                      cases e227
                                      skip
                                      replace p227 := eq_true p227
                                      replace q227 := eq_true q227
                                      obtain ⟨Ao35, co35, eo35⟩ := Kd.R_slice HO_8.out
                                      subst eo35
                                      go_wp2
                                      repeat (go_quiet (fail); try go_wp2)
                                      go_ret
                                      exact ⟨by first | rfl | (simp [errW_none, errW_some] <;> rfl) | (simp only [← hji6, ← hji7]; first | rfl | (simp [errW_none, errW_some] <;> rfl)) | (simp [*, errW_none, errW_some] <;> rfl), by repeat (first | (with_reducible first | exact HB.out | apply below_alloc | apply pw_below_drewN | apply below_drew1 | refine below_set ?_ GE226.out) | exact HB.out)⟩
                                    · rw [if_neg c34] at H
                                      have c34b0 : decide ((x8_3.length : Int) ≤ (rd ((rd_T42 t222 x50_2).f0) x57_3)) = false := decide_eq_false c34
                                      clear c34
                                      by_cases c36 : 0 ≤ (rd ((rd_T42 t222 x50_2).f0) x57_3)
                                      · rw [if_pos c36] at H
                                        have c36b0 : decide (0 ≤ (rd ((rd_T42 t222 x50_2).f0) x57_3)) = true := decide_eq_true c36
                                        clear c36
                                        by_cases c37 : (rd ((rd_T42 t222 x50_2).f0) x57_3) < (t213.length : Int)
                                        · rw [if_pos c37] at H
                                          have c37b0 : decide ((rd ((rd_T42 t222 x50_2).f0) x57_3) < (t213.length : Int)) = true := decide_eq_true c37
                                          clear c37
                                          by_cases c38 : (rd t213 (rd ((rd_T42 t222 x50_2).f0) x57_3)) = ((rd_T42 t222 x50_2).f1)
                                          · rw [if_pos c38] at H
                                            have c38b0 : ((rd t213 (rd ((rd_T42 t222 x50_2).f0) x57_3)) == ((rd_T42 t222 x50_2).f1)) = true := beq_iff_eq.mpr c38
                                            have c38b1 : ((rd t213 (rd ((rd_T42 t222 x50_2).f0) x57_3)) != ((rd_T42 t222 x50_2).f1)) = false := bne_eq_false_iff_eq.mpr c38
                                            clear c38
                                            by_cases c39 : (rd ((rd_T42 t222 x50_2).f0) x57_3) < (x8_3.length : Int)
                                            · rw [if_pos c39] at H
                                              have c39b0 : decide ((rd ((rd_T42 t222 x50_2).f0) x57_3) < (x8_3.length : Int)) = true := decide_eq_true c39
                                              clear c39
                                              obtain ⟨y230, hy230⟩ : ∃ y_ : List Int, y_ = (x8_3.set ((rd ((rd_T42 t222 x50_2).f0) x57_3) : Int).toNat (wrap64 ((rd x8_3 (rd ((rd_T42 t222 x50_2).f0) x57_3)) + 1))) := ⟨_, rfl⟩
                                              replace H : (naskhlaw23_SeqOnce.l1 k3 t213 t214 y230 t222 (t222.length : Int) x50_2 ((rd_T42 t222 x50_2).f0) (((rd_T42 t222 x50_2).f0).length : Int) (wrap64 (x57_3 + 1)) ((rd_T42 t222 x50_2).f0) ((rd_T42 t222 x50_2).f1) ((rd_T42 t222 x50_2).f2) ((rd_T42 t222 x50_2).f3)) = some r := by first | (rw [hy230]; with_reducible exact H) | (have H2_ := (Option.bind_some _ _).symm.trans H; rw [hy230]; with_reducible exact H2_) | (have H2_ := (Option.bind_some _ _).symm.trans H; with_reducible exact H2_) | with_reducible exact H | (rw [hy230]; exact H) | exact H
                                              have Ny230 := Aside0.mk hy230
                                              clear hy230
                                              have H' := Aside0.mk H
                                              clear H
                                              have p227 : 0 ≤ (x57_3 : Int) := of_decide_eq_true (by first | (with_reducible assumption) | assumption)
                                              have q227 : x57_3 < (((rd_T42 t222 x50_2).f0).length : Int) := of_decide_eq_true (by first | (with_reducible assumption) | assumption)
                                              obtain ⟨ad227, e227, hx227_0⟩ := Kd.at_int (Kd.R_reads' HL55.out).2.2 x57_3 p227 q227
                                              cases e227
                                              skip
                                              replace p227 := eq_true p227
                                              replace q227 := eq_true q227
                                              obtain ⟨Ao41, co41, eo41⟩ := Kd.R_slice HO_8.out
                                              subst eo41
                                              have p228 : 0 ≤ ((rd ((rd_T42 t222 x50_2).f0) x57_3) : Int) := of_decide_eq_true (by first | (with_reducible assumption) | assumption)
                                              have q228 : (rd ((rd_T42 t222 x50_2).f0) x57_3) < (t213.length : Int) := of_decide_eq_true (by first | (with_reducible assumption) | assumption)
                                              obtain ⟨ad228, e228, hx228_0⟩ := Kd.at_int (Kd.R_reads' HO_6.out).2.2 (rd ((rd_T42 t222 x50_2).f0) x57_3) p228 q228
                                              cases e228
                                              replace p228 := eq_true p228
                                              replace q228 := eq_true q228
                                              have hcz42_0 : wr.cell? ⟨gb226, 0, none⟩ = some (.slice (some ad227) ((rd_T42 t222 x50_2).f0).length c225_0) := (blk_cell BK226.out 0).trans rfl
                                              have hcz42_1 : wr.cell? ⟨gb226, 1, none⟩ = some (.int .i64 ((rd_T42 t222 x50_2).f1)) := (blk_cell BK226.out 1).trans rfl
                                              have hcz42_2 : wr.cell? ⟨gb226, 2, none⟩ = some (.int .i64 ((rd_T42 t222 x50_2).f2)) := (blk_cell BK226.out 2).trans rfl
                                              have hcz42_3 : wr.cell? ⟨gb226, 3, none⟩ = some (.int .i64 ((rd_T42 t222 x50_2).f3)) := (blk_cell BK226.out 3).trans rfl
                                              have hfz42_0 := blk_frozen BK226.out 0
                                              have hfz42_1 := blk_frozen BK226.out 1
                                              have hfz42_2 := blk_frozen BK226.out 2
                                              have hfz42_3 := blk_frozen BK226.out 3
                                              have p229 : 0 ≤ ((rd ((rd_T42 t222 x50_2).f0) x57_3) : Int) := of_decide_eq_true (by first | (with_reducible assumption) | assumption)
                                              have q229 : (rd ((rd_T42 t222 x50_2).f0) x57_3) < (x8_3.length : Int) := of_decide_eq_true (by first | (with_reducible assumption) | assumption)
                                              obtain ⟨ad229, e229, hx229_0⟩ := Kd.at_int (Kd.R_reads' HO_8.out).2.2 (rd ((rd_T42 t222 x50_2).f0) x57_3) p229 q229
                                              cases e229
                                              replace p229 := eq_true p229
                                              replace q229 := eq_true q229
                                              have p40 : 0 ≤ ((rd ((rd_T42 t222 x50_2).f0) x57_3) : Int) := of_decide_eq_true (by first | (with_reducible assumption) | assumption)
                                              have q40 : ((rd ((rd_T42 t222 x50_2).f0) x57_3) : Int) < ((x8_3.length : Int) : Int) := of_decide_eq_true (by first | (with_reducible assumption) | assumption)
                                              obtain ⟨go40, co40, eo40, gb40, gl40, cl40, HG40⟩ := Kd.R_form HO_8.out (by omega)
                                              (first | cases eo40 | (injection eo40 with ea_ en_ ec_; (first | subst ea_ | (injection ea_ with ea_; subst ea_)); subst ec_; clear en_))
                                              have GB40 := Aside0.mk gb40
                                              have GG40 := Aside0.mk HG40
                                              clear gb40 gl40 HG40
                                              (first | simp only [add_plain] at hx229_0 | skip)
                                              obtain ⟨hx40_0, hf40_0⟩ := Kd.R_celln 0 HO_8.out ((rd ((rd_T42 t222 x50_2).f0) x57_3) : Int) p40 q40
                                              replace p40 := eq_true p40
                                              replace q40 := eq_true q40
                                              have HP43 := Kd.R_putg HO_8.out ((rd ((rd_T42 t222 x50_2).f0) x57_3) : Int) (wrap64 ((rd x8_3 (rd ((rd_T42 t222 x50_2).f0) x57_3)) + 1))
                                              go_wp2_with (first | ((with_reducible refine gate_store (t := 3) (p := 83) rfl ?_); (try (rw [drewN_self wr]; generalize hq_ : World.drewN wr _ = wr; (try (have hx40_0 := cell_at hq_ hx40_0)); (try (have hf40_0 := frozen_at_ hq_ hf40_0)); have n0_ := Aside0.mk (Kd.R_at hq_ HO_6.out); have n1_ := Aside0.mk (Kd.R_at hq_ HO_7.out); have n2_ := Aside0.mk (Kd.R_at hq_ HO_8.out); have n3_ := Aside0.mk (Kd.S_at hq_ HO_48.out); have n4_ := Aside0.mk (blk_at hq_ BK226.out); have n5_ := Aside0.mk (below_at hq_ HB.out); have HL55 := Aside0.mk (Kd.R_at hq_ HL55.out); clear hq_ HO_6 HO_7 HO_8 HO_48 BK226 HB; have HO_6 := n0_; have HO_7 := n1_; have HO_8 := n2_; have HO_48 := n3_; have BK226 := n4_; have HB := n5_; clear n0_ n1_ n2_ n3_ n4_ n5_; (try (have HP43 := Kd.R_putg HO_8.out ((rd ((rd_T42 t222 x50_2).f0) x57_3) : Int) (wrap64 ((rd x8_3 (rd ((rd_T42 t222 x50_2).f0) x57_3)) + 1)))))); refine store_event (t := 3) (p := 83) (v := ?vo_w44) (w1 := (wr.setCell ⟨go40, ((rd ((rd_T42 t222 x50_2).f0) x57_3) : Int).toNat, none⟩ (.int .i64 (wrap64 ((rd x8_3 (rd ((rd_T42 t222 x50_2).f0) x57_3)) + 1))))) ?hg ?ho ?hn ?hr ?_; (case ho => rfl); (case hg => rfl); (case hn => rfl); (case hr => first | (go_simp; done) | (go_simp; rfl)); intro w44 hw; have hg : wr.grownBy w44 (some go40) := (by rw [hw]; exact HP43.2); have HL55 := Aside0.mk (Kd.R_grown HL55.out hg (fun k_ hk => hk)); have hp_ : Kd.R (Kd.int .i64) 3 w44 w.heap.size (fun k_ => some k_ ≠ (.slice (some ad228) t213.length co21 : Value).ownBlock ∧ some k_ ≠ (.slice Ao22 t214.length co22 : Value).ownBlock) (.slice (some ⟨go40, 0, none⟩) x8_3.length co41) y230 := (by rw [hw, Ny230.out]; exact HP43.1); clear HP43; have n0_ := Aside0.mk (Kd.R_after (v := (.slice (some ⟨go40, 0, none⟩) x8_3.length co41)) (v1 := (.slice (some ⟨go40, 0, none⟩) x8_3.length co41)) (ok := (fun k_ => some k_ ≠ (.slice Ao22 t214.length co22 : Value).ownBlock)) (by (with_reducible repeat (first | apply Kd.R_alloc | apply Kd.R_drewN | apply Kd.R_drew)); exact HO_6.out) hg (.inl rfl)); have n1_ := Aside0.mk (Kd.R_after (v := (.slice (some ⟨go40, 0, none⟩) x8_3.length co41)) (v1 := (.slice (some ⟨go40, 0, none⟩) x8_3.length co41)) (ok := (fun k_ => some k_ ≠ (.slice (some ad228) t213.length co21 : Value).ownBlock)) (by (with_reducible repeat (first | apply Kd.R_alloc | apply Kd.R_drewN | apply Kd.R_drew)); exact HO_7.out) hg (.inl rfl)); have n2_ := Aside0.mk (hp_); have n3_ := Aside0.mk (Kd.S_after (v := (.slice (some ⟨go40, 0, none⟩) x8_3.length co41)) (v1 := (.slice (some ⟨go40, 0, none⟩) x8_3.length co41)) (ok := (fun k_ => some k_ ≠ (.slice (some ad228) t213.length co21 : Value).ownBlock ∧ some k_ ≠ (.slice Ao22 t214.length co22 : Value).ownBlock ∧ k_ ≠ gb226)) (by (with_reducible repeat (first | apply Kd.S_alloc | apply Kd.S_drewN | apply Kd.S_drew)); exact Kd.S_mono HO_48.out (fun _ hk => ⟨⟨hk.1, ⟨hk.2.1, hk.2.2.2⟩⟩, hk.2.2.1⟩)) hg (.inl rfl)); have n4_ := Aside0.mk (blk_grown (g := gb226) (o := .cells #[.slice (some ad227) ((rd_T42 t222 x50_2).f0).length c225_0, .int .i64 ((rd_T42 t222 x50_2).f1), .int .i64 ((rd_T42 t222 x50_2).f2), .int .i64 ((rd_T42 t222 x50_2).f3)] 42 (0, 0)) (by (with_reducible repeat (first | refine blk_drewN ?_ _ | refine blk_drew ?_ | refine blk_alloc ?_ _)); exact BK226.out) hg (Kd.R_ne HO_8.out BK226.out (by decide))); have n5_ := Aside0.mk ((by rw [hw]; exact below_set (HB.out) GB40.out : Below w.heap.size w w44)); clear HO_6; clear HO_7; clear HO_8; clear HO_48; clear BK226; clear HB; have HO_6 := n0_; have HO_7 := n1_; have HO_8 := n2_; have HO_48 := n3_; have BK226 := n4_; have HB := n5_; clear n0_ n1_ n2_ n3_ n4_ n5_; clear hg hw hp_))
                                              repeat (go_quiet (first | ((with_reducible refine gate_store (t := 3) (p := 83) rfl ?_); (try (rw [drewN_self wr]; generalize hq_ : World.drewN wr _ = wr; (try (have hx40_0 := cell_at hq_ hx40_0)); (try (have hf40_0 := frozen_at_ hq_ hf40_0)); have n0_ := Aside0.mk (Kd.R_at hq_ HO_6.out); have n1_ := Aside0.mk (Kd.R_at hq_ HO_7.out); have n2_ := Aside0.mk (Kd.R_at hq_ HO_8.out); have n3_ := Aside0.mk (Kd.S_at hq_ HO_48.out); have n4_ := Aside0.mk (blk_at hq_ BK226.out); have n5_ := Aside0.mk (below_at hq_ HB.out); have HL55 := Aside0.mk (Kd.R_at hq_ HL55.out); clear hq_ HO_6 HO_7 HO_8 HO_48 BK226 HB; have HO_6 := n0_; have HO_7 := n1_; have HO_8 := n2_; have HO_48 := n3_; have BK226 := n4_; have HB := n5_; clear n0_ n1_ n2_ n3_ n4_ n5_; (try (have HP43 := Kd.R_putg HO_8.out ((rd ((rd_T42 t222 x50_2).f0) x57_3) : Int) (wrap64 ((rd x8_3 (rd ((rd_T42 t222 x50_2).f0) x57_3)) + 1)))))); refine store_event (t := 3) (p := 83) (v := ?vo_w44) (w1 := (wr.setCell ⟨go40, ((rd ((rd_T42 t222 x50_2).f0) x57_3) : Int).toNat, none⟩ (.int .i64 (wrap64 ((rd x8_3 (rd ((rd_T42 t222 x50_2).f0) x57_3)) + 1))))) ?hg ?ho ?hn ?hr ?_; (case ho => rfl); (case hg => rfl); (case hn => rfl); (case hr => first | (go_simp; done) | (go_simp; rfl)); intro w44 hw; have hg : wr.grownBy w44 (some go40) := (by rw [hw]; exact HP43.2); have HL55 := Aside0.mk (Kd.R_grown HL55.out hg (fun k_ hk => hk)); have hp_ : Kd.R (Kd.int .i64) 3 w44 w.heap.size (fun k_ => some k_ ≠ (.slice (some ad228) t213.length co21 : Value).ownBlock ∧ some k_ ≠ (.slice Ao22 t214.length co22 : Value).ownBlock) (.slice (some ⟨go40, 0, none⟩) x8_3.length co41) y230 := (by rw [hw, Ny230.out]; exact HP43.1); clear HP43; have n0_ := Aside0.mk (Kd.R_after (v := (.slice (some ⟨go40, 0, none⟩) x8_3.length co41)) (v1 := (.slice (some ⟨go40, 0, none⟩) x8_3.length co41)) (ok := (fun k_ => some k_ ≠ (.slice Ao22 t214.length co22 : Value).ownBlock)) (by (with_reducible repeat (first | apply Kd.R_alloc | apply Kd.R_drewN | apply Kd.R_drew)); exact HO_6.out) hg (.inl rfl)); have n1_ := Aside0.mk (Kd.R_after (v := (.slice (some ⟨go40, 0, none⟩) x8_3.length co41)) (v1 := (.slice (some ⟨go40, 0, none⟩) x8_3.length co41)) (ok := (fun k_ => some k_ ≠ (.slice (some ad228) t213.length co21 : Value).ownBlock)) (by (with_reducible repeat (first | apply Kd.R_alloc | apply Kd.R_drewN | apply Kd.R_drew)); exact HO_7.out) hg (.inl rfl)); have n2_ := Aside0.mk (hp_); have n3_ := Aside0.mk (Kd.S_after (v := (.slice (some ⟨go40, 0, none⟩) x8_3.length co41)) (v1 := (.slice (some ⟨go40, 0, none⟩) x8_3.length co41)) (ok := (fun k_ => some k_ ≠ (.slice (some ad228) t213.length co21 : Value).ownBlock ∧ some k_ ≠ (.slice Ao22 t214.length co22 : Value).ownBlock ∧ k_ ≠ gb226)) (by (with_reducible repeat (first | apply Kd.S_alloc | apply Kd.S_drewN | apply Kd.S_drew)); exact Kd.S_mono HO_48.out (fun _ hk => ⟨⟨hk.1, ⟨hk.2.1, hk.2.2.2⟩⟩, hk.2.2.1⟩)) hg (.inl rfl)); have n4_ := Aside0.mk (blk_grown (g := gb226) (o := .cells #[.slice (some ad227) ((rd_T42 t222 x50_2).f0).length c225_0, .int .i64 ((rd_T42 t222 x50_2).f1), .int .i64 ((rd_T42 t222 x50_2).f2), .int .i64 ((rd_T42 t222 x50_2).f3)] 42 (0, 0)) (by (with_reducible repeat (first | refine blk_drewN ?_ _ | refine blk_drew ?_ | refine blk_alloc ?_ _)); exact BK226.out) hg (Kd.R_ne HO_8.out BK226.out (by decide))); have n5_ := Aside0.mk ((by rw [hw]; exact below_set (HB.out) GB40.out : Below w.heap.size w w44)); clear HO_6; clear HO_7; clear HO_8; clear HO_48; clear BK226; clear HB; have HO_6 := n0_; have HO_7 := n1_; have HO_8 := n2_; have HO_48 := n3_; have BK226 := n4_; have HB := n5_; clear n0_ n1_ n2_ n3_ n4_ n5_; clear hg hw hp_)); try go_wp2_with (first | ((with_reducible refine gate_store (t := 3) (p := 83) rfl ?_); (try (rw [drewN_self wr]; generalize hq_ : World.drewN wr _ = wr; (try (have hx40_0 := cell_at hq_ hx40_0)); (try (have hf40_0 := frozen_at_ hq_ hf40_0)); have n0_ := Aside0.mk (Kd.R_at hq_ HO_6.out); have n1_ := Aside0.mk (Kd.R_at hq_ HO_7.out); have n2_ := Aside0.mk (Kd.R_at hq_ HO_8.out); have n3_ := Aside0.mk (Kd.S_at hq_ HO_48.out); have n4_ := Aside0.mk (blk_at hq_ BK226.out); have n5_ := Aside0.mk (below_at hq_ HB.out); have HL55 := Aside0.mk (Kd.R_at hq_ HL55.out); clear hq_ HO_6 HO_7 HO_8 HO_48 BK226 HB; have HO_6 := n0_; have HO_7 := n1_; have HO_8 := n2_; have HO_48 := n3_; have BK226 := n4_; have HB := n5_; clear n0_ n1_ n2_ n3_ n4_ n5_; (try (have HP43 := Kd.R_putg HO_8.out ((rd ((rd_T42 t222 x50_2).f0) x57_3) : Int) (wrap64 ((rd x8_3 (rd ((rd_T42 t222 x50_2).f0) x57_3)) + 1)))))); refine store_event (t := 3) (p := 83) (v := ?vo_w44) (w1 := (wr.setCell ⟨go40, ((rd ((rd_T42 t222 x50_2).f0) x57_3) : Int).toNat, none⟩ (.int .i64 (wrap64 ((rd x8_3 (rd ((rd_T42 t222 x50_2).f0) x57_3)) + 1))))) ?hg ?ho ?hn ?hr ?_; (case ho => rfl); (case hg => rfl); (case hn => rfl); (case hr => first | (go_simp; done) | (go_simp; rfl)); intro w44 hw; have hg : wr.grownBy w44 (some go40) := (by rw [hw]; exact HP43.2); have HL55 := Aside0.mk (Kd.R_grown HL55.out hg (fun k_ hk => hk)); have hp_ : Kd.R (Kd.int .i64) 3 w44 w.heap.size (fun k_ => some k_ ≠ (.slice (some ad228) t213.length co21 : Value).ownBlock ∧ some k_ ≠ (.slice Ao22 t214.length co22 : Value).ownBlock) (.slice (some ⟨go40, 0, none⟩) x8_3.length co41) y230 := (by rw [hw, Ny230.out]; exact HP43.1); clear HP43; have n0_ := Aside0.mk (Kd.R_after (v := (.slice (some ⟨go40, 0, none⟩) x8_3.length co41)) (v1 := (.slice (some ⟨go40, 0, none⟩) x8_3.length co41)) (ok := (fun k_ => some k_ ≠ (.slice Ao22 t214.length co22 : Value).ownBlock)) (by (with_reducible repeat (first | apply Kd.R_alloc | apply Kd.R_drewN | apply Kd.R_drew)); exact HO_6.out) hg (.inl rfl)); have n1_ := Aside0.mk (Kd.R_after (v := (.slice (some ⟨go40, 0, none⟩) x8_3.length co41)) (v1 := (.slice (some ⟨go40, 0, none⟩) x8_3.length co41)) (ok := (fun k_ => some k_ ≠ (.slice (some ad228) t213.length co21 : Value).ownBlock)) (by (with_reducible repeat (first | apply Kd.R_alloc | apply Kd.R_drewN | apply Kd.R_drew)); exact HO_7.out) hg (.inl rfl)); have n2_ := Aside0.mk (hp_); have n3_ := Aside0.mk (Kd.S_after (v := (.slice (some ⟨go40, 0, none⟩) x8_3.length co41)) (v1 := (.slice (some ⟨go40, 0, none⟩) x8_3.length co41)) (ok := (fun k_ => some k_ ≠ (.slice (some ad228) t213.length co21 : Value).ownBlock ∧ some k_ ≠ (.slice Ao22 t214.length co22 : Value).ownBlock ∧ k_ ≠ gb226)) (by (with_reducible repeat (first | apply Kd.S_alloc | apply Kd.S_drewN | apply Kd.S_drew)); exact Kd.S_mono HO_48.out (fun _ hk => ⟨⟨hk.1, ⟨hk.2.1, hk.2.2.2⟩⟩, hk.2.2.1⟩)) hg (.inl rfl)); have n4_ := Aside0.mk (blk_grown (g := gb226) (o := .cells #[.slice (some ad227) ((rd_T42 t222 x50_2).f0).length c225_0, .int .i64 ((rd_T42 t222 x50_2).f1), .int .i64 ((rd_T42 t222 x50_2).f2), .int .i64 ((rd_T42 t222 x50_2).f3)] 42 (0, 0)) (by (with_reducible repeat (first | refine blk_drewN ?_ _ | refine blk_drew ?_ | refine blk_alloc ?_ _)); exact BK226.out) hg (Kd.R_ne HO_8.out BK226.out (by decide))); have n5_ := Aside0.mk ((by rw [hw]; exact below_set (HB.out) GB40.out : Below w.heap.size w w44)); clear HO_6; clear HO_7; clear HO_8; clear HO_48; clear BK226; clear HB; have HO_6 := n0_; have HO_7 := n1_; have HO_8 := n2_; have HO_48 := n3_; have BK226 := n4_; have HB := n5_; clear n0_ n1_ n2_ n3_ n4_ n5_; clear hg hw hp_)))
                                              go_roundg k3
                                              case measure => have := HJ10.out; have := HK2.out; have := HK3.out; omega
                                              case rel => exact ⟨(y230), (wrap64 (x57_3 + 1)), (by first | rfl | (simp; done) | (simp [*]; done)), H', ⟨by have := HJ10.out; have := HK2.out; have := HK3.out; omega⟩, ⟨by (with_reducible repeat (first | apply Kd.R_alloc | apply Kd.R_drewN | apply Kd.R_drew)); exact HO_6.out⟩, ⟨by (with_reducible repeat (first | apply Kd.R_alloc | apply Kd.R_drewN | apply Kd.R_drew)); exact HO_7.out⟩, ⟨by (with_reducible repeat (first | apply Kd.R_alloc | apply Kd.R_drewN | apply Kd.R_drew)); exact HO_8.out⟩, ⟨by (with_reducible repeat (first | apply Kd.S_alloc | apply Kd.S_drewN | apply Kd.S_drew)); exact Kd.S_mono HO_48.out (fun _ hk => ⟨hk.1.1, ⟨hk.1.2.1, ⟨hk.2, hk.1.2.2⟩⟩⟩)⟩, ⟨by (with_reducible repeat (first | refine blk_drewN ?_ _ | refine blk_drew ?_ | refine blk_alloc ?_ _)); exact BK226.out⟩, ⟨by (with_reducible repeat (first | apply Kd.R_alloc | apply Kd.R_drewN | apply Kd.R_drew)); exact HL55.out⟩, ⟨by repeat (first | (with_reducible first | exact HB.out | apply below_alloc | apply pw_below_drewN | apply below_drew1 | refine below_set ?_ GE226.out) | exact HB.out)⟩⟩
                                            · rw [if_neg c39] at H
                                              exact absurd H (by simp)
                                          · rw [if_neg c38] at H
                                            have c38b0 : ((rd t213 (rd ((rd_T42 t222 x50_2).f0) x57_3)) == ((rd_T42 t222 x50_2).f1)) = false := beq_eq_false_iff_ne.mpr c38
                                            have c38b1 : ((rd t213 (rd ((rd_T42 t222 x50_2).f0) x57_3)) != ((rd_T42 t222 x50_2).f1)) = true := bne_iff_ne.mpr c38
                                            obtain rfl := Option.some.inj H
                                            have p227 : 0 ≤ (x57_3 : Int) := of_decide_eq_true (by first | (with_reducible assumption) | assumption)
                                            have q227 : x57_3 < (((rd_T42 t222 x50_2).f0).length : Int) := of_decide_eq_true (by first | (with_reducible assumption) | assumption)
                                            obtain ⟨ad227, e227, hx227_0⟩ := Kd.at_int (Kd.R_reads' HL55.out).2.2 x57_3 p227 q227
                                            cases e227
                                            skip
                                            replace p227 := eq_true p227
                                            replace q227 := eq_true q227
                                            obtain ⟨Ao45, co45, eo45⟩ := Kd.R_slice HO_8.out
                                            subst eo45
                                            have p228 : 0 ≤ ((rd ((rd_T42 t222 x50_2).f0) x57_3) : Int) := of_decide_eq_true (by first | (with_reducible assumption) | assumption)
                                            have q228 : (rd ((rd_T42 t222 x50_2).f0) x57_3) < (t213.length : Int) := of_decide_eq_true (by first | (with_reducible assumption) | assumption)
                                            obtain ⟨ad228, e228, hx228_0⟩ := Kd.at_int (Kd.R_reads' HO_6.out).2.2 (rd ((rd_T42 t222 x50_2).f0) x57_3) p228 q228
                                            cases e228
                                            replace p228 := eq_true p228
                                            replace q228 := eq_true q228
                                            have hcz46_0 : wr.cell? ⟨gb226, 0, none⟩ = some (.slice (some ad227) ((rd_T42 t222 x50_2).f0).length c225_0) := (blk_cell BK226.out 0).trans rfl
                                            have hcz46_1 : wr.cell? ⟨gb226, 1, none⟩ = some (.int .i64 ((rd_T42 t222 x50_2).f1)) := (blk_cell BK226.out 1).trans rfl
                                            have hcz46_2 : wr.cell? ⟨gb226, 2, none⟩ = some (.int .i64 ((rd_T42 t222 x50_2).f2)) := (blk_cell BK226.out 2).trans rfl
                                            have hcz46_3 : wr.cell? ⟨gb226, 3, none⟩ = some (.int .i64 ((rd_T42 t222 x50_2).f3)) := (blk_cell BK226.out 3).trans rfl
                                            have hfz46_0 := blk_frozen BK226.out 0
                                            have hfz46_1 := blk_frozen BK226.out 1
                                            have hfz46_2 := blk_frozen BK226.out 2
                                            have hfz46_3 := blk_frozen BK226.out 3
                                            go_wp2
                                            repeat (go_quiet (fail); try go_wp2)
                                            go_ret
                                            exact ⟨by first | rfl | (simp [errW_none, errW_some] <;> rfl) | (simp only [← hji6, ← hji7]; first | rfl | (simp [errW_none, errW_some] <;> rfl)) | (simp [*, errW_none, errW_some] <;> rfl), by repeat (first | (with_reducible first | exact HB.out | apply below_alloc | apply pw_below_drewN | apply below_drew1 | refine below_set ?_ GE226.out) | exact HB.out)⟩
                                        · rw [if_neg c37] at H
                                          exact absurd H (by simp)
                                      · rw [if_neg c36] at H
                                        exact absurd H (by simp)
                                · rw [if_neg c32] at H
                                  exact absurd H (by simp)
                              · rw [if_neg c31] at H
                                exact absurd H (by simp)
                            · rw [if_neg c30] at H
                              have c30b0 : decide (x57_3 < (((rd_T42 t222 x50_2).f0).length : Int)) = false := decide_eq_false c30
                              clear c30
                              have H' := Aside0.mk H
                              clear H
                              go_wp2
                              repeat (go_quiet (fail); try go_wp2)
                              go_roundg k3
                              case measure => have := HJ10.out; have := HK2.out; have := HK3.out; omega
                              case rel => exact ⟨(x8_3), (wrap64 (x50_2 + 1)), (by first | rfl | (simp; done) | (simp [*]; done)), H', ⟨by have := HJ10.out; have := HK2.out; have := HK3.out; omega⟩, ⟨by (with_reducible repeat (first | apply Kd.R_alloc | apply Kd.R_drewN | apply Kd.R_drew)); exact HO_6.out⟩, ⟨by (with_reducible repeat (first | apply Kd.R_alloc | apply Kd.R_drewN | apply Kd.R_drew)); exact HO_7.out⟩, ⟨by (with_reducible repeat (first | apply Kd.R_alloc | apply Kd.R_drewN | apply Kd.R_drew)); exact HO_8.out⟩, ⟨by (with_reducible repeat (first | apply Kd.S_alloc | apply Kd.S_drewN | apply Kd.S_drew)); exact Kd.S_mono HO_48.out (fun _ hk => ⟨hk.1, ⟨hk.2.1, hk.2.2.1⟩⟩)⟩, ⟨by repeat (first | (with_reducible first | exact HB.out | apply below_alloc | apply pw_below_drewN | apply below_drew1 | refine below_set ?_ GE226.out) | exact HB.out)⟩⟩
                      · rw [if_neg c27] at H
                        exact absurd H (by simp)
                    · rw [if_neg c26] at H
                      exact absurd H (by simp)
                  · rw [if_neg c25] at H
                    have c25b0 : decide (x50_2 < (t222.length : Int)) = false := decide_eq_false c25
                    clear c25
                    have H' := Aside0.mk H
                    clear H
                    obtain ⟨Ao47, co47, eo47⟩ := Kd.R_slice HO_8.out
                    subst eo47
                    go_wp2
                    repeat (go_quiet (fail); try go_wp2)
                    go_loopg [88] k2 (fun kq v88 w' => ∃ (x88_3 : Int), v88 = .int .i64 x88_3 ∧ Aside0 (naskhlaw23_SeqOnce.l2 kq t214 x8_2 (x8_2.length : Int) x88_3 = some r) ∧ Aside0 (kq ≤ k2) ∧ Aside0 (Kd.R (Kd.int .i64) 3 w' w.heap.size (fun k_ => some k_ ≠ ((.slice Ao47 x8_2.length co47) : Value).ownBlock) (.slice Ao22 t214.length co22) t214) ∧ Aside0 (Kd.R (Kd.int .i64) 3 w' w.heap.size (fun k_ => some k_ ≠ ((.slice Ao22 t214.length co22) : Value).ownBlock) (.slice Ao47 x8_2.length co47) x8_2) ∧ Aside0 (Below w.heap.size w w'))
                    case atStart => exact ⟨(0), (by first | rfl | (simp; done) | (simp [*]; done)), H', ⟨Nat.le_refl _⟩, ⟨by (with_reducible repeat (first | apply Kd.R_alloc | apply Kd.R_drewN | apply Kd.R_drew)); exact Kd.R_mono HO_7.out (fun _ hk => hk.2)⟩, ⟨by (with_reducible repeat (first | apply Kd.R_alloc | apply Kd.R_drewN | apply Kd.R_drew)); exact Kd.R_mono HO_8.out (fun _ hk => hk.2)⟩, ⟨by repeat (first | (with_reducible first | exact HB.out | apply below_alloc | apply pw_below_drewN | apply below_drew1) | exact HB.out)⟩⟩
                    case round =>
                      clear H'
                      try clear c1
                      try clear c2
                      try clear p2
                      try clear q2
                      try clear hx2
                      try clear c3
                      try clear c3b0
                      try clear c3b1
                      try clear p4
                      try clear q4
                      try clear hx4
                      try clear hf4
                      try clear p6
                      try clear c9
                      try clear c9b0
                      try clear c9b1
                      try clear c10
                      try clear c10b0
                      try clear c10b1
                      try clear c15
                      try clear c15b0
                      try clear c15b1
                      try clear c15b2
                      try clear c19
                      try clear c22
                      try clear p22
                      try clear q22
                      try clear hx22
                      try clear c25
                      try clear c25b0
                      try clear c26
                      try clear c26b0
                      try clear c27
                      try clear c27b0
                      try clear c30
                      try clear c30b0
                      try clear c31
                      try clear c31b0
                      try clear c32
                      try clear c32b0
                      try clear c33
                      try clear c33b0
                      try clear c34
                      try clear c34b0
                      try clear c36
                      try clear c36b0
                      try clear c37
                      try clear c37b0
                      try clear c38
                      try clear c38b0
                      try clear c38b1
                      try clear c39
                      try clear c39b0
                      try clear p40
                      try clear q40
                      try clear hx40
                      try clear hf40
                      try clear hcz29_0
                      try clear hcz29_1
                      try clear hcz29_2
                      try clear hcz29_3
                      try clear hcz42_0
                      try clear hcz42_1
                      try clear hcz42_2
                      try clear hcz42_3
                      try clear hcz46_0
                      try clear hcz46_1
                      try clear hcz46_2
                      try clear hcz46_3
                      try clear hfz29_0
                      try clear hfz29_1
                      try clear hfz29_2
                      try clear hfz29_3
                      try clear hfz42_0
                      try clear hfz42_1
                      try clear hfz42_2
                      try clear hfz42_3
                      try clear hfz46_0
                      try clear hfz46_1
                      try clear hfz46_2
                      try clear hfz46_3
                      try clear hx225_0
                      try clear hx225_1
                      try clear hx225_2
                      try clear hx225_3
                      try clear hx227_0
                      try clear hx228_0
                      try clear hx229_0
                      try clear hx40_0
                      try clear p2
                      try clear p22
                      try clear p225
                      try clear p227
                      try clear p228
                      try clear p229
                      try clear p40
                      try clear q2
                      try clear q22
                      try clear q225
                      try clear q227
                      try clear q228
                      try clear q229
                      try clear q40
                      obtain ⟨x88_3, rfl, HA, HK3, HO_7, HO_86, HB⟩ := hrel
                      cases gk with
                      | zero => exact absurd HA.out (by simp [naskhlaw23_SeqOnce.l2])
                      | succ k3 =>
                        have H := HA.out
                        clear HA
                        simp only [naskhlaw23_SeqOnce.l2] at H
                        by_cases c48 : x88_3 < (x8_2.length : Int)
                        · rw [if_pos c48] at H
                          have c48b0 : decide (x88_3 < (x8_2.length : Int)) = true := decide_eq_true c48
                          clear c48
                          by_cases c49 : 0 ≤ x88_3
                          · rw [if_pos c49] at H
                            have c49b0 : decide (0 ≤ x88_3) = true := decide_eq_true c49
                            clear c49
                            by_cases c50 : x88_3 < (x8_2.length : Int)
                            · rw [if_pos c50] at H
                              have c50b0 : decide (x88_3 < (x8_2.length : Int)) = true := decide_eq_true c50
                              clear c50
                              by_cases c51 : x88_3 < (t214.length : Int)
                              · rw [if_pos c51] at H
                                have c51b0 : decide (x88_3 < (t214.length : Int)) = true := decide_eq_true c51
                                clear c51
                                replace H := Option.bind_eq_some_iff.mp H
                                obtain ⟨t234, A520, H⟩ := H
                                replace H : (if t234 = true then (if (rd x8_2 x88_3) = 0 then (naskhlaw23_SeqOnce.l2 k3 t214 x8_2 (x8_2.length : Int) (wrap64 (x88_3 + 1))) else (some false)) else (if (rd x8_2 x88_3) = 1 then (naskhlaw23_SeqOnce.l2 k3 t214 x8_2 (x8_2.length : Int) (wrap64 (x88_3 + 1))) else (some false))) = some r := H
                                have A52 := Aside0.mk A520
                                clear A520
                                by_cases c53 : t234 = true
                                · subst c53
                                  have H1 : (if (rd x8_2 x88_3) = 0 then (naskhlaw23_SeqOnce.l2 k3 t214 x8_2 (x8_2.length : Int) (wrap64 (x88_3 + 1))) else (some false)) = some r := by rw [if_pos rfl] at H; exact H
                                  clear H
                                  have H := H1
                                  clear H1
                                  by_cases c54 : (rd x8_2 x88_3) = 0
                                  · rw [if_pos c54] at H
                                    have c54b0 : ((rd x8_2 x88_3) == 0) = true := beq_iff_eq.mpr c54
                                    have c54b1 : ((rd x8_2 x88_3) != 0) = false := bne_eq_false_iff_eq.mpr c54
                                    clear c54
                                    have H' := Aside0.mk H
                                    clear H
                                    have p232 : 0 ≤ (x88_3 : Int) := of_decide_eq_true (by first | (with_reducible assumption) | assumption)
                                    have q232 : x88_3 < (x8_2.length : Int) := of_decide_eq_true (by first | (with_reducible assumption) | assumption)
                                    obtain ⟨ad232, e232, hx232_0⟩ := Kd.at_int (Kd.R_reads' HO_86.out).2.2 x88_3 p232 q232
                                    cases e232
                                    replace p232 := eq_true p232
                                    replace q232 := eq_true q232
                                    have p233 : 0 ≤ (x88_3 : Int) := of_decide_eq_true (by first | (with_reducible assumption) | assumption)
                                    have q233 : x88_3 < (t214.length : Int) := of_decide_eq_true (by first | (with_reducible assumption) | assumption)
                                    obtain ⟨ad233, e233, hx233_0⟩ := Kd.at_int (Kd.R_reads' HO_7.out).2.2 x88_3 p233 q233
                                    cases e233
                                    replace p233 := eq_true p233
                                    replace q233 := eq_true q233
                                    go_wp2_with (first | (go_at_call 23; (with_reducible refine (naskhref22_Left.calls (rd t214 x88_3) true _ A52.out).mono ?_); rintro e w' ⟨rfl, ⟨nd, rfl⟩⟩; (try first | exact ⟨rfl, _, World.drewN_drewN _ _ _⟩ | exact ⟨rfl, _, Eq.trans (World.drewN_drewN _ _ _) (congrArg (World.drewN _) (Nat.add_assoc _ _ _))⟩)))
                                    repeat (go_quiet (first | (go_at_call 23; (with_reducible refine (naskhref22_Left.calls (rd t214 x88_3) true _ A52.out).mono ?_); rintro e w' ⟨rfl, ⟨nd, rfl⟩⟩; (try first | exact ⟨rfl, _, World.drewN_drewN _ _ _⟩ | exact ⟨rfl, _, Eq.trans (World.drewN_drewN _ _ _) (congrArg (World.drewN _) (Nat.add_assoc _ _ _))⟩))); try go_wp2_with (first | (go_at_call 23; (with_reducible refine (naskhref22_Left.calls (rd t214 x88_3) true _ A52.out).mono ?_); rintro e w' ⟨rfl, ⟨nd, rfl⟩⟩; (try first | exact ⟨rfl, _, World.drewN_drewN _ _ _⟩ | exact ⟨rfl, _, Eq.trans (World.drewN_drewN _ _ _) (congrArg (World.drewN _) (Nat.add_assoc _ _ _))⟩))))
                                    go_roundg k3
                                    case measure => have := HJ10.out; have := HK2.out; have := HK3.out; omega
                                    case rel => exact ⟨(wrap64 (x88_3 + 1)), (by first | rfl | (simp; done) | (simp [*]; done)), H', ⟨by have := HJ10.out; have := HK2.out; have := HK3.out; omega⟩, ⟨by (with_reducible repeat (first | apply Kd.R_alloc | apply Kd.R_drewN | apply Kd.R_drew)); exact HO_7.out⟩, ⟨by (with_reducible repeat (first | apply Kd.R_alloc | apply Kd.R_drewN | apply Kd.R_drew)); exact HO_86.out⟩, ⟨by repeat (first | (with_reducible first | exact HB.out | apply below_alloc | apply pw_below_drewN | apply below_drew1) | exact HB.out)⟩⟩
                                  · rw [if_neg c54] at H
                                    have c54b0 : ((rd x8_2 x88_3) == 0) = false := beq_eq_false_iff_ne.mpr c54
                                    have c54b1 : ((rd x8_2 x88_3) != 0) = true := bne_iff_ne.mpr c54
                                    obtain rfl := Option.some.inj H
                                    have p232 : 0 ≤ (x88_3 : Int) := of_decide_eq_true (by first | (with_reducible assumption) | assumption)
                                    have q232 : x88_3 < (x8_2.length : Int) := of_decide_eq_true (by first | (with_reducible assumption) | assumption)
                                    obtain ⟨ad232, e232, hx232_0⟩ := Kd.at_int (Kd.R_reads' HO_86.out).2.2 x88_3 p232 q232
                                    cases e232
                                    replace p232 := eq_true p232
                                    replace q232 := eq_true q232
                                    have p233 : 0 ≤ (x88_3 : Int) := of_decide_eq_true (by first | (with_reducible assumption) | assumption)
                                    have q233 : x88_3 < (t214.length : Int) := of_decide_eq_true (by first | (with_reducible assumption) | assumption)
                                    obtain ⟨ad233, e233, hx233_0⟩ := Kd.at_int (Kd.R_reads' HO_7.out).2.2 x88_3 p233 q233
                                    cases e233
                                    replace p233 := eq_true p233
                                    replace q233 := eq_true q233
                                    go_wp2_with (first | (go_at_call 23; (with_reducible refine (naskhref22_Left.calls (rd t214 x88_3) true _ A52.out).mono ?_); rintro e w' ⟨rfl, ⟨nd, rfl⟩⟩; (try first | exact ⟨rfl, _, World.drewN_drewN _ _ _⟩ | exact ⟨rfl, _, Eq.trans (World.drewN_drewN _ _ _) (congrArg (World.drewN _) (Nat.add_assoc _ _ _))⟩)))
                                    repeat (go_quiet (first | (go_at_call 23; (with_reducible refine (naskhref22_Left.calls (rd t214 x88_3) true _ A52.out).mono ?_); rintro e w' ⟨rfl, ⟨nd, rfl⟩⟩; (try first | exact ⟨rfl, _, World.drewN_drewN _ _ _⟩ | exact ⟨rfl, _, Eq.trans (World.drewN_drewN _ _ _) (congrArg (World.drewN _) (Nat.add_assoc _ _ _))⟩))); try go_wp2_with (first | (go_at_call 23; (with_reducible refine (naskhref22_Left.calls (rd t214 x88_3) true _ A52.out).mono ?_); rintro e w' ⟨rfl, ⟨nd, rfl⟩⟩; (try first | exact ⟨rfl, _, World.drewN_drewN _ _ _⟩ | exact ⟨rfl, _, Eq.trans (World.drewN_drewN _ _ _) (congrArg (World.drewN _) (Nat.add_assoc _ _ _))⟩))))
                                    go_ret
                                    exact ⟨by first | rfl | (simp [errW_none, errW_some] <;> rfl) | (simp only [← hji6, ← hji7]; first | rfl | (simp [errW_none, errW_some] <;> rfl)) | (simp [*, errW_none, errW_some] <;> rfl), by repeat (first | (with_reducible first | exact HB.out | apply below_alloc | apply pw_below_drewN | apply below_drew1) | exact HB.out)⟩
                                · replace c53 := Bool.eq_false_iff.mpr c53
                                  subst c53
                                  have H1 : (if (rd x8_2 x88_3) = 1 then (naskhlaw23_SeqOnce.l2 k3 t214 x8_2 (x8_2.length : Int) (wrap64 (x88_3 + 1))) else (some false)) = some r := by rw [if_neg (show ¬ (false = true) by decide)] at H; exact H
                                  clear H
                                  have H := H1
                                  clear H1
                                  by_cases c55 : (rd x8_2 x88_3) = 1
                                  · rw [if_pos c55] at H
                                    have c55b0 : ((rd x8_2 x88_3) == 1) = true := beq_iff_eq.mpr c55
                                    have c55b1 : ((rd x8_2 x88_3) != 1) = false := bne_eq_false_iff_eq.mpr c55
                                    clear c55
                                    have H' := Aside0.mk H
                                    clear H
                                    have p232 : 0 ≤ (x88_3 : Int) := of_decide_eq_true (by first | (with_reducible assumption) | assumption)
                                    have q232 : x88_3 < (x8_2.length : Int) := of_decide_eq_true (by first | (with_reducible assumption) | assumption)
                                    obtain ⟨ad232, e232, hx232_0⟩ := Kd.at_int (Kd.R_reads' HO_86.out).2.2 x88_3 p232 q232
                                    cases e232
                                    replace p232 := eq_true p232
                                    replace q232 := eq_true q232
                                    have p233 : 0 ≤ (x88_3 : Int) := of_decide_eq_true (by first | (with_reducible assumption) | assumption)
                                    have q233 : x88_3 < (t214.length : Int) := of_decide_eq_true (by first | (with_reducible assumption) | assumption)
                                    obtain ⟨ad233, e233, hx233_0⟩ := Kd.at_int (Kd.R_reads' HO_7.out).2.2 x88_3 p233 q233
                                    cases e233
                                    replace p233 := eq_true p233
                                    replace q233 := eq_true q233
                                    go_wp2_with (first | (go_at_call 23; (with_reducible refine (naskhref22_Left.calls (rd t214 x88_3) false _ A52.out).mono ?_); rintro e w' ⟨rfl, ⟨nd, rfl⟩⟩; (try first | exact ⟨rfl, _, World.drewN_drewN _ _ _⟩ | exact ⟨rfl, _, Eq.trans (World.drewN_drewN _ _ _) (congrArg (World.drewN _) (Nat.add_assoc _ _ _))⟩)))
                                    repeat (go_quiet (first | (go_at_call 23; (with_reducible refine (naskhref22_Left.calls (rd t214 x88_3) false _ A52.out).mono ?_); rintro e w' ⟨rfl, ⟨nd, rfl⟩⟩; (try first | exact ⟨rfl, _, World.drewN_drewN _ _ _⟩ | exact ⟨rfl, _, Eq.trans (World.drewN_drewN _ _ _) (congrArg (World.drewN _) (Nat.add_assoc _ _ _))⟩))); try go_wp2_with (first | (go_at_call 23; (with_reducible refine (naskhref22_Left.calls (rd t214 x88_3) false _ A52.out).mono ?_); rintro e w' ⟨rfl, ⟨nd, rfl⟩⟩; (try first | exact ⟨rfl, _, World.drewN_drewN _ _ _⟩ | exact ⟨rfl, _, Eq.trans (World.drewN_drewN _ _ _) (congrArg (World.drewN _) (Nat.add_assoc _ _ _))⟩))))
                                    go_roundg k3
                                    case measure => have := HJ10.out; have := HK2.out; have := HK3.out; omega
                                    case rel => exact ⟨(wrap64 (x88_3 + 1)), (by first | rfl | (simp; done) | (simp [*]; done)), H', ⟨by have := HJ10.out; have := HK2.out; have := HK3.out; omega⟩, ⟨by (with_reducible repeat (first | apply Kd.R_alloc | apply Kd.R_drewN | apply Kd.R_drew)); exact HO_7.out⟩, ⟨by (with_reducible repeat (first | apply Kd.R_alloc | apply Kd.R_drewN | apply Kd.R_drew)); exact HO_86.out⟩, ⟨by repeat (first | (with_reducible first | exact HB.out | apply below_alloc | apply pw_below_drewN | apply below_drew1) | exact HB.out)⟩⟩
                                  · rw [if_neg c55] at H
                                    have c55b0 : ((rd x8_2 x88_3) == 1) = false := beq_eq_false_iff_ne.mpr c55
                                    have c55b1 : ((rd x8_2 x88_3) != 1) = true := bne_iff_ne.mpr c55
                                    obtain rfl := Option.some.inj H
                                    have p232 : 0 ≤ (x88_3 : Int) := of_decide_eq_true (by first | (with_reducible assumption) | assumption)
                                    have q232 : x88_3 < (x8_2.length : Int) := of_decide_eq_true (by first | (with_reducible assumption) | assumption)
                                    obtain ⟨ad232, e232, hx232_0⟩ := Kd.at_int (Kd.R_reads' HO_86.out).2.2 x88_3 p232 q232
                                    cases e232
                                    replace p232 := eq_true p232
                                    replace q232 := eq_true q232
                                    have p233 : 0 ≤ (x88_3 : Int) := of_decide_eq_true (by first | (with_reducible assumption) | assumption)
                                    have q233 : x88_3 < (t214.length : Int) := of_decide_eq_true (by first | (with_reducible assumption) | assumption)
                                    obtain ⟨ad233, e233, hx233_0⟩ := Kd.at_int (Kd.R_reads' HO_7.out).2.2 x88_3 p233 q233
                                    cases e233
                                    replace p233 := eq_true p233
                                    replace q233 := eq_true q233
                                    go_wp2_with (first | (go_at_call 23; (with_reducible refine (naskhref22_Left.calls (rd t214 x88_3) false _ A52.out).mono ?_); rintro e w' ⟨rfl, ⟨nd, rfl⟩⟩; (try first | exact ⟨rfl, _, World.drewN_drewN _ _ _⟩ | exact ⟨rfl, _, Eq.trans (World.drewN_drewN _ _ _) (congrArg (World.drewN _) (Nat.add_assoc _ _ _))⟩)))
                                    repeat (go_quiet (first | (go_at_call 23; (with_reducible refine (naskhref22_Left.calls (rd t214 x88_3) false _ A52.out).mono ?_); rintro e w' ⟨rfl, ⟨nd, rfl⟩⟩; (try first | exact ⟨rfl, _, World.drewN_drewN _ _ _⟩ | exact ⟨rfl, _, Eq.trans (World.drewN_drewN _ _ _) (congrArg (World.drewN _) (Nat.add_assoc _ _ _))⟩))); try go_wp2_with (first | (go_at_call 23; (with_reducible refine (naskhref22_Left.calls (rd t214 x88_3) false _ A52.out).mono ?_); rintro e w' ⟨rfl, ⟨nd, rfl⟩⟩; (try first | exact ⟨rfl, _, World.drewN_drewN _ _ _⟩ | exact ⟨rfl, _, Eq.trans (World.drewN_drewN _ _ _) (congrArg (World.drewN _) (Nat.add_assoc _ _ _))⟩))))
                                    go_ret
                                    exact ⟨by first | rfl | (simp [errW_none, errW_some] <;> rfl) | (simp only [← hji6, ← hji7]; first | rfl | (simp [errW_none, errW_some] <;> rfl)) | (simp [*, errW_none, errW_some] <;> rfl), by repeat (first | (with_reducible first | exact HB.out | apply below_alloc | apply pw_below_drewN | apply below_drew1) | exact HB.out)⟩
                              · rw [if_neg c51] at H
                                exact absurd H (by simp)
                            · rw [if_neg c50] at H
                              exact absurd H (by simp)
                          · rw [if_neg c49] at H
                            exact absurd H (by simp)
                        · rw [if_neg c48] at H
                          have c48b0 : decide (x88_3 < (x8_2.length : Int)) = false := decide_eq_false c48
                          clear c48
                          replace H := Option.bind_eq_some_iff.mp H
                          obtain ⟨t231, A560, H⟩ := H
                          replace H : (some t231) = some r := H
                          have A56 := Aside0.mk A560
                          clear A560
                          obtain rfl := Option.some.inj H
                          go_wp2_with (first | (go_at_call 10; (with_reducible refine (naskhlaw23_awake.calls k3  t231 _ A56.out).mono ?_); rintro e w57 ⟨rfl, hb⟩; have n0_ := Aside0.mk (Kd.R_below (by (with_reducible repeat (first | apply Kd.R_alloc | apply Kd.R_drewN | apply Kd.R_drew)); exact HO_7.out) hb); have n1_ := Aside0.mk (Kd.R_below (by (with_reducible repeat (first | apply Kd.R_alloc | apply Kd.R_drewN | apply Kd.R_drew)); exact HO_86.out) hb); have n2_ := Aside0.mk (below_step (by repeat (first | (with_reducible first | exact HB.out | apply below_alloc | apply pw_below_drewN | apply below_drew1) | exact HB.out)) hb); clear HO_7; clear HO_86; clear HB; have HO_7 := n0_; have HO_86 := n1_; have HB := n2_; clear n0_ n1_ n2_; (try clear hb); (try clear hb2); (try clear hk); (try clear hi)))
                          repeat (go_quiet (first | (go_at_call 10; (with_reducible refine (naskhlaw23_awake.calls k3  t231 _ A56.out).mono ?_); rintro e w57 ⟨rfl, hb⟩; have n0_ := Aside0.mk (Kd.R_below (by (with_reducible repeat (first | apply Kd.R_alloc | apply Kd.R_drewN | apply Kd.R_drew)); exact HO_7.out) hb); have n1_ := Aside0.mk (Kd.R_below (by (with_reducible repeat (first | apply Kd.R_alloc | apply Kd.R_drewN | apply Kd.R_drew)); exact HO_86.out) hb); have n2_ := Aside0.mk (below_step (by repeat (first | (with_reducible first | exact HB.out | apply below_alloc | apply pw_below_drewN | apply below_drew1) | exact HB.out)) hb); clear HO_7; clear HO_86; clear HB; have HO_7 := n0_; have HO_86 := n1_; have HB := n2_; clear n0_ n1_ n2_; (try clear hb); (try clear hb2); (try clear hk); (try clear hi))); try go_wp2_with (first | (go_at_call 10; (with_reducible refine (naskhlaw23_awake.calls k3  t231 _ A56.out).mono ?_); rintro e w57 ⟨rfl, hb⟩; have n0_ := Aside0.mk (Kd.R_below (by (with_reducible repeat (first | apply Kd.R_alloc | apply Kd.R_drewN | apply Kd.R_drew)); exact HO_7.out) hb); have n1_ := Aside0.mk (Kd.R_below (by (with_reducible repeat (first | apply Kd.R_alloc | apply Kd.R_drewN | apply Kd.R_drew)); exact HO_86.out) hb); have n2_ := Aside0.mk (below_step (by repeat (first | (with_reducible first | exact HB.out | apply below_alloc | apply pw_below_drewN | apply below_drew1) | exact HB.out)) hb); clear HO_7; clear HO_86; clear HB; have HO_7 := n0_; have HO_86 := n1_; have HB := n2_; clear n0_ n1_ n2_; (try clear hb); (try clear hb2); (try clear hk); (try clear hi))))
                          go_ret
                          exact ⟨by first | rfl | (simp [errW_none, errW_some] <;> rfl) | (simp only [← hji6, ← hji7]; first | rfl | (simp [errW_none, errW_some] <;> rfl)) | (simp [*, errW_none, errW_some] <;> rfl), by repeat (first | (with_reducible first | exact HB.out | apply below_alloc | apply pw_below_drewN | apply below_drew1) | exact HB.out)⟩
      · rw [if_neg c10] at H
        exact absurd H (by simp)
    · rw [if_neg c9] at H
      exact absurd H (by simp)
def naskhlaw23_SeqOnce.Pure : Prop := ∀ (l0 : List Int) (a1 : Int), l0.length ≤ maxLen → l0.length * 8 ≤ 140737488351232 → (∀ x ∈ l0, (Lit.int .i64 x).wf = true) → (Lit.int .i64 a1).wf = true → ∃ k, naskhlaw23_SeqOnce.f k l0 a1 = some true
theorem naskhlaw23_SeqOnce.walk (P : naskhlaw23_SeqOnce.Pure) (a0 : Option Addr) (len0 cap0 : Nat) (z0 : List Int) (a1 : Int) (w : World) (w0 : (a0 = none ∧ len0 = 0 ∧ cap0 = 0 ∧ z0 = []) ∨ ∃ x, a0 = some x ∧ len0 ≤ cap0 ∧ cap0 ≤ maxLen ∧ z0.length = cap0 ∧ (∀ i, i < z0.length → w.cell? (x.add i) = some (.int .i64 (z0.getD i 0))) ∧ ∀ n ∈ z0, (Lit.int .i64 n).wf = true) (y0 : len0 * 8 ≤ 140737488351232) (w1 : (Lit.int .i64 a1).wf = true) :
    Calls Try.prog 9 #[.slice a0 len0 cap0, .int .i64 a1] w fun e w' => e = .returned (.bool true) ∧ Below w.heap.size w w' := by
  obtain ⟨l0, rfl, hr0, hm0, hw0, hc0⟩ := ReadsInt.ofRowC w0
  obtain ⟨k, h⟩ := P l0 a1 hm0 y0 hw0 w1
  refine (naskhlaw23_SeqOnce.calls k _ _ l0 a1 true w (Kd.C_of_reads (d := (0 : Int)) (h1 := fun _ => rfl) hr0) hc0 h).mono ?_
  rintro e w' ⟨rfl, hd⟩
  exact ⟨rfl, hd⟩
end Go.Proofs.Ytbkdaafphcfpdaa.PSeqOnce
