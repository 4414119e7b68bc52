import Derived.Test.YtbkdaafphcfpdaaPSeqTellsx0
import Derived.Test.YtbkdaafphcfpdaaPSeqTellsx1
import Derived.Test.YtbkdaafphcfpdaaPSeqTellsx2
namespace Go.Proofs.Ytbkdaafphcfpdaa.PSeqTells
open Go.RowKit Go.Proofs.YtbkdaafphcfpdaaM Go.Proofs.YtbkdaafphcfpdaaW.PrintWords Go.Proofs.YtbkdaafphcfpdaaW.PrintLast Go.Proofs.YtbkdaafphcfpdaaW.PrintMore
attribute [local go_sem] max2_int min2_int max_two min_two max_three min_three max_four min_four   -- for this text's walks alone
set_option linter.unusedVariables false
set_option linter.unusedSimpArgs false
def para_opens.f (k : Nat) (a0 : Int) : Option (Bool) := (slices_Contains_int_int.f k (([19, 20, 21] : List Int)) a0).bind fun t148 => (some t148)
theorem para_opens.mono : ∀ a0 k, LeO (para_opens.f k a0) (para_opens.f (k + 1) a0) := by
  intro a0 k
  unfold para_opens.f
  repeat' first
      | (with_reducible exact slices_Contains_int_int.mono _ _ _)
      | (with_reducible exact LeO.refl _)
      | (with_reducible exact LeO.none _)
      | (with_reducible refine LeO.ite ?_ ?_)
      | (with_reducible refine LeO.bind ?_ (fun _ => ?_))
      | exact slices_Contains_int_int.mono _ _ _
      | exact LeO.none _
      | refine LeO.ite ?_ ?_
      | refine LeO.bind ?_ (fun _ => ?_)
set_option maxHeartbeats 8000000 in
set_option maxRecDepth 100000 in
theorem para_opens.calls (k : Nat) (a0 : Int) (r : Bool) (w : World) (h : para_opens.f k a0 = some r) :
    Calls Try.prog 57 #[.int .i64 a0] w fun e w' => e = .returned (.bool r) ∧ Below w.heap.size w w' := by
  have HB := Aside0.mk (Below.refl w.heap.size w)
  have H : ((slices_Contains_int_int.f k (([19, 20, 21] : List Int)) a0).bind fun t148 => (some t148)) = some r := h
  clear h
  obtain ⟨y145, hy145⟩ : ∃ y_ : List Int, y_ = (([19, 20, 21] : List Int)) := ⟨_, rfl⟩
  replace H : ((slices_Contains_int_int.f k y145 a0).bind fun t148 => (some t148)) = some r := by first | (rw [hy145]; with_reducible exact H) | (have H2_ := (Option.bind_some _ _).symm.trans H; rw [hy145]; with_reducible exact H2_) | (have H2_ := (Option.bind_some _ _).symm.trans H; with_reducible exact H2_) | with_reducible exact H | (rw [hy145]; exact H) | exact H
  have Ny145 := Aside0.mk hy145
  clear hy145
  replace H := Option.bind_eq_some_iff.mp H
  obtain ⟨t148, A20, H⟩ := H
  replace H : (some t148) = some r := H
  have A2 := Aside0.mk A20
  clear A20
  obtain rfl := Option.some.inj H
  go_enter Try.func57, Try.ntmps57
  go_wp2_with (first | ((with_reducible refine gate_dst (N := 3) rfl ?_); refine Kd.R_lit (Kd.int .i64) _ 3 ?hg (N := 3) ?hd (xs := ([19, 20, 21] : List Int)) (inner := [.int .i64 19, .int .i64 20, .int .i64 21]) (ok := fun _ => True) (okp := fun _ => True) ?hr ?hp (fun _ hk => hk) trivial (Below.refl _ _) (Nat.le_refl _) (by simp) ?_; (case hd => rfl); (case hg => rfl); (case hr => first | (go_simp; done) | (go_simp; rfl)); (case hp => exact (Reps.one (show Kd.M (Kd.int .i64) _ _ _ 19 [.int .i64 19] from rfl) (Reps.one (show Kd.M (Kd.int .i64) _ _ _ 20 [.int .i64 20] from rfl) (Reps.one (show Kd.M (Kd.int .i64) _ _ _ 21 [.int .i64 21] from rfl) (Reps.none _ _))))); intro v146 w3 ho4 hb hg_ hnew_; clear hg_ hnew_; (first | rw [← Ny145.out] at ho4 | (simp only [Int.reduceToNat] at ho4; rw [← Ny145.out] at ho4)); have n0_ := Aside0.mk (Kd.R_lower ho4 (below_size (by repeat (first | (with_reducible first | exact HB.out | apply below_alloc | apply pw_below_drewN | apply below_drew1) | exact HB.out)))); have n1_ := Aside0.mk (below_step (by repeat (first | (with_reducible first | exact HB.out | apply below_alloc | apply pw_below_drewN | apply below_drew1) | exact HB.out)) hb); clear HB; have HO147 := n0_; have HB := n1_; clear n0_ n1_; clear hb ho4; obtain ⟨Ao5, co5, eo5⟩ := Kd.R_slice HO147.out; subst eo5) | ((with_reducible refine gate_callee (f := 67) rfl ?_); refine goesL_ (some 5) rfl rfl Try.func67 (by kernel_rfl) rfl #[.slice Ao5 y145.length co5, .int .i64 a0] rfl (by (try simp only [List.map_toArray, List.map_cons, List.map_nil]); first | done | rfl | (simp only [List.length_drop, List.length_take]; rfl)) ?_; (with_reducible refine (slices_Contains_int_int.calls k _ _ y145 a0 t148 _ ?side1 ?side2 A2.out).mono ?_); (case side1 => repeat (first | exact (Kd.R_reads' HO147.out).2.2 | (with_reducible refine Kd.C_alloc ?_ _) | (with_reducible refine Kd.C_drewN ?_ _) | (with_reducible refine Kd.C_drew ?_))); (case side2 => exact (Kd.R_reads' HO147.out).2.1); rintro e w' ⟨rfl, ⟨nd, rfl⟩⟩; refine ⟨_, rfl, ?_⟩))
  go_ret
  exact ⟨by first | rfl | (simp [errW_none, errW_some] <;> rfl) | (simp [*, errW_none, errW_some] <;> rfl), by repeat (first | (with_reducible first | exact HB.out | apply below_alloc | apply pw_below_drewN | apply below_drew1) | exact HB.out)⟩
def para_Matches.l0 : Nat → List Int → List Int → List Int → List Int → Int → Int → Option (List Int)
  | 0, _, _, _, _, _, _ => none
  | k + 1, x0, x3, x4, x12, x13, x14 => if x14 < x13 then (if 0 ≤ x14 then (if x14 < (x12.length : Int) then ((para_opens.f k (rd x12 x14)).bind fun t156 => (if t156 = true then (if x4.length < 17592186044416 then (if x14 < (x3.length : Int) then (para_Matches.l0 k x0 (x3.set (x14 : Int).toNat (x0.length : Int)) (x4 ++ [x14]) x12 x13 (wrap64 (x14 + 1))) else (none)) else (none)) else (if (rd x12 x14) = 22 then (if (x4.length : Int) > 0 then (if 0 ≤ (wrap64 ((x4.length : Int) - 1)) then (if (wrap64 ((x4.length : Int) - 1)) < (x4.length : Int) then (if (wrap64 ((x4.length : Int) - 1)) ≤ (x4.length : Int) then (if 0 ≤ (rd x4 (wrap64 ((x4.length : Int) - 1))) then (if (rd x4 (wrap64 ((x4.length : Int) - 1))) < (x3.length : Int) then (if x14 < (x3.length : Int) then (para_Matches.l0 k x0 ((x3.set ((rd x4 (wrap64 ((x4.length : Int) - 1))) : Int).toNat x14).set (x14 : Int).toNat (rd x4 (wrap64 ((x4.length : Int) - 1)))) (x4.take ((wrap64 ((x4.length : Int) - 1)) : Int).toNat) x12 x13 (wrap64 (x14 + 1))) else (none)) else (none)) else (none)) else (none)) else (none)) else (none)) else (para_Matches.l0 k x0 x3 x4 x12 x13 (wrap64 (x14 + 1)))) else (para_Matches.l0 k x0 x3 x4 x12 x13 (wrap64 (x14 + 1)))))) else (none)) else (none)) else (some x3)
def para_Matches.f (k : Nat) (l0 : List Int) : Option (List Int) := (slices_Repeat_int_int.f (([(-1)] : List Int)) (l0.length : Int)).bind fun t152 => (para_Matches.l0 k l0 t152 ([] : List Int) l0 (l0.length : Int) 0)
theorem para_Matches.mono_l : ∀ k, (∀ y0 y1 y2 y3 y4 y5, LeO (para_Matches.l0 k y0 y1 y2 y3 y4 y5) (para_Matches.l0 (k + 1) y0 y1 y2 y3 y4 y5))
  | 0 => fun _ _ _ _ _ _ r h => by simp [para_Matches.l0] at h
  | k + 1 => by
    have ih0 := para_Matches.mono_l k
    · intro y0 y1 y2 y3 y4 y5
      unfold para_Matches.l0
      repeat' first
      | (with_reducible exact ih0 _ _ _ _ _ _)
      | (with_reducible exact para_opens.mono _ _)
      | (with_reducible exact LeO.refl _)
      | (with_reducible exact LeO.none _)
      | (with_reducible refine LeO.ite ?_ ?_)
      | (with_reducible refine LeO.bind ?_ (fun _ => ?_))
      | exact ih0 _ _ _ _ _ _
      | exact para_opens.mono _ _
      | exact LeO.none _
      | refine LeO.ite ?_ ?_
      | refine LeO.bind ?_ (fun _ => ?_)
theorem para_Matches.mono : ∀ a0 k, LeO (para_Matches.f k a0) (para_Matches.f (k + 1) a0) := by
  intro a0 k
  have ih0 := para_Matches.mono_l k
  unfold para_Matches.f
  repeat' first
      | (with_reducible exact ih0 _ _ _ _ _ _)
      | (with_reducible exact para_opens.mono _ _)
      | (with_reducible exact LeO.refl _)
      | (with_reducible exact LeO.none _)
      | (with_reducible refine LeO.ite ?_ ?_)
      | (with_reducible refine LeO.bind ?_ (fun _ => ?_))
      | exact ih0 _ _ _ _ _ _
      | exact para_opens.mono _ _
      | exact LeO.none _
      | refine LeO.ite ?_ ?_
      | refine LeO.bind ?_ (fun _ => ?_)
set_option maxHeartbeats 8000000 in
set_option maxRecDepth 100000 in
theorem para_Matches.calls (k : Nat) (A0 : Option Addr) (c0 : Nat) (l0 : List Int) (r : List Int) (w : World) (hr0 : Kd.C (Kd.int .i64) w A0 l0.length l0) (hc0 : l0.length ≤ c0) (h : para_Matches.f k l0 = some r) :
    Calls Try.prog 45 #[.slice A0 l0.length c0] w fun e w' => ∃ v0_ : Value, e = .returned (v0_) ∧ Kd.R (Kd.int .i64) 3 w' w.heap.size (fun _ => True) v0_ r ∧ Below w.heap.size w w' := by
  have HR0 := Aside0.mk hr0
  have HC0 := Aside0.mk hc0
  clear hr0 hc0
  have HB := Aside0.mk (Below.refl w.heap.size w)
  have H : ((slices_Repeat_int_int.f (([(-1)] : List Int)) (l0.length : Int)).bind fun t152 => (para_Matches.l0 k l0 t152 ([] : List Int) l0 (l0.length : Int) 0)) = some r := h
  clear h
  obtain ⟨y149, hy149⟩ : ∃ y_ : List Int, y_ = (([(-1)] : List Int)) := ⟨_, rfl⟩
  replace H : ((slices_Repeat_int_int.f y149 (l0.length : Int)).bind fun t152 => (para_Matches.l0 k l0 t152 ([] : List Int) l0 (l0.length : Int) 0)) = some r := by first | (rw [hy149]; with_reducible exact H) | (have H2_ := (Option.bind_some _ _).symm.trans H; rw [hy149]; with_reducible exact H2_) | (have H2_ := (Option.bind_some _ _).symm.trans H; with_reducible exact H2_) | with_reducible exact H | (rw [hy149]; exact H) | exact H
  have Ny149 := Aside0.mk hy149
  clear hy149
  replace H := Option.bind_eq_some_iff.mp H
  obtain ⟨t152, A20, H⟩ := H
  replace H : (para_Matches.l0 k l0 t152 ([] : List Int) l0 (l0.length : Int) 0) = some r := H
  have A2 := Aside0.mk A20
  clear A20
  have H' := Aside0.mk H
  clear H
  go_enter Try.func45, Try.ntmps45
  go_wp2_with (first | ((with_reducible refine gate_dst (N := 8) rfl ?_); (try (refine gate_guard (by rfl) ?_; dsimp only)); refine Kd.R_lit (Kd.int .i64) _ 3 ?hg (N := 8) ?hd (xs := ([(-1)] : List Int)) (inner := [.int .i64 (-1)]) (ok := fun _ => True) (okp := fun _ => True) ?hr ?hp (fun _ hk => hk) trivial (Below.refl _ _) (Nat.le_refl _) (by simp) ?_; (case hd => rfl); (case hg => rfl); (case hr => first | (go_simp; done) | (go_simp; rfl)); (case hp => exact (Reps.one (show Kd.M (Kd.int .i64) _ _ _ (-1) [.int .i64 (-1)] from rfl) (Reps.none _ _))); intro v150 w3 ho4 hb hg_ hnew_; clear hg_ hnew_; (first | rw [← Ny149.out] at ho4 | (simp only [Int.reduceToNat] at ho4; rw [← Ny149.out] at ho4)); have n0_ := Aside0.mk (Kd.R_lower ho4 (below_size (by repeat (first | (with_reducible first | exact HB.out | apply below_alloc | apply pw_below_drewN | apply below_drew1) | exact HB.out)))); have n1_ := Aside0.mk (below_step (by repeat (first | (with_reducible first | exact HB.out | apply below_alloc | apply pw_below_drewN | apply below_drew1) | exact HB.out)) hb); clear HB; have HO151 := n0_; have HB := n1_; clear n0_ n1_; clear hb ho4; obtain ⟨Ao5, co5, eo5⟩ := Kd.R_slice HO151.out; subst eo5) | ((with_reducible refine gate_callee (f := 56) rfl ?_); refine goesL_ (some 11) rfl rfl Try.func56 (by kernel_rfl) rfl #[.slice Ao5 y149.length co5, .int .i64 (l0.length : Int)] rfl (by (try simp only [List.map_toArray, List.map_cons, List.map_nil]); first | done | rfl | (simp only [List.length_drop, List.length_take]; rfl)) ?_; (with_reducible refine (slices_Repeat_int_int.calls _ _ y149 (l0.length : Int) t152 _ ?side1 ?side2 A2.out).mono ?_); (case side1 => repeat (first | exact (Kd.R_reads' HO151.out).2.2 | (with_reducible refine Kd.C_alloc ?_ _) | (with_reducible refine Kd.C_drewN ?_ _) | (with_reducible refine Kd.C_drew ?_))); (case side2 => exact (Kd.R_reads' HO151.out).2.1); rintro e w6 ⟨v153, rfl, ho0, hb⟩; refine ⟨_, rfl, ?_⟩; have n0_ := Aside0.mk (Kd.R_elder' (by (with_reducible repeat (first | apply Kd.R_alloc | apply Kd.R_drewN | apply Kd.R_drew)); exact HO151.out) (Kd.R_base ho0) hb); have n1_ := Aside0.mk (Kd.R_lower (Kd.R_new' ho0 (Kd.R_lt (by (with_reducible repeat (first | apply Kd.R_alloc | apply Kd.R_drewN | apply Kd.R_drew)); exact HO151.out))) (below_size (by repeat (first | (with_reducible first | exact HB.out | apply below_alloc | apply pw_below_drewN | apply below_drew1) | exact HB.out)))); have n2_ := Aside0.mk (below_step (by repeat (first | (with_reducible first | exact HB.out | apply below_alloc | apply pw_below_drewN | apply below_drew1) | exact HB.out)) hb); clear HO151; clear HB; have HO151 := n0_; have HO154 := n1_; have HB := n2_; clear n0_ n1_ n2_; (try clear hb); (try clear hb2); (try clear hk); (try clear hi); (try clear ho0)))
  go_loopg [4, 14] k (fun kq v4 v14 w' => ∃ (x3_1 : List Int) (x4_1 : List Int) (x14_1 : Int), v14 = .int .i64 x14_1 ∧ Aside0 (para_Matches.l0 kq l0 x3_1 x4_1 l0 (l0.length : Int) x14_1 = some r) ∧ Aside0 (kq ≤ k) ∧ Aside0 (Kd.R (Kd.int .i64) 3 w' w.heap.size (fun k_ => some k_ ≠ (v4 : Value).ownBlock) v153 x3_1) ∧ Aside0 (Kd.R (Kd.int .i64) 3 w' w.heap.size (fun k_ => some k_ ≠ (v153 : Value).ownBlock) v4 x4_1) ∧ Aside0 (Below w.heap.size w w'))
  case atStart => exact ⟨(t152), (([] : List Int)), (0), (by first | rfl | (simp; done) | (simp [*]; done)), H', ⟨Nat.le_refl _⟩, ⟨by (with_reducible repeat (first | apply Kd.R_alloc | apply Kd.R_drewN | apply Kd.R_drew)); exact Kd.R_mono HO154.out (fun _ hk => (by simp [Value.ownBlock]))⟩, ⟨by first | exact Kd.R_nil _ _ _ _ _ | exact Kd.N_nil _ _ _ _ _ | exact Kd.V_nil _ _ _ _ _ | exact Kd.Q_nil _ _ _ _ _ | exact Kd.S_nil _ _ _ _ _⟩, ⟨by repeat (first | (with_reducible first | exact HB.out | apply below_alloc | apply pw_below_drewN | apply below_drew1) | exact HB.out)⟩⟩
  case round =>
    clear H'
    try clear p2
    try clear c4
    try clear c5
    obtain ⟨x3_1, x4_1, x14_1, rfl, HA, HK1, HO_3, HO_4, HB⟩ := hrel
    cases gk with
    | zero => exact absurd HA.out (by simp [para_Matches.l0])
    | succ k1 =>
      have H := HA.out
      clear HA
      simp only [para_Matches.l0] at H
      by_cases c7 : x14_1 < (l0.length : Int)
      · rw [if_pos c7] at H
        have c7b0 : decide (x14_1 < (l0.length : Int)) = true := decide_eq_true c7
        clear c7
        by_cases c8 : 0 ≤ x14_1
        · rw [if_pos c8] at H
          have c8b0 : decide (0 ≤ x14_1) = true := decide_eq_true c8
          clear c8
          by_cases c9 : x14_1 < (l0.length : Int)
          · rw [if_pos c9] at H
            have c9b0 : decide (x14_1 < (l0.length : Int)) = true := decide_eq_true c9
            clear c9
            replace H := Option.bind_eq_some_iff.mp H
            obtain ⟨t156, A100, H⟩ := H
            replace H : (if t156 = true then (if x4_1.length < 17592186044416 then (if x14_1 < (x3_1.length : Int) then (para_Matches.l0 k1 l0 (x3_1.set (x14_1 : Int).toNat (l0.length : Int)) (x4_1 ++ [x14_1]) l0 (l0.length : Int) (wrap64 (x14_1 + 1))) else (none)) else (none)) else (if (rd l0 x14_1) = 22 then (if (x4_1.length : Int) > 0 then (if 0 ≤ (wrap64 ((x4_1.length : Int) - 1)) then (if (wrap64 ((x4_1.length : Int) - 1)) < (x4_1.length : Int) then (if (wrap64 ((x4_1.length : Int) - 1)) ≤ (x4_1.length : Int) then (if 0 ≤ (rd x4_1 (wrap64 ((x4_1.length : Int) - 1))) then (if (rd x4_1 (wrap64 ((x4_1.length : Int) - 1))) < (x3_1.length : Int) then (if x14_1 < (x3_1.length : Int) then (para_Matches.l0 k1 l0 ((x3_1.set ((rd x4_1 (wrap64 ((x4_1.length : Int) - 1))) : Int).toNat x14_1).set (x14_1 : Int).toNat (rd x4_1 (wrap64 ((x4_1.length : Int) - 1)))) (x4_1.take ((wrap64 ((x4_1.length : Int) - 1)) : Int).toNat) l0 (l0.length : Int) (wrap64 (x14_1 + 1))) else (none)) else (none)) else (none)) else (none)) else (none)) else (none)) else (para_Matches.l0 k1 l0 x3_1 x4_1 l0 (l0.length : Int) (wrap64 (x14_1 + 1)))) else (para_Matches.l0 k1 l0 x3_1 x4_1 l0 (l0.length : Int) (wrap64 (x14_1 + 1))))) = some r := H
            have A10 := Aside0.mk A100
            clear A100
            by_cases c11 : t156 = true
            · subst c11
              have H1 : (if x4_1.length < 17592186044416 then (if x14_1 < (x3_1.length : Int) then (para_Matches.l0 k1 l0 (x3_1.set (x14_1 : Int).toNat (l0.length : Int)) (x4_1 ++ [x14_1]) l0 (l0.length : Int) (wrap64 (x14_1 + 1))) else (none)) else (none)) = some r := by rw [if_pos rfl] at H; exact H
              clear H
              have H := H1
              clear H1
              by_cases c12 : x4_1.length < 17592186044416
              · rw [if_pos c12] at H
                have LMc12 := Aside0.mk c12
                clear c12
                obtain ⟨y157, hy157⟩ : ∃ y_ : List Int, y_ = (x4_1 ++ [x14_1]) := ⟨_, rfl⟩
                replace H : (if x14_1 < (x3_1.length : Int) then (para_Matches.l0 k1 l0 (x3_1.set (x14_1 : Int).toNat (l0.length : Int)) y157 l0 (l0.length : Int) (wrap64 (x14_1 + 1))) else (none)) = some r := by first | (rw [hy157]; with_reducible exact H) | (have H2_ := (Option.bind_some _ _).symm.trans H; rw [hy157]; with_reducible exact H2_) | (have H2_ := (Option.bind_some _ _).symm.trans H; with_reducible exact H2_) | with_reducible exact H | (rw [hy157]; exact H) | exact H
                have Ny157 := Aside0.mk hy157
                clear hy157
                by_cases c13 : x14_1 < (x3_1.length : Int)
                · rw [if_pos c13] at H
                  have c13b0 : decide (x14_1 < (x3_1.length : Int)) = true := decide_eq_true c13
                  clear c13
                  obtain ⟨y160, hy160⟩ : ∃ y_ : List Int, y_ = (x3_1.set (x14_1 : Int).toNat (l0.length : Int)) := ⟨_, rfl⟩
                  replace H : (para_Matches.l0 k1 l0 y160 y157 l0 (l0.length : Int) (wrap64 (x14_1 + 1))) = some r := by first | (rw [hy160]; with_reducible exact H) | (have H2_ := (Option.bind_some _ _).symm.trans H; rw [hy160]; with_reducible exact H2_) | (have H2_ := (Option.bind_some _ _).symm.trans H; with_reducible exact H2_) | with_reducible exact H | (rw [hy160]; exact H) | exact H
                  have Ny160 := Aside0.mk hy160
                  clear hy160
                  have H' := Aside0.mk H
                  clear H
                  have p155 : 0 ≤ (x14_1 : Int) := of_decide_eq_true (by first | (with_reducible assumption) | assumption)
                  have q155 : x14_1 < (l0.length : Int) := of_decide_eq_true (by first | (with_reducible assumption) | assumption)
                  obtain ⟨ad155, e155, hx155_0⟩ := Kd.at_int HR0.out x14_1 p155 q155
                  cases e155
                  replace hx155_0 := (HB.out.cell (World.block_lt_of_cell? w _ hx155_0)).trans hx155_0
                  replace p155 := eq_true p155
                  replace q155 := eq_true q155
                  go_wp2_with (first | ((with_reducible refine gate_callee (f := 57) rfl ?_); refine goesL_ (some 21) rfl rfl Try.func57 (by kernel_rfl) rfl #[.int .i64 (rd l0 x14_1)] rfl (by (try simp only [List.map_toArray, List.map_cons, List.map_nil]); first | done | rfl | (simp only [List.length_drop, List.length_take]; rfl)) ?_; (with_reducible refine (para_opens.calls k1 (rd l0 x14_1) true _ A10.out).mono ?_); rintro e w15 ⟨rfl, hb⟩; refine ⟨_, rfl, ?_⟩; have n0_ := Aside0.mk (Kd.R_below (by (with_reducible repeat (first | apply Kd.R_alloc | apply Kd.R_drewN | apply Kd.R_drew)); exact HO_3.out) hb); have n1_ := Aside0.mk (Kd.R_below (by (with_reducible repeat (first | apply Kd.R_alloc | apply Kd.R_drewN | apply Kd.R_drew)); exact HO_4.out) hb); have n2_ := Aside0.mk (below_step (by repeat (first | (with_reducible first | exact HB.out | apply below_alloc | apply pw_below_drewN | apply below_drew1) | exact HB.out)) hb); clear HO_3; clear HO_4; clear HB; have HO_3 := n0_; have HO_4 := n1_; have HB := n2_; clear n0_ n1_ n2_; (try clear hb); (try clear hb2); (try clear hk); (try clear hi)) | ((with_reducible refine gate_builtin (b := .append) (xs := #[.tmp 22, .tmp 24]) rfl ?_); (try (refine gate_guard (by rfl) ?_; dsimp only)); at_builtin; refine Kd.R_append (Kd.int .i64) (w0 := w) w.heap.size rfl (.tmp 22) (.tmp 24) 22 3 (.int .i64 0) 8 rfl Try.underlying22 info3 rfl (by decide) (by omega) u4 x4_1 x14_1 [.int .i64 x14_1] (fun k_ => some k_ ≠ (v153 : Value).ownBlock) (fun _ => False) rfl rfl ?aP (fun _ hk => hk.elim) ?aF ?aO ?aB ?aS ?aL ?_; (case aP => exact rfl); (case aB => exact (by repeat (first | (with_reducible first | exact HB.out | apply below_alloc | apply pw_below_drewN | apply below_drew1) | exact HB.out))); (case aF => exact (fun k_ hk => Kd.fresh' (Kd.R_lt (by (with_reducible repeat (first | apply Kd.R_alloc | apply Kd.R_drewN | apply Kd.R_drew)); exact HO_3.out)) k_ hk)); (case aO => exact (by (with_reducible repeat (first | apply Kd.R_alloc | apply Kd.R_drewN | apply Kd.R_drew)); exact HO_4.out)); (case aS => exact (below_size (by repeat (first | (with_reducible first | exact HB.out | apply below_alloc | apply pw_below_drewN | apply below_drew1) | exact HB.out)))); (case aL => have := LMc12.out; omega); intro v158 w16 ho hb hg hat; rw [← Ny157.out] at ho; have n0_ := Aside0.mk (Kd.R_after (ok := (fun _ => True)) (by (with_reducible repeat (first | apply Kd.R_alloc | apply Kd.R_drewN | apply Kd.R_drew)); exact Kd.R_mono HO_3.out (fun _ hk => ⟨trivial, hk⟩)) hg hat); have n1_ := Aside0.mk (hb); have n2_ := Aside0.mk (ho); clear HO_3; clear HB; clear HO_4; have HO_3 := n0_; have HB := n1_; have HO159 := n2_; clear n0_ n1_ n2_; clear ho hb hg hat; have p14 : 0 ≤ (x14_1 : Int) := of_decide_eq_true (by first | (with_reducible assumption) | assumption); have q14 : (x14_1 : Int) < ((x3_1.length : Int) : Int) := of_decide_eq_true (by first | (with_reducible assumption) | assumption); obtain ⟨go14, co14, eo14, gb14, gl14, cl14, HG14⟩ := Kd.R_form HO_3.out (by omega); (first | cases eo14 | (injection eo14 with ea_ en_ ec_; (first | subst ea_ | (injection ea_ with ea_; subst ea_)); subst ec_; clear en_)); have GB14 := Aside0.mk gb14; have GG14 := Aside0.mk HG14; clear gb14 gl14 HG14; obtain ⟨hx14_0, hf14_0⟩ := Kd.R_celln 0 HO_3.out (x14_1 : Int) p14 q14; replace p14 := eq_true p14; replace q14 := eq_true q14; have n_ := Aside0.mk (Kd.R_mono (ok' := (fun k_ => some k_ ≠ (v158 : Value).ownBlock)) HO_3.out (fun k_ hk => hk.2)); clear HO_3; have HO_3 := n_; clear n_; obtain ⟨hy17_, hz17_⟩ := Kd.R_celln 0 HO_3.out (x14_1 : Int) (of_decide_eq_true (by first | (with_reducible assumption) | assumption)) (of_decide_eq_true (by first | (with_reducible assumption) | assumption)); have HP17 := Kd.R_putg HO_3.out (x14_1 : Int) (l0.length : Int)) | ((with_reducible refine gate_store (t := 3) (p := 30) rfl ?_); refine store_event (t := 3) (p := 30) (v := ?vo_w18) (w1 := (w16.setCell ⟨go14, (x14_1 : Int).toNat, none⟩ (.int .i64 (l0.length : Int)))) ?hg ?ho ?hn ?hr ?_; (case ho => rfl); (case hg => rfl); (case hn => rfl); (case hr => first | (go_simp; done) | (go_simp; rfl)); intro w18 hw; have hg : w16.grownBy w18 (some go14) := (by rw [hw]; exact HP17.2); have hp_ : Kd.R (Kd.int .i64) 3 w18 w.heap.size (fun k_ => some k_ ≠ (v158 : Value).ownBlock) (.slice (some ⟨go14, 0, none⟩) x3_1.length co14) y160 := (by rw [hw, Ny160.out]; exact HP17.1); clear HP17; have n0_ := Aside0.mk (hp_); have n1_ := Aside0.mk (Kd.R_after (v := (.slice (some ⟨go14, 0, none⟩) x3_1.length co14)) (v1 := (.slice (some ⟨go14, 0, none⟩) x3_1.length co14)) (ok := (fun _ => True)) (by (with_reducible repeat (first | apply Kd.R_alloc | apply Kd.R_drewN | apply Kd.R_drew)); exact Kd.R_mono HO159.out (fun _ hk => ⟨trivial, hk⟩)) hg (.inl rfl)); have n2_ := Aside0.mk ((by rw [hw]; exact below_set (HB.out) GB14.out : Below w.heap.size w w18)); clear HO_3; clear HO159; clear HB; have HO_3 := n0_; have HO159 := n1_; have HB := n2_; clear n0_ n1_ n2_; clear hg hw hp_))
                  go_roundg k1
                  case measure => have := HK1.out; omega
                  case rel => exact ⟨(y160), (y157), (wrap64 (x14_1 + 1)), (by first | rfl | (simp; done) | (simp [*]; done)), H', ⟨by have := HK1.out; omega⟩, ⟨by (with_reducible repeat (first | apply Kd.R_alloc | apply Kd.R_drewN | apply Kd.R_drew)); exact HO_3.out⟩, ⟨by (with_reducible repeat (first | apply Kd.R_alloc | apply Kd.R_drewN | apply Kd.R_drew)); exact Kd.R_mono HO159.out (fun _ hk => hk.2)⟩, ⟨by repeat (first | (with_reducible first | exact HB.out | apply below_alloc | apply pw_below_drewN | apply below_drew1) | exact HB.out)⟩⟩
                · rw [if_neg c13] at H
                  exact absurd H (by simp)
              · rw [if_neg c12] at H
                exact absurd H (by simp)
            · replace c11 := Bool.eq_false_iff.mpr c11
              subst c11
              have H1 : (if (rd l0 x14_1) = 22 then (if (x4_1.length : Int) > 0 then (if 0 ≤ (wrap64 ((x4_1.length : Int) - 1)) then (if (wrap64 ((x4_1.length : Int) - 1)) < (x4_1.length : Int) then (if (wrap64 ((x4_1.length : Int) - 1)) ≤ (x4_1.length : Int) then (if 0 ≤ (rd x4_1 (wrap64 ((x4_1.length : Int) - 1))) then (if (rd x4_1 (wrap64 ((x4_1.length : Int) - 1))) < (x3_1.length : Int) then (if x14_1 < (x3_1.length : Int) then (para_Matches.l0 k1 l0 ((x3_1.set ((rd x4_1 (wrap64 ((x4_1.length : Int) - 1))) : Int).toNat x14_1).set (x14_1 : Int).toNat (rd x4_1 (wrap64 ((x4_1.length : Int) - 1)))) (x4_1.take ((wrap64 ((x4_1.length : Int) - 1)) : Int).toNat) l0 (l0.length : Int) (wrap64 (x14_1 + 1))) else (none)) else (none)) else (none)) else (none)) else (none)) else (none)) else (para_Matches.l0 k1 l0 x3_1 x4_1 l0 (l0.length : Int) (wrap64 (x14_1 + 1)))) else (para_Matches.l0 k1 l0 x3_1 x4_1 l0 (l0.length : Int) (wrap64 (x14_1 + 1)))) = some r := by rw [if_neg (show ¬ (false = true) by decide)] at H; exact H
              clear H
              have H := H1
              clear H1
              by_cases c19 : (rd l0 x14_1) = 22
              · rw [if_pos c19] at H
                have c19b0 : ((rd l0 x14_1) == 22) = true := beq_iff_eq.mpr c19
                have c19b1 : ((rd l0 x14_1) != 22) = false := bne_eq_false_iff_eq.mpr c19
                clear c19
                by_cases c20 : (x4_1.length : Int) > 0
                · rw [if_pos c20] at H
                  have c20b0 : decide (0 < (x4_1.length : Int)) = true := decide_eq_true c20
                  have c20b1 : decide (0 < x4_1.length) = true := decide_eq_true (by omega)
                  clear c20
                  obtain ⟨ji21, hji21⟩ : ∃ j_ : Int, (wrap64 ((x4_1.length : Int) - 1)) = j_ := ⟨_, rfl⟩
                  replace H : (if 0 ≤ (ji21) then (if (ji21) < (x4_1.length : Int) then (if (ji21) ≤ (x4_1.length : Int) then (if 0 ≤ (rd x4_1 (ji21)) then (if (rd x4_1 (ji21)) < (x3_1.length : Int) then (if x14_1 < (x3_1.length : Int) then (para_Matches.l0 k1 l0 ((x3_1.set ((rd x4_1 (ji21)) : Int).toNat x14_1).set (x14_1 : Int).toNat (rd x4_1 (ji21))) (x4_1.take ((ji21) : Int).toNat) l0 (l0.length : Int) (wrap64 (x14_1 + 1))) else (none)) else (none)) else (none)) else (none)) else (none)) else (none)) = some r := by first | (rw [hji21] at H; exact H) | (simp only [hji21] at H ⊢; exact H)
                  (try rw [hji21] at A10)
                  have hji21w : (IntKind.i64.wrap ((x4_1.length : Int) - 1)) = ji21 := (i64_w _).trans hji21
                  by_cases c22 : 0 ≤ (ji21)
                  · rw [if_pos c22] at H
                    have c22b0 : decide (0 ≤ (ji21)) = true := decide_eq_true c22
                    clear c22
                    by_cases c23 : (ji21) < (x4_1.length : Int)
                    · rw [if_pos c23] at H
                      have c23b0 : decide ((ji21) < (x4_1.length : Int)) = true := decide_eq_true c23
                      clear c23
                      by_cases c24 : (ji21) ≤ (x4_1.length : Int)
                      · rw [if_pos c24] at H
                        have c24b0 := eq_true c24
                        have c24b1 : decide ((ji21) ≤ (x4_1.length : Int)) = true := decide_eq_true c24
                        clear c24
                        obtain ⟨y162, hy162⟩ : ∃ y_ : List Int, y_ = (x4_1.take ((ji21) : Int).toNat) := ⟨_, rfl⟩
                        replace H : (if 0 ≤ (rd x4_1 (ji21)) then (if (rd x4_1 (ji21)) < (x3_1.length : Int) then (if x14_1 < (x3_1.length : Int) then (para_Matches.l0 k1 l0 ((x3_1.set ((rd x4_1 (ji21)) : Int).toNat x14_1).set (x14_1 : Int).toNat (rd x4_1 (ji21))) y162 l0 (l0.length : Int) (wrap64 (x14_1 + 1))) else (none)) else (none)) else (none)) = some r := by first | (rw [hy162]; with_reducible exact H) | (have H2_ := (Option.bind_some _ _).symm.trans H; rw [hy162]; with_reducible exact H2_) | (have H2_ := (Option.bind_some _ _).symm.trans H; with_reducible exact H2_) | with_reducible exact H | (rw [hy162]; exact H) | exact H
                        have Ny162 := Aside0.mk hy162
                        clear hy162
                        by_cases c25 : 0 ≤ (rd x4_1 (ji21))
                        · rw [if_pos c25] at H
                          have c25b0 : decide (0 ≤ (rd x4_1 (ji21))) = true := decide_eq_true c25
                          clear c25
                          by_cases c26 : (rd x4_1 (ji21)) < (x3_1.length : Int)
                          · rw [if_pos c26] at H
                            have c26b0 : decide ((rd x4_1 (ji21)) < (x3_1.length : Int)) = true := decide_eq_true c26
                            clear c26
                            obtain ⟨y165, hy165⟩ : ∃ y_ : List Int, y_ = (x3_1.set ((rd x4_1 (ji21)) : Int).toNat x14_1) := ⟨_, rfl⟩
                            replace H : (if x14_1 < (x3_1.length : Int) then (para_Matches.l0 k1 l0 (y165.set (x14_1 : Int).toNat (rd x4_1 (ji21))) y162 l0 (l0.length : Int) (wrap64 (x14_1 + 1))) else (none)) = some r := by first | (rw [hy165]; with_reducible exact H) | (have H2_ := (Option.bind_some _ _).symm.trans H; rw [hy165]; with_reducible exact H2_) | (have H2_ := (Option.bind_some _ _).symm.trans H; with_reducible exact H2_) | with_reducible exact H | (rw [hy165]; exact H) | exact H
                            have Ny165 := Aside0.mk hy165
                            clear hy165
                            by_cases c28 : x14_1 < (x3_1.length : Int)
                            · rw [if_pos c28] at H
                              have c28b0 : decide (x14_1 < (x3_1.length : Int)) = true := decide_eq_true c28
                              clear c28
                              obtain ⟨y166, hy166⟩ : ∃ y_ : List Int, y_ = (y165.set (x14_1 : Int).toNat (rd x4_1 (ji21))) := ⟨_, rfl⟩
                              replace H : (para_Matches.l0 k1 l0 y166 y162 l0 (l0.length : Int) (wrap64 (x14_1 + 1))) = some r := by first | (rw [hy166]; with_reducible exact H) | (have H2_ := (Option.bind_some _ _).symm.trans H; rw [hy166]; with_reducible exact H2_) | (have H2_ := (Option.bind_some _ _).symm.trans H; with_reducible exact H2_) | with_reducible exact H | (rw [hy166]; exact H) | exact H
                              have Ny166 := Aside0.mk hy166
                              clear hy166
                              have H' := Aside0.mk H
                              clear H
                              have p155 : 0 ≤ (x14_1 : Int) := of_decide_eq_true (by first | (with_reducible assumption) | assumption)
                              have q155 : x14_1 < (l0.length : Int) := of_decide_eq_true (by first | (with_reducible assumption) | assumption)
                              obtain ⟨ad155, e155, hx155_0⟩ := Kd.at_int HR0.out x14_1 p155 q155
                              cases e155
                              replace hx155_0 := (HB.out.cell (World.block_lt_of_cell? w _ hx155_0)).trans hx155_0
                              replace p155 := eq_true p155
                              replace q155 := eq_true q155
                              go_wp2_with (first | ((with_reducible refine gate_callee (f := 57) rfl ?_); refine goesL_ (some 21) rfl rfl Try.func57 (by kernel_rfl) rfl #[.int .i64 (rd l0 x14_1)] rfl (by (try simp only [List.map_toArray, List.map_cons, List.map_nil]); first | done | rfl | (simp only [List.length_drop, List.length_take]; rfl)) ?_; (with_reducible refine (para_opens.calls k1 (rd l0 x14_1) false _ A10.out).mono ?_); rintro e w30 ⟨rfl, hb⟩; refine ⟨_, rfl, ?_⟩; have n0_ := Aside0.mk (Kd.R_below (by (with_reducible repeat (first | apply Kd.R_alloc | apply Kd.R_drewN | apply Kd.R_drew)); exact HO_3.out) hb); have n1_ := Aside0.mk (Kd.R_below (by (with_reducible repeat (first | apply Kd.R_alloc | apply Kd.R_drewN | apply Kd.R_drew)); exact HO_4.out) hb); have n2_ := Aside0.mk (below_step (by repeat (first | (with_reducible first | exact HB.out | apply below_alloc | apply pw_below_drewN | apply below_drew1) | exact HB.out)) hb); clear HO_3; clear HO_4; clear HB; have HO_3 := n0_; have HO_4 := n1_; have HB := n2_; clear n0_ n1_ n2_; (try clear hb); (try clear hb2); (try clear hk); (try clear hi); obtain ⟨Ao31, co31, eo31⟩ := Kd.R_slice HO_4.out; subst eo31; have p161 : 0 ≤ ((ji21) : Int) := of_decide_eq_true (by first | (with_reducible assumption) | assumption); have q161 : (ji21) < (x4_1.length : Int) := of_decide_eq_true (by first | (with_reducible assumption) | assumption); obtain ⟨ad161, e161, hx161_0⟩ := Kd.at_int (Kd.R_reads' HO_4.out).2.2 (ji21) p161 q161; cases e161; replace p161 := eq_true p161; replace q161 := eq_true q161; have q32 : ((ji21) : Int) ≤ ((x4_1.length : Int) : Int) := of_decide_eq_true (by first | (with_reducible assumption) | assumption); obtain ⟨i032, hi032, _, hsz32, _⟩ := info_parts info3; have hcut32 := cut_to (P := Try.prog) 22 3 .i64 Try.underlying22 hi032 (some ad161) x4_1.length co31 (ji21) (of_decide_eq_true (by first | (with_reducible assumption) | assumption)) q32 (Kd.R_reads' HO_4.out).2.1; have hr32 := Kd.R_take (m := ((ji21) : Int).toNat) HO_4.out (by omega); have hy32 : y162.length = ((ji21) : Int).toNat := (by rw [Ny162.out, List.length_take]; omega); rw [← Ny162.out] at hr32; rw [← hy32] at hr32 hcut32; clear hy32 hi032 hsz32 HO_4; have HO164 := Aside0.mk hr32; clear hr32; replace q32 := eq_true q32; have p27 : 0 ≤ ((rd x4_1 (ji21)) : Int) := of_decide_eq_true (by first | (with_reducible assumption) | assumption); have q27 : ((rd x4_1 (ji21)) : Int) < ((x3_1.length : Int) : Int) := of_decide_eq_true (by first | (with_reducible assumption) | assumption); obtain ⟨go27, co27, eo27, gb27, gl27, cl27, HG27⟩ := Kd.R_form HO_3.out (by omega); (first | cases eo27 | (injection eo27 with ea_ en_ ec_; (first | subst ea_ | (injection ea_ with ea_; subst ea_)); subst ec_; clear en_)); have GB27 := Aside0.mk gb27; have GG27 := Aside0.mk HG27; clear gb27 gl27 HG27; obtain ⟨hx27_0, hf27_0⟩ := Kd.R_celln 0 HO_3.out ((rd x4_1 (ji21)) : Int) p27 q27; replace p27 := eq_true p27; replace q27 := eq_true q27; obtain ⟨hy33_, hz33_⟩ := Kd.R_celln 0 HO_3.out ((rd x4_1 (ji21)) : Int) (of_decide_eq_true (by first | (with_reducible assumption) | assumption)) (of_decide_eq_true (by first | (with_reducible assumption) | assumption)); have HP33 := Kd.R_putg HO_3.out ((rd x4_1 (ji21)) : Int) x14_1) | ((with_reducible refine gate_store (t := 3) (p := 56) rfl ?_); refine store_event (t := 3) (p := 56) (v := ?vo_w34) (w1 := (w30.setCell ⟨go27, ((rd x4_1 (ji21)) : Int).toNat, none⟩ (.int .i64 x14_1))) ?hg ?ho ?hn ?hr ?_; (case ho => rfl); (case hg => rfl); (case hn => rfl); (case hr => first | (go_simp; done) | (go_simp; rfl)); intro w34 hw; have hg : w30.grownBy w34 (some go27) := (by rw [hw]; exact HP33.2); have hp_ : Kd.R (Kd.int .i64) 3 w34 w.heap.size (fun k_ => some k_ ≠ (.slice (some ad161) y162.length co31 : Value).ownBlock) (.slice (some ⟨go27, 0, none⟩) x3_1.length co27) y165 := (by rw [hw, Ny165.out]; exact HP33.1); clear HP33; have n0_ := Aside0.mk (hp_); have n1_ := Aside0.mk (Kd.R_after (v := (.slice (some ⟨go27, 0, none⟩) x3_1.length co27)) (v1 := (.slice (some ⟨go27, 0, none⟩) x3_1.length co27)) (ok := (fun _ => True)) (by (with_reducible repeat (first | apply Kd.R_alloc | apply Kd.R_drewN | apply Kd.R_drew)); exact Kd.R_mono HO164.out (fun _ hk => ⟨trivial, hk⟩)) hg (.inl rfl)); have n2_ := Aside0.mk ((by rw [hw]; exact below_set (HB.out) GB27.out : Below w.heap.size w w34)); clear HO_3; clear HO164; clear HB; have HO_3 := n0_; have HO164 := n1_; have HB := n2_; clear n0_ n1_ n2_; clear hg hw hp_; have p29 : 0 ≤ (x14_1 : Int) := of_decide_eq_true (by first | (with_reducible assumption) | assumption); have q29 : (x14_1 : Int) < ((x3_1.length : Int) : Int) := of_decide_eq_true (by first | (with_reducible assumption) | assumption); obtain ⟨hx29_0, hf29_0⟩ := Kd.R_celln 0 HO_3.out (x14_1 : Int) p29 q29; replace p29 := eq_true p29; replace q29 := eq_true q29; obtain ⟨hy35_, hz35_⟩ := Kd.R_celln 0 HO_3.out (x14_1 : Int) (of_decide_eq_true (by first | (with_reducible assumption) | assumption)) (of_decide_eq_true (by first | (with_reducible assumption) | assumption)); have HP35 := Kd.R_putg HO_3.out (x14_1 : Int) (rd x4_1 (ji21))) | ((with_reducible refine gate_store (t := 3) (p := 57) rfl ?_); refine store_event (t := 3) (p := 57) (v := ?vo_w36) (w1 := (w34.setCell ⟨go27, (x14_1 : Int).toNat, none⟩ (.int .i64 (rd x4_1 (ji21))))) ?hg ?ho ?hn ?hr ?_; (case ho => rfl); (case hg => rfl); (case hn => rfl); (case hr => first | (go_simp; done) | (go_simp; rfl)); intro w36 hw; have hg : w34.grownBy w36 (some go27) := (by rw [hw]; exact HP35.2); have hp_ : Kd.R (Kd.int .i64) 3 w36 w.heap.size (fun k_ => some k_ ≠ (.slice (some ad161) y162.length co31 : Value).ownBlock) (.slice (some ⟨go27, 0, none⟩) x3_1.length co27) y166 := (by rw [hw, Ny166.out]; exact HP35.1); clear HP35; have n0_ := Aside0.mk (hp_); have n1_ := Aside0.mk (Kd.R_after (v := (.slice (some ⟨go27, 0, none⟩) x3_1.length co27)) (v1 := (.slice (some ⟨go27, 0, none⟩) x3_1.length co27)) (ok := (fun _ => True)) (by (with_reducible repeat (first | apply Kd.R_alloc | apply Kd.R_drewN | apply Kd.R_drew)); exact HO164.out) hg (.inl rfl)); have n2_ := Aside0.mk ((by rw [hw]; exact below_set (HB.out) GB27.out : Below w.heap.size w w36)); clear HO_3; clear HO164; clear HB; have HO_3 := n0_; have HO164 := n1_; have HB := n2_; clear n0_ n1_ n2_; clear hg hw hp_))
                              go_roundg k1
                              case measure => have := HK1.out; omega
                              case rel => exact ⟨(y166), (y162), (wrap64 (x14_1 + 1)), (by first | rfl | (simp; done) | (simp [*]; done)), H', ⟨by have := HK1.out; omega⟩, ⟨by (with_reducible repeat (first | apply Kd.R_alloc | apply Kd.R_drewN | apply Kd.R_drew)); exact HO_3.out⟩, ⟨by (with_reducible repeat (first | apply Kd.R_alloc | apply Kd.R_drewN | apply Kd.R_drew)); exact Kd.R_mono HO164.out (fun _ hk => hk.2)⟩, ⟨by repeat (first | (with_reducible first | exact HB.out | apply below_alloc | apply pw_below_drewN | apply below_drew1) | exact HB.out)⟩⟩
                            · rw [if_neg c28] at H
                              exact absurd H (by simp)
                          · rw [if_neg c26] at H
                            exact absurd H (by simp)
                        · rw [if_neg c25] at H
                          exact absurd H (by simp)
                      · rw [if_neg c24] at H
                        exact absurd H (by simp)
                    · rw [if_neg c23] at H
                      exact absurd H (by simp)
                  · rw [if_neg c22] at H
                    exact absurd H (by simp)
                · rw [if_neg c20] at H
                  have c20b0 : decide (0 < (x4_1.length : Int)) = false := decide_eq_false c20
                  have c20b1 : decide (0 < x4_1.length) = false := decide_eq_false (by omega)
                  clear c20
                  have H' := Aside0.mk H
                  clear H
                  have p155 : 0 ≤ (x14_1 : Int) := of_decide_eq_true (by first | (with_reducible assumption) | assumption)
                  have q155 : x14_1 < (l0.length : Int) := of_decide_eq_true (by first | (with_reducible assumption) | assumption)
                  obtain ⟨ad155, e155, hx155_0⟩ := Kd.at_int HR0.out x14_1 p155 q155
                  cases e155
                  replace hx155_0 := (HB.out.cell (World.block_lt_of_cell? w _ hx155_0)).trans hx155_0
                  replace p155 := eq_true p155
                  replace q155 := eq_true q155
                  go_wp2_with (first | ((with_reducible refine gate_callee (f := 57) rfl ?_); refine goesL_ (some 21) rfl rfl Try.func57 (by kernel_rfl) rfl #[.int .i64 (rd l0 x14_1)] rfl (by (try simp only [List.map_toArray, List.map_cons, List.map_nil]); first | done | rfl | (simp only [List.length_drop, List.length_take]; rfl)) ?_; (with_reducible refine (para_opens.calls k1 (rd l0 x14_1) false _ A10.out).mono ?_); rintro e w37 ⟨rfl, hb⟩; refine ⟨_, rfl, ?_⟩; have n0_ := Aside0.mk (Kd.R_below (by (with_reducible repeat (first | apply Kd.R_alloc | apply Kd.R_drewN | apply Kd.R_drew)); exact HO_3.out) hb); have n1_ := Aside0.mk (Kd.R_below (by (with_reducible repeat (first | apply Kd.R_alloc | apply Kd.R_drewN | apply Kd.R_drew)); exact HO_4.out) hb); have n2_ := Aside0.mk (below_step (by repeat (first | (with_reducible first | exact HB.out | apply below_alloc | apply pw_below_drewN | apply below_drew1) | exact HB.out)) hb); clear HO_3; clear HO_4; clear HB; have HO_3 := n0_; have HO_4 := n1_; have HB := n2_; clear n0_ n1_ n2_; (try clear hb); (try clear hb2); (try clear hk); (try clear hi); obtain ⟨Ao38, co38, eo38⟩ := Kd.R_slice HO_4.out; subst eo38))
                  go_roundg k1
                  case measure => have := HK1.out; omega
                  case rel => exact ⟨(x3_1), (x4_1), (wrap64 (x14_1 + 1)), (by first | rfl | (simp; done) | (simp [*]; done)), H', ⟨by have := HK1.out; omega⟩, ⟨by (with_reducible repeat (first | apply Kd.R_alloc | apply Kd.R_drewN | apply Kd.R_drew)); exact HO_3.out⟩, ⟨by (with_reducible repeat (first | apply Kd.R_alloc | apply Kd.R_drewN | apply Kd.R_drew)); exact HO_4.out⟩, ⟨by repeat (first | (with_reducible first | exact HB.out | apply below_alloc | apply pw_below_drewN | apply below_drew1) | exact HB.out)⟩⟩
              · rw [if_neg c19] at H
                have c19b0 : ((rd l0 x14_1) == 22) = false := beq_eq_false_iff_ne.mpr c19
                have c19b1 : ((rd l0 x14_1) != 22) = true := bne_iff_ne.mpr c19
                have H' := Aside0.mk H
                clear H
                have p155 : 0 ≤ (x14_1 : Int) := of_decide_eq_true (by first | (with_reducible assumption) | assumption)
                have q155 : x14_1 < (l0.length : Int) := of_decide_eq_true (by first | (with_reducible assumption) | assumption)
                obtain ⟨ad155, e155, hx155_0⟩ := Kd.at_int HR0.out x14_1 p155 q155
                cases e155
                replace hx155_0 := (HB.out.cell (World.block_lt_of_cell? w _ hx155_0)).trans hx155_0
                replace p155 := eq_true p155
                replace q155 := eq_true q155
                go_wp2_with (first | ((with_reducible refine gate_callee (f := 57) rfl ?_); refine goesL_ (some 21) rfl rfl Try.func57 (by kernel_rfl) rfl #[.int .i64 (rd l0 x14_1)] rfl (by (try simp only [List.map_toArray, List.map_cons, List.map_nil]); first | done | rfl | (simp only [List.length_drop, List.length_take]; rfl)) ?_; (with_reducible refine (para_opens.calls k1 (rd l0 x14_1) false _ A10.out).mono ?_); rintro e w39 ⟨rfl, hb⟩; refine ⟨_, rfl, ?_⟩; have n0_ := Aside0.mk (Kd.R_below (by (with_reducible repeat (first | apply Kd.R_alloc | apply Kd.R_drewN | apply Kd.R_drew)); exact HO_3.out) hb); have n1_ := Aside0.mk (Kd.R_below (by (with_reducible repeat (first | apply Kd.R_alloc | apply Kd.R_drewN | apply Kd.R_drew)); exact HO_4.out) hb); have n2_ := Aside0.mk (below_step (by repeat (first | (with_reducible first | exact HB.out | apply below_alloc | apply pw_below_drewN | apply below_drew1) | exact HB.out)) hb); clear HO_3; clear HO_4; clear HB; have HO_3 := n0_; have HO_4 := n1_; have HB := n2_; clear n0_ n1_ n2_; (try clear hb); (try clear hb2); (try clear hk); (try clear hi)))
                go_roundg k1
                case measure => have := HK1.out; omega
                case rel => exact ⟨(x3_1), (x4_1), (wrap64 (x14_1 + 1)), (by first | rfl | (simp; done) | (simp [*]; done)), H', ⟨by have := HK1.out; omega⟩, ⟨by (with_reducible repeat (first | apply Kd.R_alloc | apply Kd.R_drewN | apply Kd.R_drew)); exact HO_3.out⟩, ⟨by (with_reducible repeat (first | apply Kd.R_alloc | apply Kd.R_drewN | apply Kd.R_drew)); exact HO_4.out⟩, ⟨by repeat (first | (with_reducible first | exact HB.out | apply below_alloc | apply pw_below_drewN | apply below_drew1) | exact HB.out)⟩⟩
          · rw [if_neg c9] at H
            exact absurd H (by simp)
        · rw [if_neg c8] at H
          exact absurd H (by simp)
      · rw [if_neg c7] at H
        have c7b0 : decide (x14_1 < (l0.length : Int)) = false := decide_eq_false c7
        clear c7
        obtain rfl := Option.some.inj H
        go_wp2
        go_ret
        exact ⟨_, by first | rfl | (simp [errW_none, errW_some] <;> rfl) | (simp [*, errW_none, errW_some] <;> rfl), by (with_reducible repeat (first | apply Kd.R_alloc | apply Kd.R_drewN | apply Kd.R_drew)); exact Kd.R_mono HO_3.out (fun _ hk => trivial), by repeat (first | (with_reducible first | exact HB.out | apply below_alloc | apply pw_below_drewN | apply below_drew1) | exact HB.out)⟩
def seq_direction.f (a0 : Int) (a1 : Int) : Option (Int) := if (Go.bits .and .i64 (mx a0 a1) 1) = 1 then (some 1) else (some 0)
set_option maxHeartbeats 8000000 in
set_option maxRecDepth 100000 in
theorem seq_direction.calls (a0 : Int) (a1 : Int) (r : Int) (w : World) (h : seq_direction.f a0 a1 = some r) :
    Calls Try.prog 53 #[.int .i64 a0, .int .i64 a1] w fun e w' => e = .returned (.int .i64 r) ∧ Below w.heap.size w w' := by
  have HB := Aside0.mk (Below.refl w.heap.size w)
  have H : (if (Go.bits .and .i64 (mx a0 a1) 1) = 1 then (some 1) else (some 0)) = some r := h
  clear h
  obtain ⟨ji3, hji3⟩ : ∃ j_ : Int, (mx a0 a1) = j_ := ⟨_, rfl⟩
  replace H : (if (Go.bits .and .i64 (ji3) 1) = 1 then (some 1) else (some 0)) = some r := by first | (rw [hji3] at H; exact H) | (simp only [hji3] at H ⊢; exact H)
  have hji3_ : (if a0 < a1 then a1 else a0) = ji3 := hji3
  by_cases c4 : (Go.bits .and .i64 (ji3) 1) = 1
  · rw [if_pos c4] at H
    have c4b0 : ((Go.bits .and .i64 (ji3) 1) == 1) = true := beq_iff_eq.mpr c4
    have c4b1 : ((Go.bits .and .i64 (ji3) 1) != 1) = false := bne_eq_false_iff_eq.mpr c4
    clear c4
    obtain rfl := Option.some.inj H
    go_enter Try.func53, Try.ntmps53
    go_wp2
    go_ret
    exact ⟨by first | rfl | (simp [errW_none, errW_some] <;> rfl) | (simp only [← hji3]; first | rfl | (simp [errW_none, errW_some] <;> rfl)) | (simp [*, errW_none, errW_some] <;> rfl), by repeat (first | (with_reducible first | exact HB.out | apply below_alloc | apply pw_below_drewN | apply below_drew1) | exact HB.out)⟩
  · rw [if_neg c4] at H
    have c4b0 : ((Go.bits .and .i64 (ji3) 1) == 1) = false := beq_eq_false_iff_ne.mpr c4
    have c4b1 : ((Go.bits .and .i64 (ji3) 1) != 1) = true := bne_iff_ne.mpr c4
    obtain rfl := Option.some.inj H
    go_enter Try.func53, Try.ntmps53
    go_wp2
    go_ret
    exact ⟨by first | rfl | (simp [errW_none, errW_some] <;> rfl) | (simp only [← hji3]; first | rfl | (simp [errW_none, errW_some] <;> rfl)) | (simp [*, errW_none, errW_some] <;> rfl), by repeat (first | (with_reducible first | exact HB.out | apply below_alloc | apply pw_below_drewN | apply below_drew1) | exact HB.out)⟩
section
open Go.Proofs.Ytbkdaafphcfpdaa.Stk
def seq_Sequences.seqF (L B M K : List Int) (bs : Int) (at_ : List Int) : Option (S42) :=
  if 0 < at_.length then
    if 0 ≤ rd at_ 0 then
      if rd at_ 0 < (L.length : Int) then
        if 0 ≤ lastL at_ then
          if lastL at_ < (L.length : Int) then
            if lastL at_ < (B.length : Int) then
              if lastL at_ < (M.length : Int) then
                if okI (rd at_ 0) = true then
                  if okI (lastL at_) = true then
                    (nearF L K bs (wrap64 (rkI K K.length (rd at_ 0) + -1))).bind fun v1 => (nearF L K bs (wrap64 (rkI K K.length (lastL at_) + 1))).bind fun v2 =>
                      some ⟨at_, rd L (rd at_ 0), dirF (rd L (rd at_ 0)) v1, dirF (rd L (lastL at_)) (behF B M (lastL at_) bs v2)⟩
                  else none
                else none
              else none
            else none
          else none
        else none
      else none
    else none
  else none
def seq_Sequences.goF (L B M K : List Int) (bs : Int) (R : List (List Int)) : Nat → (Int → Option (List Int)) → List (S42) → Option (List (S42))
  | 0, _, out => some out
  | n + 1, g, out =>
    if 0 < (R.getD (R.length - (n + 1)) []).length then
      if okI (rd (R.getD (R.length - (n + 1)) []) 0) = true then
        match g (rd (R.getD (R.length - (n + 1)) []) 0) with
        | none => seq_Sequences.goF L B M K bs R n g out
        | some _ => (chainF B M (R.length + 1) g (R.getD (R.length - (n + 1)) []) []).bind fun p => (seq_Sequences.seqF L B M K bs p.2).bind fun s => if out.length < 2932031007402 then seq_Sequences.goF L B M K bs R n p.1 (out ++ [s]) else none
      else none
    else none
def seq_Sequences.headsF (R : List (List Int)) : Bool := R.all fun l => decide (0 < l.length) && okI (rd l 0)
def seq_Sequences.f (k : Nat) (l0 l1 l2 : List Int) (a3 : Int) : Option (List (S42)) :=
  if (l0.length : Int) = (l1.length : Int) then
    if (l2.length : Int) = (l1.length : Int) then
      (para_Matches.f k l2).bind fun M => (seq_Runs.f k l0 l1).bind fun R => (seq_kept.f k l1).bind fun K =>
        if R.length ≤ 17592186043000 then if K.length ≤ 17592186043000 then if K.all okI = true then if seq_Sequences.headsF R = true then seq_Sequences.goF l0 l2 M K a3 R R.length (begF R R.length) [] else none else none else none else none
    else some []
  else some []
theorem seq_Sequences.mono : ∀ a0 a1 a2 a3 k, LeO (seq_Sequences.f k a0 a1 a2 a3) (seq_Sequences.f (k + 1) a0 a1 a2 a3) := by
  intro a0 a1 a2 a3 k
  unfold seq_Sequences.f
  exact LeO.ite (LeO.ite (LeO.bind (para_Matches.mono _ _) (fun _ => LeO.bind (seq_Runs.mono _ _ _) (fun _ => LeO.bind (seq_kept.mono _ _) (fun _ => LeO.refl _)))) (LeO.refl _)) (LeO.refl _)
set_option maxHeartbeats 8000000 in
set_option maxRecDepth 100000 in
theorem seq_Sequences.newText (k : Nat) (A0 : Option Addr) (c0 : Nat) (l0 : List Int) (A1 : Option Addr) (c1 : Nat) (l1 : List Int) (A2 : Option Addr) (c2 : Nat) (l2 : List Int) (a3 : Int) (M K : List Int) (w : World) (hr0 : Kd.C (Kd.int .i64) w A0 l0.length l0) (hc0 : l0.length ≤ c0) (hr1 : Kd.C (Kd.int .i64) w A1 l1.length l1) (hc1 : l1.length ≤ c1) (hr2 : Kd.C (Kd.int .i64) w A2 l2.length l2) (hc2 : l2.length ≤ c2) (hM : para_Matches.f k l2 = some M) (hK : seq_kept.f k l1 = some K) (hsz : K.length ≤ 17592186043000) (hok : K.all okI = true) :
    Calls Try.prog 35 #[.slice A0 l0.length c0, .slice A1 l1.length c1, .slice A2 l2.length c2, .int .i64 a3] w fun e w' => ∃ g rb : Nat, e = .returned (.pointer (some ⟨g, 0, none⟩)) ∧ Tx w' g rb l0 l2 M K a3 (rkF K K.length) ∧ w.heap.size ≤ g ∧ w.heap.size ≤ rb ∧ Below w.heap.size w w' := by
  have HR0 := Aside0.mk hr0
  have HC0 := Aside0.mk hc0
  have HR1 := Aside0.mk hr1
  have HC1 := Aside0.mk hc1
  have HR2 := Aside0.mk hr2
  have HC2 := Aside0.mk hc2
  have HM := Aside0.mk hM
  have HK := Aside0.mk hK
  have HSZ := Aside0.mk hsz
  have HOK := Aside0.mk hok
  have hmm := fun (n : Int) (W : World) => run_makeMap_hint Try.underlying78 n W
  clear hr0 hc0 hr1 hc1 hr2 hc2 hM hK hsz hok
  go_enter Try.func35, Try.ntmps35
  go_wp2_with (first | ((with_reducible refine gate_dst (N := 16) rfl ?_); refine box_event ?hg (N := 16) ?hd (cs := #[.slice A0 l0.length c0, .slice A2 l2.length c2, .slice none 0 0, .slice none 0 0, .map none, .int .i64 a3]) (t := 80) ?hr ?_; (case hd => rfl); (case hg => rfl); (case hr => first | (go_simp; done) | (go_simp; rfl)); intro g hg w1 hbox hb; have BX := Aside0.mk hbox; have HB1 := Aside0.mk hb; have HG := Aside0.mk (Nat.le_of_eq hg.symm); clear hg hbox hb) | (go_at_call 45; (with_reducible refine (para_Matches.calls k A2 c2 l2 M _ (Kd.C_below HR2.out HB1.out) HC2.out HM.out).mono ?_); rintro e w2 ⟨vm, rfl, hR, hb⟩; obtain ⟨Am, cm, em, lm, rm⟩ := Kd.R_reads hR; have HRM := Aside0.mk (And.intro lm rm); have HNM := Aside0.mk (show ∀ ad, Am = some ad → 0 < M.length → ad.block ≠ g from fun ad h _ e => by subst h; have h1 := Kd.R_base hR ad.block (by rw [em]; rfl); have h2 := blk_lt BX.out; omega); clear hR; have BX2 := Aside0.mk (blk_below BX.out hb); have HB2 := Aside0.mk (below_step HB1.out hb); have HLT2 := Aside0.mk (show g < w2.heap.size from blk_lt BX2.out); clear hb lm rm; generalize hnm : M.length = nm at em; subst em; have hc2 := (blk_cell BX2.out 2).trans rfl; have hf2 := blk_frozen BX2.out 2) | ((with_reducible refine gate_store (t := 22) (p := 21) rfl ?_); refine store_event (t := 22) (p := 21) (v := .tmp 19) (w1 := w2.setCell ⟨g, 2, none⟩ (.slice Am nm cm)) ?hg ?ho ?hn ?hr ?_; (case ho => rfl); (case hg => rfl); (case hn => rfl); (case hr => first | (go_simp; done) | (go_simp; rfl)); intro w3 hw; have BX3 := Aside0.mk (show w3.heap[g]? = some (.cells #[.slice A0 l0.length c0, .slice A2 l2.length c2, .slice Am nm cm, .slice none 0 0, .map none, .int .i64 a3] 80 (0, 0)) by rw [hw]; exact blk_put BX2.out 2 (.slice Am nm cm) rfl); have HB3 := Aside0.mk (show Below w.heap.size w w3 by rw [hw]; exact below_set HB2.out HG.out); have HRM3 := Aside0.mk (show Kd.C (Kd.int .i64) w3 Am M.length M by rw [hw]; exact c_far HRM.out.2 80 BX2.out 2 _ HNM.out); clear hw hc2 hf2 BX2 BX HB1 HB2 HLT2) | (go_at_call 43; (with_reducible refine (seq_kept.calls k A1 c1 l1 K _ (Kd.C_below HR1.out HB3.out) HC1.out HK.out).mono ?_); rintro e w4 ⟨vk, rfl, hR, hb⟩; obtain ⟨Ak, ck, ek, lk, rk⟩ := Kd.R_reads hR; have HRK := Aside0.mk (And.intro lk rk); have HNK := Aside0.mk (show ∀ ad, Ak = some ad → 0 < K.length → ad.block ≠ g from fun ad h _ e => by subst h; have h1 := Kd.R_base hR ad.block (by rw [ek]; rfl); have h2 := blk_lt BX3.out; omega); clear hR; have BX4 := Aside0.mk (blk_below BX3.out hb); have HRM4 := Aside0.mk (Kd.C_below HRM3.out hb); have HB4 := Aside0.mk (below_step HB3.out hb); clear hb lk rk; generalize hnk : K.length = nk at ek; subst ek; have hc3 := (blk_cell BX4.out 3).trans rfl; have hf3 := blk_frozen BX4.out 3) | ((with_reducible refine gate_store (t := 22) (p := 26) rfl ?_); refine store_event (t := 22) (p := 26) (v := .tmp 24) (w1 := w4.setCell ⟨g, 3, none⟩ (.slice Ak nk ck)) ?hg ?ho ?hn ?hr ?_; (case ho => rfl); (case hg => rfl); (case hn => rfl); (case hr => first | (go_simp; done) | (go_simp; rfl)); intro w5 hw; have BX5 := Aside0.mk (show w5.heap[g]? = some (.cells #[.slice A0 l0.length c0, .slice A2 l2.length c2, .slice Am nm cm, .slice Ak nk ck, .map none, .int .i64 a3] 80 (0, 0)) by rw [hw]; exact blk_put BX4.out 3 (.slice Ak nk ck) rfl); have HB5 := Aside0.mk (show Below w.heap.size w w5 by rw [hw]; exact below_set HB4.out HG.out); have HRM5 := Aside0.mk (show Kd.C (Kd.int .i64) w5 Am M.length M by rw [hw]; exact c_far HRM4.out 80 BX4.out 3 _ HNM.out); have HRK5 := Aside0.mk (show Kd.C (Kd.int .i64) w5 Ak K.length K by rw [hw]; exact c_far HRK.out.2 80 BX4.out 3 _ HNK.out); clear hw hc3 hf3 BX4 BX3 HB3 HB4 HRM3 HRM4; have hc3 := (blk_cell BX5.out 3).trans rfl; have hc4 := (blk_cell (blk_alloc BX5.out (.map #[] 0)) 4).trans rfl; have hf4 := blk_frozen (blk_alloc BX5.out (.map #[] 0)) 4) | ((with_reducible refine gate_store (t := 78) (p := 35) rfl ?_); refine store_event (t := 78) (p := 35) (v := .tmp 33) (w1 := (w5.alloc (.map #[] 0)).setCell ⟨g, 4, none⟩ (.map (some w5.heap.size))) ?hg ?ho ?hn ?hr ?_; (case ho => rfl); (case hg => rfl); (case hn => rfl); (case hr => first | (go_simp; done) | (go_simp; rfl)); intro w6 hw; have BX6 := Aside0.mk (show w6.heap[g]? = some (.cells #[.slice A0 l0.length c0, .slice A2 l2.length c2, .slice Am nm cm, .slice Ak nk ck, .map (some w5.heap.size), .int .i64 a3] 80 (0, 0)) by rw [hw]; exact blk_put (blk_alloc BX5.out (.map #[] 0)) 4 (.map (some w5.heap.size)) rfl); have HB6 := Aside0.mk (show Below w.heap.size w w6 by rw [hw]; exact below_set (below_alloc HB5.out (.map #[] 0)) HG.out); have HRM6 := Aside0.mk (show Kd.C (Kd.int .i64) w6 Am M.length M by rw [hw]; exact c_far (Kd.C_alloc HRM5.out (.map #[] 0)) 80 (blk_alloc BX5.out (.map #[] 0)) 4 _ HNM.out); have HRK6 := Aside0.mk (show Kd.C (Kd.int .i64) w6 Ak K.length K by rw [hw]; exact c_far (Kd.C_alloc HRK5.out (.map #[] 0)) 80 (blk_alloc BX5.out (.map #[] 0)) 4 _ HNK.out); have HMM := Aside0.mk (show MapIs Try.prog 3 w6 w5.heap.size 0 (fun _ => none) by rw [hw]; exact map_same (map_made w5 Try.prog 3) (Below.heap_setCell _ ⟨g, 4, none⟩ _ _ (Nat.ne_of_gt (blk_lt BX5.out)))); have HRB := Aside0.mk (show w.heap.size ≤ w5.heap.size from HB5.out.size); clear hw hc3 hc4 hf4 BX5 HB5 HRM5 HRK5; have hc3 := (blk_cell BX6.out 3).trans rfl))
  clear hmm
  go_loopg [41] K.length (fun kq v41 w' => ∃ (i : Nat), v41 = .int .i64 (i : Int) ∧ Aside0 (i ≤ K.length ∧ K.length - i = kq) ∧ Aside0 (MapIs Try.prog 3 w' w5.heap.size i (rkF K i)) ∧ Aside0 (KeepBut w6 w' w5.heap.size none) ∧ Aside0 (Below w.heap.size w w'))
  case atStart => exact ⟨0, rfl, ⟨Nat.zero_le _, rfl⟩, HMM, ⟨KeepBut.refl _ _ _⟩, HB6⟩
  case round =>
    clear hc3
    obtain ⟨i, rfl, HI, HMI, HKB, HB⟩ := hrel
    have HMAP := Aside0.mk HMM.out
    have k4 := (kb_cell HKB.out HMM.out ((blk_cell BX6.out 4).trans rfl : w6.cell? ⟨g, 4, none⟩ = some (.map (some w5.heap.size))))
    by_cases hlt : i < nk
    · have b0 : decide ((i : Int) < (nk : Int)) = true := decide_eq_true (by omega)
      have b1 : decide (i < nk) = true := decide_eq_true hlt
      have q0 := eq_true (show (i : Int) < (nk : Int) by omega)
      have q1 := eq_true hlt
      have hw := (show wrap64 ((i : Int) + 1) = ((i + 1 : Nat) : Int) by have := HSZ.out; unfold wrap64; omega)
      have hlk : i < K.length := by omega
      have hki : okI (K.getD i 0) = true := by
        have h1 := List.all_eq_true.mp HOK.out (K[i]) (List.getElem_mem hlk)
        rw [List.getD_eq_getElem?_getD, List.getElem?_eq_getElem hlk]
        exact h1
      obtain ⟨ak, e, xk⟩ := Kd.at_int HRK6.out (i : Int) (by omega) (by omega)
      cases e
      have xk1 := kb_cell HKB.out HMM.out xk
      rw [Int.toNat_natCast] at xk1
      rw [show rd K (i : Int) = K.getD i 0 by simp [rd]] at xk1
      generalize hx : K.getD i 0 = x at xk1 hki
      have HX := Aside0.mk hx
      have HKI := Aside0.mk hki
      have HLT := Aside0.mk hlt
      clear xk hx hki hlt hlk
      go_wp2_with (first | (at_mapUpdate; refine wp_map_put rfl _ _ _ 78 rfl 3 HMI.out Try.underlying3 Try.underlying78 (by have := HI.out; have := HSZ.out; unfold maxLen; omega) rfl x _ rfl rfl HKI.out ?_; intro w7 hM7 hg7; have HM7 := Aside0.mk hM7; have HKB7 := Aside0.mk (kb_map HKB.out hg7); have HB7 := Aside0.mk (map_belowB HB.out hg7 HB.out.size HRB.out); clear hM7 hg7))
      go_roundg (K.length - (i + 1))
      case measure => have := HI.out; have := HLT.out; omega
      case rel => exact ⟨i + 1, by first | rfl | go_num | rw [hw], ⟨by have := HLT.out; omega, rfl⟩, ⟨by have h7 := HM7.out; unfold rkF; rw [HX.out]; exact h7⟩, HKB7, HB7⟩
    · have b0 : decide ((i : Int) < (nk : Int)) = false := decide_eq_false (by omega)
      have b1 : decide (i < nk) = false := decide_eq_false hlt
      have hik : i = K.length := by have := HI.out.1; omega
      have HIK := Aside0.mk hik
      clear hlt hik
      go_wp2
      go_ret
      exact ⟨g, w5.heap.size, by first | rfl | simp [*], by
        obtain ⟨es, c, hb⟩ := map_block HMM.out
        have hkb := HKB.out
        exact ⟨A0, c0, A2, c2, Am, cm, Ak, ck, i, (hkb.2 g (blk_lt BX6.out) (by rintro rfl; have h6 := BX6.out; rw [hb] at h6; cases h6) (by simp)).trans (by rw [hnm, hnk]; exact BX6.out), ⟨HC0.out, Kd.C_below HR0.out HB.out⟩, ⟨HC2.out, Kd.C_below HR2.out HB.out⟩, ⟨HRM.out.1, c_but HRM6.out hkb hb⟩, ⟨HRK.out.1, c_but HRK6.out hkb hb⟩, HIK.out ▸ HMI.out⟩, HG.out, HRB.out, HB.out⟩
theorem seq_Sequences.seq_next {L B M K : List Int} {bs : Int} {at_ : List Int} {s : S42} (h : seq_Sequences.seqF L B M K bs at_ = some s) :
    0 < at_.length ∧ 0 ≤ rd at_ 0 ∧ rd at_ 0 < (L.length : Int) ∧ 0 ≤ lastL at_ ∧ lastL at_ < (L.length : Int) ∧ lastL at_ < (B.length : Int) ∧ lastL at_ < (M.length : Int) ∧ okI (rd at_ 0) = true ∧ okI (lastL at_) = true ∧
    ∃ v1 v2, nearF L K bs (wrap64 (rkI K K.length (rd at_ 0) + -1)) = some v1 ∧ nearF L K bs (wrap64 (rkI K K.length (lastL at_) + 1)) = some v2 ∧ s = ⟨at_, rd L (rd at_ 0), dirF (rd L (rd at_ 0)) v1, dirF (rd L (lastL at_)) (behF B M (lastL at_) bs v2)⟩ := by
  unfold seq_Sequences.seqF at h
  by_cases h0 : 0 < at_.length
  · rw [if_pos h0] at h
    by_cases h1 : 0 ≤ rd at_ 0
    · rw [if_pos h1] at h
      by_cases h2 : rd at_ 0 < (L.length : Int)
      · rw [if_pos h2] at h
        by_cases h3 : 0 ≤ lastL at_
        · rw [if_pos h3] at h
          by_cases h4 : lastL at_ < (L.length : Int)
          · rw [if_pos h4] at h
            by_cases h5 : lastL at_ < (B.length : Int)
            · rw [if_pos h5] at h
              by_cases h6 : lastL at_ < (M.length : Int)
              · rw [if_pos h6] at h
                by_cases h7 : okI (rd at_ 0) = true
                · rw [if_pos h7] at h
                  by_cases h8 : okI (lastL at_) = true
                  · rw [if_pos h8] at h
                    obtain ⟨v1, e1, h⟩ := Option.bind_eq_some_iff.mp h
                    obtain ⟨v2, e2, h⟩ := Option.bind_eq_some_iff.mp h
                    exact ⟨h0, h1, h2, h3, h4, h5, h6, h7, h8, v1, v2, e1, e2, (Option.some.inj h).symm⟩
                  · rw [if_neg h8] at h; cases h
                · rw [if_neg h7] at h; cases h
              · rw [if_neg h6] at h; cases h
            · rw [if_neg h5] at h; cases h
          · rw [if_neg h4] at h; cases h
        · rw [if_neg h3] at h; cases h
      · rw [if_neg h2] at h; cases h
    · rw [if_neg h1] at h; cases h
  · rw [if_neg h0] at h; cases h
set_option maxHeartbeats 8000000 in
set_option maxRecDepth 100000 in
theorem seq_Sequences.off1 (k : Nat) (A0 : Option Addr) (c0 : Nat) (l0 : List Int) (A1 : Option Addr) (c1 : Nat) (l1 : List Int) (A2 : Option Addr) (c2 : Nat) (l2 : List Int) (a3 : Int) (w : World) (hr0 : Kd.C (Kd.int .i64) w A0 l0.length l0) (hc0 : l0.length ≤ c0) (hr1 : Kd.C (Kd.int .i64) w A1 l1.length l1) (hc1 : l1.length ≤ c1) (hr2 : Kd.C (Kd.int .i64) w A2 l2.length l2) (hc2 : l2.length ≤ c2) (hne : ¬ (l0.length : Int) = (l1.length : Int)) :
    Calls Try.prog 13 #[.slice A0 l0.length c0, .slice A1 l1.length c1, .slice A2 l2.length c2, .int .i64 a3] w fun e w' => ∃ v0_ : Value, e = .returned (v0_) ∧ Kd.S k42 42 w' w.heap.size (fun _ => True) v0_ [] ∧ Below w.heap.size w w' := by
  have f1 : ((l0.length : Int) != (l1.length : Int)) = true := bne_iff_ne.mpr hne
  have f2 : (l0.length != l1.length) = true := bne_iff_ne.mpr (by exact_mod_cast hne)
  clear hne
  go_enter Try.func13, Try.ntmps13
  go_wp2
  go_ret
  exact ⟨_, by first | rfl | simp [*], Kd.S_nil _ _ _ _ _, by repeat (first | exact Below.refl _ _ | apply below_alloc | apply pw_below_drewN | apply below_drew1)⟩
set_option maxHeartbeats 8000000 in
set_option maxRecDepth 100000 in
theorem seq_Sequences.off2 (k : Nat) (A0 : Option Addr) (c0 : Nat) (l0 : List Int) (A1 : Option Addr) (c1 : Nat) (l1 : List Int) (A2 : Option Addr) (c2 : Nat) (l2 : List Int) (a3 : Int) (w : World) (hr0 : Kd.C (Kd.int .i64) w A0 l0.length l0) (hc0 : l0.length ≤ c0) (hr1 : Kd.C (Kd.int .i64) w A1 l1.length l1) (hc1 : l1.length ≤ c1) (hr2 : Kd.C (Kd.int .i64) w A2 l2.length l2) (hc2 : l2.length ≤ c2) (he : (l0.length : Int) = (l1.length : Int)) (hne : ¬ (l2.length : Int) = (l1.length : Int)) :
    Calls Try.prog 13 #[.slice A0 l0.length c0, .slice A1 l1.length c1, .slice A2 l2.length c2, .int .i64 a3] w fun e w' => ∃ v0_ : Value, e = .returned (v0_) ∧ Kd.S k42 42 w' w.heap.size (fun _ => True) v0_ [] ∧ Below w.heap.size w w' := by
  have g1 : ((l0.length : Int) != (l1.length : Int)) = false := bne_eq_false_iff_eq.mpr he
  have g2 : (l0.length != l1.length) = false := bne_eq_false_iff_eq.mpr (by exact_mod_cast he)
  have f1 : ((l2.length : Int) != (l1.length : Int)) = true := bne_iff_ne.mpr hne
  have f2 : (l2.length != l1.length) = true := bne_iff_ne.mpr (by exact_mod_cast hne)
  clear hne
  go_enter Try.func13, Try.ntmps13
  go_wp2
  go_ret
  exact ⟨_, by first | rfl | simp [*], Kd.S_nil _ _ _ _ _, by repeat (first | exact Below.refl _ _ | apply below_alloc | apply pw_below_drewN | apply below_drew1)⟩
set_option maxHeartbeats 32000000 in
set_option maxRecDepth 100000 in
theorem seq_Sequences.main (k : Nat) (A0 : Option Addr) (c0 : Nat) (l0 : List Int) (A1 : Option Addr) (c1 : Nat) (l1 : List Int) (A2 : Option Addr) (c2 : Nat) (l2 : List Int) (a3 : Int) (r : List (S42)) (w : World) (hr0 : Kd.C (Kd.int .i64) w A0 l0.length l0) (hc0 : l0.length ≤ c0) (hr1 : Kd.C (Kd.int .i64) w A1 l1.length l1) (hc1 : l1.length ≤ c1) (hr2 : Kd.C (Kd.int .i64) w A2 l2.length l2) (hc2 : l2.length ≤ c2) (M K : List Int) (R : List (List Int)) (he1 : (l0.length : Int) = (l1.length : Int)) (he2 : (l2.length : Int) = (l1.length : Int)) (hM : para_Matches.f k l2 = some M) (hR : seq_Runs.f k l0 l1 = some R) (hK : seq_kept.f k l1 = some K) (hsz : R.length ≤ 17592186043000) (hks : K.length ≤ 17592186043000) (hok : K.all okI = true) (hhd : seq_Sequences.headsF R = true) (hgo : seq_Sequences.goF l0 l2 M K a3 R R.length (begF R R.length) [] = some r) :
    Calls Try.prog 13 #[.slice A0 l0.length c0, .slice A1 l1.length c1, .slice A2 l2.length c2, .int .i64 a3] w fun e w' => ∃ v0_ : Value, e = .returned (v0_) ∧ Kd.S k42 42 w' w.heap.size (fun _ => True) v0_ r ∧ Below w.heap.size w w' := by
  have HR0 := Aside0.mk hr0
  have HC0 := Aside0.mk hc0
  have HR1 := Aside0.mk hr1
  have HC1 := Aside0.mk hc1
  have HR2 := Aside0.mk hr2
  have HC2 := Aside0.mk hc2
  have HM := Aside0.mk hM
  have HRR := Aside0.mk hR
  have HK := Aside0.mk hK
  have HSZ := Aside0.mk hsz
  have HKS := Aside0.mk hks
  have HOK := Aside0.mk hok
  have HHD := Aside0.mk hhd
  have HGO := Aside0.mk hgo
  have hmm := @run_makeMap Try.prog
  have g1 : ((l0.length : Int) != (l1.length : Int)) = false := bne_eq_false_iff_eq.mpr he1
  have g2 : (l0.length != l1.length) = false := bne_eq_false_iff_eq.mpr (by exact_mod_cast he1)
  have g3 : ((l2.length : Int) != (l1.length : Int)) = false := bne_eq_false_iff_eq.mpr he2
  have g4 : (l2.length != l1.length) = false := bne_eq_false_iff_eq.mpr (by exact_mod_cast he2)
  clear hr0 hc0 hr1 hc1 hr2 hc2 hM hR hK hsz hks hok hhd hgo he1 he2
  go_enter Try.func13, Try.ntmps13
  go_wp2_with (first | (go_at_call 35; (with_reducible refine (seq_Sequences.newText k A0 c0 l0 A1 c1 l1 A2 c2 l2 a3 M K w HR0.out HC0.out HR1.out HC1.out HR2.out HC2.out HM.out HK.out HKS.out HOK.out).mono ?_); rintro e w1 ⟨g, rb, rfl, hT, hg, hrb, hb⟩; have HT1 := Aside0.mk hT; have HB1 := Aside0.mk hb; clear hT hg hrb hb) | (go_at_call 15; have HM2 := Aside0.mk (map_made w1 Try.prog 3); have HB2 := Aside0.mk (below_alloc HB1.out (.map #[] 0)); have HT2 := Aside0.mk (tx_below HT1.out (below_alloc (Below.refl _ w1) (.map #[] 0))); have HBW := Aside0.mk (show w.heap.size ≤ w1.heap.size from HB1.out.size); have HRB := Aside0.mk (show rb ≠ w1.heap.size from Nat.ne_of_lt (tx_map HT1.out)); have HBL2 := Aside0.mk (show w1.heap.size < (w1.alloc (.map #[] 0)).heap.size from map_lt HM2.out); clear HT1 HB1; generalize w1.alloc (.map #[] 0) = w2 at HM2 HB2 HT2 HBL2 ⊢; generalize w1.heap.size = b at HM2 HBW HRB HBL2 ⊢; (with_reducible refine (seq_Runs.calls k A0 c0 l0 A1 c1 l1 R w2 (Kd.C_below HR0.out HB2.out) HC0.out (Kd.C_below HR1.out HB2.out) HC1.out HRR.out).mono ?_); rintro e w3 ⟨vR, rfl, hS, hb⟩; obtain ⟨AR, cR, eR, lR, rR⟩ := Kd.S_reads hS; have HRW := Aside0.mk rR; have HT3 := Aside0.mk (tx_below HT2.out hb); have HM3 := Aside0.mk (map_below HM2.out hb); have HB3 := Aside0.mk (below_step HB2.out hb); have HBL := Aside0.mk (show b < w3.heap.size from Nat.lt_of_lt_of_le HBL2.out hb.size); clear hS hb rR lR HM2 HB2 HT2 HBL2; generalize hnR : R.length = nR at eR; subst eR))
  clear hmm g1 g2 g3 g4
  go_loopg [46] R.length (fun kq v46 w' => ∃ (i : Nat) (f : Int → Option Value), v46 = .int .i64 (i : Int) ∧ Aside0 (i ≤ R.length ∧ R.length - i = kq) ∧ Aside0 (MapIs Try.prog 3 w' b i f) ∧ Aside0 (BegRel w3 (begF R i) f) ∧ Aside0 (KeepBut w3 w' b none) ∧ Aside0 (Below w.heap.size w w'))
  case atStart => exact ⟨0, _, rfl, ⟨Nat.zero_le _, rfl⟩, HM3, ⟨fun _ => .inl ⟨rfl, rfl⟩⟩, ⟨KeepBut.refl _ _ _⟩, HB3⟩
  case round =>
    obtain ⟨i, f, rfl, HI, HMI, HREL, HKB, HB⟩ := hrel
    by_cases hlt : i < nR
    · have b0 : decide ((i : Int) < (nR : Int)) = true := decide_eq_true (by omega)
      have b1 : decide (i < nR) = true := decide_eq_true hlt
      have q0 := eq_true (show (i : Int) < (nR : Int) by omega)
      have q1 := eq_true hlt
      have hw := (show wrap64 ((i : Int) + 1) = ((i + 1 : Nat) : Int) by have := HSZ.out; unfold wrap64; omega)
      obtain ⟨ad, A, c, e, xr, hl, hC⟩ := at_row HRW.out i (by omega)
      cases e
      have hhd := List.all_eq_true.mp HHD.out (R.getD i []) (by rw [List.getD_eq_getElem?_getD, List.getElem?_eq_getElem (show i < R.length by omega)]; exact List.getElem_mem _)
      rw [Bool.and_eq_true, decide_eq_true_eq] at hhd
      have HREL1 := Aside0.mk (show BegRel w3 (begF R (i + 1)) (mput f (rd (R.getD i []) 0) (.slice A (R.getD i []).length c)) from rel_put HREL.out _ hl hC)
      generalize R.getD i [] = run at xr hl hC hhd HREL1
      obtain ⟨ah, e, xh⟩ := at_head hC hhd.1
      cases e
      have xr1 := kb_cell HKB.out HM3.out xr
      have xh1 := kb_cell HKB.out HM3.out xh
      generalize rd run 0 = x at xh1 xh hhd HREL1
      have HOX := Aside0.mk (show (Lit.int .i64 x).wf = true from hhd.2)
      have q2 := eq_true hhd.1
      have q3 := eq_true (show (0 : Int) < (run.length : Int) by have := hhd.1; omega)
      have HLT := Aside0.mk hlt
      clear xr xh hhd hlt hl hC
      go_wp2_with (first | (at_mapUpdate; refine wp_map_put rfl _ _ _ 54 rfl 22 HMI.out Try.underlying3 Try.underlying54 (by have := HI.out; have := HSZ.out; unfold maxLen; omega) rfl x _ rfl rfl HOX.out ?_; intro w4 hM4 hg4; have HM4 := Aside0.mk hM4; have HKB4 := Aside0.mk (kb_map HKB.out hg4); have HB4 := Aside0.mk (map_belowB HB.out hg4 (Nat.le_trans HBW.out (Nat.le_of_lt (map_lt HMI.out))) HBW.out); clear hM4 hg4))
      go_roundg (R.length - (i + 1))
      case measure => have := HI.out; have := HLT.out; omega
      case rel => exact ⟨i + 1, _, by first | rfl | go_num | rw [hw], ⟨by have := HLT.out; omega, rfl⟩, HM4, HREL1, HKB4, HB4⟩
    · have b0 : decide ((i : Int) < (nR : Int)) = false := decide_eq_false (by omega)
      have b1 : decide (i < nR) = false := decide_eq_false hlt
      have hik : i = R.length := by have := HI.out.1; omega
      have HREL0 := Aside0.mk (show BegRel w3 (begF R R.length) f from hik ▸ HREL.out)
      clear hlt hik
      go_wp2
      go_loopg [14, 58] R.length (fun kq v14 v58 w' => ∃ (i n : Nat) (gm : Int → Option (List Int)) (f : Int → Option Value) (out : List S42), v58 = .int .i64 (i : Int) ∧ Aside0 (i ≤ R.length ∧ R.length - i = kq) ∧ Aside0 (MapIs Try.prog 3 w' b n f) ∧ Aside0 (BegRel w3 gm f) ∧ Aside0 (KeepBut w3 w' b none) ∧ Aside0 (Below w.heap.size w w') ∧ Aside0 (Kd.S k42 42 w' w.heap.size (fun k_ => w3.heap.size ≤ k_) v14 out) ∧ Aside0 (seq_Sequences.goF l0 l2 M K a3 R (R.length - i) gm out = some r))
      case atStart => exact ⟨0, _, _, _, [], rfl, ⟨Nat.zero_le _, rfl⟩, HMI, HREL0, HKB, HB, ⟨Kd.S_nil _ _ _ _ _⟩, HGO⟩
      case round =>
        clear HGO HMI HREL HREL0 HKB HB b0 b1 HI
        obtain ⟨i, n, gm, f, out, rfl, HI, HMI, HREL, HKB, HB, HS, HGO⟩ := hrel
        by_cases hlt : i < nR
        · have b0 : decide ((i : Int) < (nR : Int)) = true := decide_eq_true (by omega)
          have b1 : decide (i < nR) = true := decide_eq_true hlt
          have q0 := eq_true (show (i : Int) < (nR : Int) by omega)
          have q1 := eq_true hlt
          have hw := (show wrap64 ((i : Int) + 1) = ((i + 1 : Nat) : Int) by have := HSZ.out; unfold wrap64; omega)
          obtain ⟨ad, A, c, e, xr, hl, hC⟩ := at_row HRW.out i (by omega)
          cases e
          have hgo := HGO.out
          rw [show R.length - i = (R.length - (i + 1)) + 1 by omega, seq_Sequences.goF, show R.length - (R.length - (i + 1) + 1) = i by omega] at hgo
          by_cases h1 : 0 < (R.getD i []).length
          · rw [if_pos h1] at hgo
            by_cases h2 : okI (rd (R.getD i []) 0) = true
            · rw [if_pos h2] at hgo
              generalize R.getD i [] = run0 at xr hl hC hgo h1 h2
              obtain ⟨ah, e, xh⟩ := at_head hC h1
              cases e
              have xr1 := kb_cell HKB.out HM3.out xr
              have xh1 := kb_cell HKB.out HM3.out xh
              obtain ⟨x0, hx0⟩ : ∃ x, rd run0 0 = x := ⟨_, rfl⟩
              rw [hx0] at xh1 hgo h2
              have HOX0 := Aside0.mk (show (Lit.int .i64 x0).wf = true from h2)
              have q2 := eq_true h1
              have q3 := eq_true (show (0 : Int) < (run0.length : Int) by omega)
              have HLT := Aside0.mk hlt
              have HLC := Aside0.mk (And.intro hl hC)
              clear xr xh h2 hlt hl hC hx0
              have HML := HMI
              rcases HREL.out x0 with ⟨hg0, hf0⟩ | ⟨lx, Ax, cx, hg0, hf0, _⟩
              · rw [hg0] at hgo
                have HGO1 := Aside0.mk hgo
                clear hgo HGO hg0 h1
                go_wp2_with (first | (at_lookup; refine wp_map_look rfl _ _ 54 true rfl 22 HML.out Try.underlying3 Try.underlying54 (z := .slice none 0 0) (by kernel_rfl) rfl x0 rfl HOX0.out ?_; simp only [hf0, Option.getD_none, Option.isSome_none, Option.getD_some, Option.isSome_some, if_true]))
                go_roundg (R.length - (i + 1))
                case measure => have := HI.out; have := HLT.out; omega
                case rel => exact ⟨i + 1, n, gm, f, out, by first | rfl | go_num | rw [hw], ⟨by have := HLT.out; omega, rfl⟩, HMI, HREL, HKB, HB, HS, HGO1⟩
              · rw [hg0] at hgo
                obtain ⟨⟨gF, atF⟩, hch, hgo⟩ := Option.bind_eq_some_iff.mp hgo
                obtain ⟨s, hsq, hgo⟩ := Option.bind_eq_some_iff.mp hgo
                by_cases hlo : out.length < 2932031007402
                · rw [if_pos hlo] at hgo
                  have HGO1 := Aside0.mk hgo
                  have HSQ := Aside0.mk hsq
                  have HLO := Aside0.mk hlo
                  have HCH := Aside0.mk hch
                  have HH1 := Aside0.mk h1
                  clear hgo HGO hg0 h1 hsq hlo hch
                  go_wp2_with (first | (at_lookup; refine wp_map_look rfl _ _ 54 true rfl 22 HML.out Try.underlying3 Try.underlying54 (z := .slice none 0 0) (by kernel_rfl) rfl x0 rfl HOX0.out ?_; simp only [hf0, Option.getD_none, Option.isSome_none, Option.getD_some, Option.isSome_some, if_true]))
                  clear HML hf0 xr1 xh1 q2 q3
                  go_loopg [16, 19, 20] (R.length + 1) (fun kq v16 v19 v20 w' => ∃ (more : Bool) (n : Nat) (gm : Int → Option (List Int)) (f : Int → Option Value) (run at_ : List Int) (A : Option Addr) (c : Nat), v20 = .bool more ∧ v16 = .slice A run.length c ∧ Aside0 (MapIs Try.prog 3 w' b n f) ∧ Aside0 (BegRel w3 gm f) ∧ Aside0 (KeepBut w3 w' b none) ∧ Aside0 (Below w.heap.size w w') ∧ Aside0 (Kd.S k42 42 w' w.heap.size (fun k_ => w3.heap.size ≤ k_ ∧ some k_ ≠ v19.ownBlock) u14 out) ∧ Aside0 (Kd.R (Kd.int .i64) 3 w' w.heap.size (fun k_ => w3.heap.size ≤ k_ ∧ some k_ ≠ u14.ownBlock) v19 at_) ∧ Aside0 ((more = true ∧ chainF l2 M kq gm run at_ = some (gF, atF) ∧ run.length ≤ c ∧ Kd.C (Kd.int .i64) w3 A run.length run) ∨ (more = false ∧ gm = gF ∧ at_ = atF)))
                  case atStart => exact ⟨true, n, gm, f, run0, [], _, _, rfl, rfl, HMI, HREL, HKB, HB, ⟨Kd.S_mono HS.out (fun _ hk => ⟨hk, by simp [Value.ownBlock]⟩)⟩, ⟨Kd.R_nil _ _ _ _ _⟩, ⟨.inl ⟨rfl, HCH.out, HLC.out⟩⟩⟩
                  case round =>
                    clear HMI HREL HKB HB HS HCH HLC HOX0 HH1
                    obtain ⟨more, n, gm, f, run, at_, A, c, rfl, rfl, HMI, HREL, HKB, HB, HS, HRA, HW⟩ := hrel
                    rcases HW.out with ⟨rfl, hch, hl, hC⟩ | ⟨rfl, rfl, rfl⟩
                    · cases gk with
                      | zero => exact absurd hch (by simp [chainF])
                      | succ k1 =>
                        obtain ⟨h1, h2, h3, h4, h5, h6, h7, h8⟩ := chain_next hch
                        obtain ⟨ah, e, xh⟩ := at_head hC h1
                        cases e
                        have xh1 := kb_cell HKB.out HM3.out xh
                        have HREL5 := rel_del HREL.out (rd run 0)
                        have hrx := HREL5 (nxtF l2 M (lastL (at_ ++ run)))
                        have HREL5 := Aside0.mk HREL5
                        obtain ⟨x, hx⟩ : ∃ x, rd run 0 = x := ⟨_, rfl⟩
                        rw [hx] at xh1 h2 h8 hrx HREL5
                        have HOX := Aside0.mk (show (Lit.int .i64 x).wf = true from h2)
                        have HLN := Aside0.mk h3
                        have HCR := Aside0.mk hC
                        have q2 := eq_true h1
                        have q3 := eq_true (show (0 : Int) < (run.length : Int) by omega)
                        have hat1 : (at_ ++ run).length = at_.length + run.length := List.length_append
                        obtain ⟨at1, nat⟩ : ∃ a, a = at_ ++ run := ⟨_, rfl⟩
                        rw [← nat] at h4 h5 h6 h7 h8 hrx hat1
                        have NAT := Aside0.mk nat
                        obtain ⟨y, hy⟩ : ∃ y, lastL at1 = y := ⟨_, rfl⟩
                        obtain ⟨z, hz⟩ : ∃ z, (at1.length : Int) - 1 = z := ⟨_, rfl⟩
                        have hy2 : rd at1 z = y := by rw [← hz]; exact hy
                        rw [hy] at h4 h5 h6 h7 h8 hrx
                        obtain ⟨nx, hnx⟩ : ∃ nx, nxtF l2 M y = nx := ⟨_, rfl⟩
                        rw [hnx] at h7 h8 hrx
                        have HNX := Aside0.mk hnx
                        have HONX := Aside0.mk (show (Lit.int .i64 nx).wf = true from h7)
                        have HY := Aside0.mk hy2
                        have HY0 := Aside0.mk h4
                        have HY1 := Aside0.mk h5
                        have HY2 := Aside0.mk h6
                        have HZ0 := Aside0.mk (show 0 ≤ z by omega)
                        have HZ1 := Aside0.mk (show z < (at1.length : Int) by omega)
                        have zw : wrap64 ((at1.length : Int) - 1) = z := by unfold wrap64; omega
                        have zw2 : IntKind.i64.wrap ((at1.length : Int) - 1) = z := (i64_w _).trans zw
                        have q4 := eq_true HZ0.out
                        have q5 := eq_true HZ1.out
                        clear h1 h2 h3 h4 h5 h6 h7 hch hl hC xh hx nat hy hz hy2 hnx hat1 HW
                        rcases h8 with ⟨h8, h9⟩ | ⟨l, h8, h9⟩
                        · have hfx : mdel f x nx = none := by
                            rcases hrx with ⟨_, h⟩ | ⟨l, A, c, h, _⟩
                            · exact h
                            · rw [h8] at h; cases h
                          have H9 := Aside0.mk h9
                          clear h8 h9 hrx HREL
                          go_wp2_with (first | (at_delete; refine wp_map_del rfl _ _ 54 rfl 22 HMI.out Try.underlying3 Try.underlying54 rfl x rfl HOX.out ?_; intro w5 hM5 hg5; have HM5 := Aside0.mk hM5; have HKB5 := Aside0.mk (kb_map HKB.out hg5); have HB5 := Aside0.mk (map_belowB HB.out hg5 (Nat.le_trans HBW.out (Nat.le_of_lt (map_lt HMI.out))) HBW.out); have HS5 := Aside0.mk (Kd.S_grown HS.out hg5 (fun k_ hk e => by injection e with e; have := HBL.out; have := hk.1; omega)); have HR5 := Aside0.mk (Kd.R_grown HRA.out hg5 (fun k_ hk e => by injection e with e; have := HBL.out; have := hk.1; omega)); clear hM5 hg5 HMI HKB HB HS HRA) | ((with_reducible refine gate_builtin (b := .append) (xs := #[.tmp 77, .tmp 78]) rfl ?_); at_builtin; refine Kd.R_append_row (Value.int .i64) (0 : Int) (h1 := fun _ => rfl) (w0 := w) w.heap.size rfl (.tmp 77) (.tmp 78) 22 3 (.int .i64 0) 8 rfl Try.underlying22 (by kernel_rfl) rfl (by omega) u19 at_ run (some ah) run.length c (fun k_ => w3.heap.size ≤ k_ ∧ some k_ ≠ u14.ownBlock) rfl rfl ?aF ?aO ?aR ?aB ?aS ?aL ?_; (case aO => exact HR5.out); (case aR => exact kb_C HKB5.out HM3.out HCR.out); (case aB => exact HB5.out); (case aS => exact HB5.out.size); (case aL => have := HLN.out; omega); (case aF => exact (fun k_ hk => ⟨Nat.le_trans HKB5.out.1 hk, fun e => by have := Kd.S_lt HS5.out k_ e.symm; omega⟩)); intro v6 w6 ho hb hg hat; rw [← NAT.out] at ho; have HR6 := Aside0.mk ho; have HB6 := Aside0.mk hb; have HS6 := Aside0.mk (Kd.S_after HS5.out hg hat); have HKB6 := Aside0.mk (kb_grown HKB5.out hg (fun k_ e => (HR5.out.1 k_ e).1)); have HM6 := Aside0.mk (map_same HM5.out (hg.block b (map_lt HM5.out) (fun e => by have := (HR5.out.1 b e.symm).1; have := HBL.out; omega))); clear ho hb hg hat HR5 HB5 HS5 HKB5 HM5; obtain ⟨A6, c6, e6, l6, r6⟩ := Kd.R_reads HR6.out; obtain ⟨a6, ea6, x6⟩ := Kd.at_int r6 z HZ0.out HZ1.out; subst ea6; subst e6; rw [HY.out] at x6; clear l6 r6) | (go_at_call 36; (with_reducible refine ((show Calls Try.prog 36 #[.pointer (some ⟨g, 0, none⟩), .int .i64 y] w6 (fun e w' => e = .returned (.tuple #[.int .i64 nx, .bool (isoB (rd l2 y))]) ∧ Below w6.heap.size w6 w') from by have h1 := b_iso (kb_tx HKB6.out HM3.out HT3.out HRB.out) y HY0.out HY1.out HY2.out; rw [← HNX.out]; unfold nxtF; exact h1)).mono ?_); rintro e w7 ⟨rfl, hb⟩; have HR7 := Aside0.mk (Kd.R_below HR6.out hb); have HB7 := Aside0.mk (below_step HB6.out hb); have HS7 := Aside0.mk (Kd.S_below HS6.out hb); have HKB7 := Aside0.mk (kb_below HKB6.out hb); have HML := Aside0.mk (map_below HM6.out hb); clear hb x6) | (at_lookup; refine wp_map_look rfl _ _ 54 true rfl 22 HML.out Try.underlying3 Try.underlying54 (z := .slice none 0 0) (by kernel_rfl) rfl nx rfl HONX.out ?_; simp only [hfx, Option.getD_none, Option.isSome_none, Option.getD_some, Option.isSome_some, if_true]))
                          go_roundg k1
                          case measure => omega
                          case rel => exact ⟨false, n, _, _, [], at1, none, 0, rfl, by first | rfl | simp, HML, HREL5, HKB7, HB7, HS7, HR7, ⟨.inr ⟨rfl, (congrArg Prod.fst H9.out).symm, (congrArg Prod.snd H9.out).symm⟩⟩⟩
                        · obtain ⟨l', A', c', h10, hfx, h11, h12⟩ : ∃ l' A' c', gdel gm x nx = some l' ∧ mdel f x nx = some (.slice A' l'.length c') ∧ l'.length ≤ c' ∧ Kd.C (Kd.int .i64) w3 A' l'.length l' := by
                            rcases hrx with ⟨h, _⟩ | h
                            · rw [h8] at h; cases h
                            · exact h
                          rw [h8] at h10
                          obtain rfl := Option.some.inj h10
                          have H9 := Aside0.mk h9
                          have H12 := Aside0.mk (And.intro h11 h12)
                          clear h8 h9 hrx h10 h11 h12 HREL
                          go_wp2_with (first | (at_delete; refine wp_map_del rfl _ _ 54 rfl 22 HMI.out Try.underlying3 Try.underlying54 rfl x rfl HOX.out ?_; intro w5 hM5 hg5; have HM5 := Aside0.mk hM5; have HKB5 := Aside0.mk (kb_map HKB.out hg5); have HB5 := Aside0.mk (map_belowB HB.out hg5 (Nat.le_trans HBW.out (Nat.le_of_lt (map_lt HMI.out))) HBW.out); have HS5 := Aside0.mk (Kd.S_grown HS.out hg5 (fun k_ hk e => by injection e with e; have := HBL.out; have := hk.1; omega)); have HR5 := Aside0.mk (Kd.R_grown HRA.out hg5 (fun k_ hk e => by injection e with e; have := HBL.out; have := hk.1; omega)); clear hM5 hg5 HMI HKB HB HS HRA) | ((with_reducible refine gate_builtin (b := .append) (xs := #[.tmp 77, .tmp 78]) rfl ?_); at_builtin; refine Kd.R_append_row (Value.int .i64) (0 : Int) (h1 := fun _ => rfl) (w0 := w) w.heap.size rfl (.tmp 77) (.tmp 78) 22 3 (.int .i64 0) 8 rfl Try.underlying22 (by kernel_rfl) rfl (by omega) u19 at_ run (some ah) run.length c (fun k_ => w3.heap.size ≤ k_ ∧ some k_ ≠ u14.ownBlock) rfl rfl ?aF ?aO ?aR ?aB ?aS ?aL ?_; (case aO => exact HR5.out); (case aR => exact kb_C HKB5.out HM3.out HCR.out); (case aB => exact HB5.out); (case aS => exact HB5.out.size); (case aL => have := HLN.out; omega); (case aF => exact (fun k_ hk => ⟨Nat.le_trans HKB5.out.1 hk, fun e => by have := Kd.S_lt HS5.out k_ e.symm; omega⟩)); intro v6 w6 ho hb hg hat; rw [← NAT.out] at ho; have HR6 := Aside0.mk ho; have HB6 := Aside0.mk hb; have HS6 := Aside0.mk (Kd.S_after HS5.out hg hat); have HKB6 := Aside0.mk (kb_grown HKB5.out hg (fun k_ e => (HR5.out.1 k_ e).1)); have HM6 := Aside0.mk (map_same HM5.out (hg.block b (map_lt HM5.out) (fun e => by have := (HR5.out.1 b e.symm).1; have := HBL.out; omega))); clear ho hb hg hat HR5 HB5 HS5 HKB5 HM5; obtain ⟨A6, c6, e6, l6, r6⟩ := Kd.R_reads HR6.out; obtain ⟨a6, ea6, x6⟩ := Kd.at_int r6 z HZ0.out HZ1.out; subst ea6; subst e6; rw [HY.out] at x6; clear l6 r6) | (go_at_call 36; (with_reducible refine ((show Calls Try.prog 36 #[.pointer (some ⟨g, 0, none⟩), .int .i64 y] w6 (fun e w' => e = .returned (.tuple #[.int .i64 nx, .bool (isoB (rd l2 y))]) ∧ Below w6.heap.size w6 w') from by have h1 := b_iso (kb_tx HKB6.out HM3.out HT3.out HRB.out) y HY0.out HY1.out HY2.out; rw [← HNX.out]; unfold nxtF; exact h1)).mono ?_); rintro e w7 ⟨rfl, hb⟩; have HR7 := Aside0.mk (Kd.R_below HR6.out hb); have HB7 := Aside0.mk (below_step HB6.out hb); have HS7 := Aside0.mk (Kd.S_below HS6.out hb); have HKB7 := Aside0.mk (kb_below HKB6.out hb); have HML := Aside0.mk (map_below HM6.out hb); clear hb x6) | (at_lookup; refine wp_map_look rfl _ _ 54 true rfl 22 HML.out Try.underlying3 Try.underlying54 (z := .slice none 0 0) (by kernel_rfl) rfl nx rfl HONX.out ?_; simp only [hfx, Option.getD_none, Option.isSome_none, Option.getD_some, Option.isSome_some, if_true]))
                          go_roundg k1
                          case measure => omega
                          case rel => exact ⟨true, n, _, _, l, at1, A', c', rfl, rfl, HML, HREL5, HKB7, HB7, HS7, HR7, ⟨.inl ⟨rfl, H9.out, H12.out⟩⟩⟩
                    · obtain ⟨h0, h1, h2, h3, h4, h5, h6, h7, h8, v1, v2, hv1, hv2, hs⟩ := seq_Sequences.seq_next HSQ.out
                      have HGO2 := Aside0.mk (show seq_Sequences.goF l0 l2 M K a3 R (R.length - (i + 1)) gm (out ++ [⟨at_, rd l0 (rd at_ 0), dirF (rd l0 (rd at_ 0)) v1, dirF (rd l0 (lastL at_)) (behF l2 M (lastL at_) a3 v2)⟩]) = some r from hs ▸ HGO1.out)
                      clear HGO1 HSQ hs HW
                      obtain ⟨A9, c9, e9, l9, r9⟩ := Kd.R_reads HRA.out
                      subst e9
                      have HCA := Aside0.mk r9
                      obtain ⟨atF, hatF⟩ : ∃ a, at_ = a := ⟨_, rfl⟩
                      subst hatF
                      obtain ⟨x, hx⟩ : ∃ x, rd at_ 0 = x := ⟨_, rfl⟩
                      obtain ⟨y, hy⟩ : ∃ y, lastL at_ = y := ⟨_, rfl⟩
                      obtain ⟨z, hz⟩ : ∃ z, (at_.length : Int) - 1 = z := ⟨_, rfl⟩
                      have hy2 : rd at_ z = y := by rw [← hz]; exact hy
                      rw [hx] at h1 h2 h7 hv1
                      rw [hy] at h3 h4 h5 h6 h8 hv2
                      rw [hx, hy] at HGO2
                      have HX := Aside0.mk hx
                      have HY := Aside0.mk hy2
                      have HZ := Aside0.mk (show wrap64 ((at_.length : Int) - 1) = z by have h99 := Kd.C_max r9; unfold wrap64; omega)
                      have HZ0 := Aside0.mk (show 0 ≤ z by omega)
                      have HZ1 := Aside0.mk (show z < (at_.length : Int) by omega)
                      have HX0 := Aside0.mk (And.intro h1 h2)
                      have HY0 := Aside0.mk (And.intro h3 (And.intro h4 (And.intro h5 h6)))
                      have HWX := Aside0.mk (show (Lit.int .i64 x).wf = true from h7)
                      have HWY := Aside0.mk (show (Lit.int .i64 y).wf = true from h8)
                      have HV1 := Aside0.mk hv1
                      have HV2 := Aside0.mk hv2
                      clear h0 h1 h2 h3 h4 h5 h6 h7 h8 hv1 hv2 l9 r9 hx hy hz hy2
                      go_wp2_with (first | (go_at_call 37; (with_reducible refine (p_seq (kb_tx HKB.out HM3.out HT3.out HRB.out) HCA.out x y z _ _ v1 v2 HZ.out HZ0.out HZ1.out HX.out HY.out HX0.out.1 HX0.out.2 HY0.out.1 HY0.out.2.1 HY0.out.2.2.1 HY0.out.2.2.2 HWX.out HWY.out (rk_is K x K.length) (rk_is K y K.length) HV1.out HV2.out).mono ?_); rintro e w8 ⟨rfl, hb⟩; have HRA8 := Aside0.mk (Kd.R_below HRA.out hb); have HB8 := Aside0.mk (below_step HB.out hb); have HS8 := Aside0.mk (Kd.S_below HS.out hb); have HKB8 := Aside0.mk (kb_below HKB.out hb); have HMI8 := Aside0.mk (map_below HMI.out hb); clear hb) | ((with_reducible refine gate_builtin (b := .append) (xs := #[.tmp 97, .tmp 101]) rfl ?_); at_builtin; refine Kd.S_append k42 (w0 := w) w.heap.size rfl (.tmp 97) (.tmp 101) 27 42 (.agg #[(.slice none 0 0), (.int .i64 0), (.int .i64 0), (.int .i64 0)]) 48 rfl Try.underlying27 (by kernel_rfl) rfl (by decide) (by omega) u14 out ⟨at_, rd l0 x, dirF (rd l0 x) v1, dirF (rd l0 y) (behF l2 M y a3 v2)⟩ [.slice A9 at_.length c9, .int .i64 (rd l0 x), .int .i64 (dirF (rd l0 x) v1), .int .i64 (dirF (rd l0 y) (behF l2 M y a3 v2))] (fun k_ => w3.heap.size ≤ k_) (fun k_ => some k_ = (Value.slice A9 at_.length c9).ownBlock) rfl rfl ?aP ?aQ ?aF ?aO ?aB ?aS ?aL ?_; (case aP => exact k42_mkM _ _ _ _ (Kd.R_mono (Kd.R_tight rfl HRA8.out) (fun _ e => e))); (case aQ => exact (fun k_ hk => ⟨(HRA8.out.1 k_ hk.symm).1, (HRA8.out.1 k_ hk.symm).2⟩)); (case aF => exact (fun k_ hk => Nat.le_trans HKB8.out.1 hk)); (case aO => exact Kd.S_mono HS8.out (fun k_ hk => ⟨hk.1, hk.2⟩)); (case aB => exact HB8.out); (case aS => exact HB8.out.size); (case aL => have := HLO.out; omega); intro v9 w9 ho hb hg hat; have HS9 := Aside0.mk ho; have HB9 := Aside0.mk hb; have HKB9 := Aside0.mk (kb_grown HKB8.out hg (fun k_ e => (Kd.S_R HS8.out).1 k_ e |>.1)); have HMI9 := Aside0.mk (map_same HMI8.out (hg.block b (map_lt HMI8.out) (fun e => by have := ((Kd.S_R HS8.out).1 b e.symm).1; have := HBL.out; omega))); clear ho hb hg hat HS8 HB8 HKB8 HMI8 HRA8))
                      go_roundg (R.length - (i + 1))
                      case measure => have := HI.out; have := HLT.out; omega
                      case rel => exact ⟨i + 1, n, gm, f, _, by first | rfl | go_num | rw [hw], ⟨by have := HLT.out; omega, rfl⟩, HMI9, HREL, HKB9, HB9, HS9, HGO2⟩
                · rw [if_neg hlo] at hgo; cases hgo
            · rw [if_neg h2] at hgo; cases hgo
          · rw [if_neg h1] at hgo; cases hgo
        · have b0 : decide ((i : Int) < (nR : Int)) = false := decide_eq_false (by omega)
          have b1 : decide (i < nR) = false := decide_eq_false hlt
          have hik : i = R.length := by have := HI.out.1; omega
          have hgo := HGO.out
          rw [show R.length - i = 0 by omega, seq_Sequences.goF] at hgo
          obtain rfl := Option.some.inj hgo
          clear hlt hgo
          go_wp2
          go_ret
          exact ⟨_, by first | rfl | simp [*], Kd.S_mono HS.out (fun _ _ => trivial), HB.out⟩
theorem seq_Sequences.calls (k : Nat) (A0 : Option Addr) (c0 : Nat) (l0 : List Int) (A1 : Option Addr) (c1 : Nat) (l1 : List Int) (A2 : Option Addr) (c2 : Nat) (l2 : List Int) (a3 : Int) (r : List (S42)) (w : World) (hr0 : Kd.C (Kd.int .i64) w A0 l0.length l0) (hc0 : l0.length ≤ c0) (hr1 : Kd.C (Kd.int .i64) w A1 l1.length l1) (hc1 : l1.length ≤ c1) (hr2 : Kd.C (Kd.int .i64) w A2 l2.length l2) (hc2 : l2.length ≤ c2) (h : seq_Sequences.f k l0 l1 l2 a3 = some r) :
    Calls Try.prog 13 #[.slice A0 l0.length c0, .slice A1 l1.length c1, .slice A2 l2.length c2, .int .i64 a3] w fun e w' => ∃ v0_ : Value, e = .returned (v0_) ∧ Kd.S k42 42 w' w.heap.size (fun _ => True) v0_ r ∧ Below w.heap.size w w' := by
  unfold seq_Sequences.f at h
  by_cases e1 : (l0.length : Int) = (l1.length : Int)
  · rw [if_pos e1] at h
    by_cases e2 : (l2.length : Int) = (l1.length : Int)
    · rw [if_pos e2] at h
      obtain ⟨M, hM, h⟩ := Option.bind_eq_some_iff.mp h
      obtain ⟨R, hR, h⟩ := Option.bind_eq_some_iff.mp h
      obtain ⟨K, hK, h⟩ := Option.bind_eq_some_iff.mp h
      by_cases h1 : R.length ≤ 17592186043000
      · rw [if_pos h1] at h
        by_cases h2 : K.length ≤ 17592186043000
        · rw [if_pos h2] at h
          by_cases h3 : K.all okI = true
          · rw [if_pos h3] at h
            by_cases h4 : seq_Sequences.headsF R = true
            · rw [if_pos h4] at h
              exact seq_Sequences.main k A0 c0 l0 A1 c1 l1 A2 c2 l2 a3 r w hr0 hc0 hr1 hc1 hr2 hc2 M K R e1 e2 hM hR hK h1 h2 h3 h4 h
            · rw [if_neg h4] at h; cases h
          · rw [if_neg h3] at h; cases h
        · rw [if_neg h2] at h; cases h
      · rw [if_neg h1] at h; cases h
    · rw [if_neg e2] at h
      obtain rfl := Option.some.inj h
      exact seq_Sequences.off2 k A0 c0 l0 A1 c1 l1 A2 c2 l2 a3 w hr0 hc0 hr1 hc1 hr2 hc2 e1 e2
  · rw [if_neg e1] at h
    obtain rfl := Option.some.inj h
    exact seq_Sequences.off1 k A0 c0 l0 A1 c1 l1 A2 c2 l2 a3 w hr0 hc0 hr1 hc1 hr2 hc2 e1
end
def naskhlaw23_awake.f (k : Nat)  : Option (Bool) := (some (([0, 1, 0] : List Int) : List Int)).bind fun y179 => ((seq_Sequences.f k (([0, 1, 0] : List Int)) y179 y179 0).bind fun t185 => (if (t185.length : Int) = 3 then (if 1 < (t185.length : Int) then ((slices_Equal_int_int.f k ((rd_T42 t185 1).f0) (([1] : List Int))).bind fun t192 => (if t192 = true then (if ((rd_T42 t185 1).f2) = 1 then (if ((rd_T42 t185 1).f3) = 1 then (some (((rd_T42 t185 1).f1) == 1)) else (some false)) else (some false)) else (some false))) else (none)) else (some false)))
theorem naskhlaw23_awake.mono : ∀ k, LeO (naskhlaw23_awake.f k ) (naskhlaw23_awake.f (k + 1) ) := by
  intro  k
  unfold naskhlaw23_awake.f
  repeat' first
      | (with_reducible exact seq_Sequences.mono _ _ _ _ _)
      | (with_reducible exact slices_Equal_int_int.mono _ _ _)
      | (with_reducible exact LeO.refl _)
      | (with_reducible exact LeO.none _)
      | (with_reducible refine LeO.ite ?_ ?_)
      | (with_reducible refine LeO.bind ?_ (fun _ => ?_))
      | exact seq_Sequences.mono _ _ _ _ _
      | exact slices_Equal_int_int.mono _ _ _
      | exact LeO.none _
      | refine LeO.ite ?_ ?_
      | refine LeO.bind ?_ (fun _ => ?_)
set_option maxHeartbeats 8000000 in
set_option maxRecDepth 100000 in
theorem naskhlaw23_awake.calls (k : Nat)  (r : Bool) (w : World) (h : naskhlaw23_awake.f k  = some r) :
    Calls Try.prog 10 #[] w fun e w' => e = .returned (.bool r) ∧ Below w.heap.size w w' := by
  have HB := Aside0.mk (Below.refl w.heap.size w)
  have H : ((some (([0, 1, 0] : List Int) : List Int)).bind fun y179 => ((seq_Sequences.f k (([0, 1, 0] : List Int)) y179 y179 0).bind fun t185 => (if (t185.length : Int) = 3 then (if 1 < (t185.length : Int) then ((slices_Equal_int_int.f k ((rd_T42 t185 1).f0) (([1] : List Int))).bind fun t192 => (if t192 = true then (if ((rd_T42 t185 1).f2) = 1 then (if ((rd_T42 t185 1).f3) = 1 then (some (((rd_T42 t185 1).f1) == 1)) else (some false)) else (some false)) else (some false))) else (none)) else (some false)))) = some r := h
  clear h
  obtain ⟨y179, hy179⟩ : ∃ y_ : List Int, y_ = (([0, 1, 0] : List Int)) := ⟨_, rfl⟩
  replace H : ((seq_Sequences.f k (([0, 1, 0] : List Int)) y179 y179 0).bind fun t185 => (if (t185.length : Int) = 3 then (if 1 < (t185.length : Int) then ((slices_Equal_int_int.f k ((rd_T42 t185 1).f0) (([1] : List Int))).bind fun t192 => (if t192 = true then (if ((rd_T42 t185 1).f2) = 1 then (if ((rd_T42 t185 1).f3) = 1 then (some (((rd_T42 t185 1).f1) == 1)) else (some false)) else (some false)) else (some false))) else (none)) else (some false))) = some r := by first | (rw [hy179]; with_reducible exact H) | (have H2_ := (Option.bind_some _ _).symm.trans H; rw [hy179]; with_reducible exact H2_) | (have H2_ := (Option.bind_some _ _).symm.trans H; with_reducible exact H2_) | with_reducible exact H | (rw [hy179]; exact H) | exact H
  have Ny179 := Aside0.mk hy179
  clear hy179
  obtain ⟨y182, hy182⟩ : ∃ y_ : List Int, y_ = (([0, 1, 0] : List Int)) := ⟨_, rfl⟩
  replace H : ((seq_Sequences.f k y182 y179 y179 0).bind fun t185 => (if (t185.length : Int) = 3 then (if 1 < (t185.length : Int) then ((slices_Equal_int_int.f k ((rd_T42 t185 1).f0) (([1] : List Int))).bind fun t192 => (if t192 = true then (if ((rd_T42 t185 1).f2) = 1 then (if ((rd_T42 t185 1).f3) = 1 then (some (((rd_T42 t185 1).f1) == 1)) else (some false)) else (some false)) else (some false))) else (none)) else (some false))) = some r := by first | (rw [hy182]; with_reducible exact H) | (have H2_ := (Option.bind_some _ _).symm.trans H; rw [hy182]; with_reducible exact H2_) | (have H2_ := (Option.bind_some _ _).symm.trans H; with_reducible exact H2_) | with_reducible exact H | (rw [hy182]; exact H) | exact H
  have Ny182 := Aside0.mk hy182
  clear hy182
  replace H := Option.bind_eq_some_iff.mp H
  obtain ⟨t185, A10, H⟩ := H
  replace H : (if (t185.length : Int) = 3 then (if 1 < (t185.length : Int) then ((slices_Equal_int_int.f k ((rd_T42 t185 1).f0) (([1] : List Int))).bind fun t192 => (if t192 = true then (if ((rd_T42 t185 1).f2) = 1 then (if ((rd_T42 t185 1).f3) = 1 then (some (((rd_T42 t185 1).f1) == 1)) else (some false)) else (some false)) else (some false))) else (none)) else (some false)) = some r := H
  have A1 := Aside0.mk A10
  clear A10
  by_cases c2 : (t185.length : Int) = 3
  · rw [if_pos c2] at H
    have c2b0 : ((t185.length : Int) == 3) = true := beq_iff_eq.mpr c2
    have c2b1 : ((t185.length : Int) != 3) = false := bne_eq_false_iff_eq.mpr c2
    clear c2
    by_cases c3 : 1 < (t185.length : Int)
    · rw [if_pos c3] at H
      have c3b0 : decide (1 < (t185.length : Int)) = true := decide_eq_true c3
      have c3b1 : decide (1 < t185.length) = true := decide_eq_true (by omega)
      clear c3
      obtain ⟨y189, hy189⟩ : ∃ y_ : List Int, y_ = (([1] : List Int)) := ⟨_, rfl⟩
      replace H : ((slices_Equal_int_int.f k ((rd_T42 t185 1).f0) y189).bind fun t192 => (if t192 = true then (if ((rd_T42 t185 1).f2) = 1 then (if ((rd_T42 t185 1).f3) = 1 then (some (((rd_T42 t185 1).f1) == 1)) else (some false)) else (some false)) else (some false))) = some r := by first | (rw [hy189]; with_reducible exact H) | (have H2_ := (Option.bind_some _ _).symm.trans H; rw [hy189]; with_reducible exact H2_) | (have H2_ := (Option.bind_some _ _).symm.trans H; with_reducible exact H2_) | with_reducible exact H | (rw [hy189]; exact H) | exact H
      have Ny189 := Aside0.mk hy189
      clear hy189
      replace H := Option.bind_eq_some_iff.mp H
      obtain ⟨t192, A40, H⟩ := H
      replace H : (if t192 = true then (if ((rd_T42 t185 1).f2) = 1 then (if ((rd_T42 t185 1).f3) = 1 then (some (((rd_T42 t185 1).f1) == 1)) else (some false)) else (some false)) else (some false)) = some r := H
      have A4 := Aside0.mk A40
      clear A40
      by_cases c5 : t192 = true
      · subst c5
        have H1 : (if ((rd_T42 t185 1).f2) = 1 then (if ((rd_T42 t185 1).f3) = 1 then (some (((rd_T42 t185 1).f1) == 1)) else (some false)) else (some false)) = some r := by rw [if_pos rfl] at H; exact H
        clear H
        have H := H1
        clear H1
        by_cases c6 : ((rd_T42 t185 1).f2) = 1
        · rw [if_pos c6] at H
          have c6b0 : (((rd_T42 t185 1).f2) == 1) = true := beq_iff_eq.mpr c6
          have c6b1 : (((rd_T42 t185 1).f2) != 1) = false := bne_eq_false_iff_eq.mpr c6
          clear c6
          by_cases c7 : ((rd_T42 t185 1).f3) = 1
          · rw [if_pos c7] at H
            have c7b0 : (((rd_T42 t185 1).f3) == 1) = true := beq_iff_eq.mpr c7
            have c7b1 : (((rd_T42 t185 1).f3) != 1) = false := bne_eq_false_iff_eq.mpr c7
            clear c7
            obtain rfl := Option.some.inj H
            go_enter Try.func10, Try.ntmps10
            go_wp2_with (first | ((with_reducible refine gate_dst (N := 3) rfl ?_); (try (refine gate_guard (by rfl) ?_; dsimp only)); refine Kd.R_lit (Kd.int .i64) _ 3 ?hg (N := 3) ?hd (xs := ([0, 1, 0] : List Int)) (inner := [.int .i64 0, .int .i64 1, .int .i64 0]) (ok := fun _ => True) (okp := fun _ => True) ?hr ?hp (fun _ hk => hk) trivial (Below.refl _ _) (Nat.le_refl _) (by simp) ?_; (case hd => rfl); (case hg => rfl); (case hr => first | (go_simp; done) | (go_simp; rfl)); (case hp => exact (Reps.one (show Kd.M (Kd.int .i64) _ _ _ 0 [.int .i64 0] from rfl) (Reps.one (show Kd.M (Kd.int .i64) _ _ _ 1 [.int .i64 1] from rfl) (Reps.one (show Kd.M (Kd.int .i64) _ _ _ 0 [.int .i64 0] from rfl) (Reps.none _ _))))); intro v180 w8 ho9 hb hg_ hnew_; clear hg_ hnew_; (first | rw [← Ny179.out] at ho9 | (simp only [Int.reduceToNat] at ho9; rw [← Ny179.out] at ho9)); have n0_ := Aside0.mk (Kd.R_lower ho9 (below_size (by repeat (first | (with_reducible first | exact HB.out | apply below_alloc | apply pw_below_drewN | apply below_drew1) | exact HB.out)))); have n1_ := Aside0.mk (below_step (by repeat (first | (with_reducible first | exact HB.out | apply below_alloc | apply pw_below_drewN | apply below_drew1) | exact HB.out)) hb); clear HB; have HO181 := n0_; have HB := n1_; clear n0_ n1_; clear hb ho9) | ((with_reducible refine gate_dst (N := 4) rfl ?_); (try (refine gate_guard (by rfl) ?_; dsimp only)); refine Kd.R_lit (Kd.int .i64) _ 3 ?hg (N := 4) ?hd (xs := ([0, 1, 0] : List Int)) (inner := [.int .i64 0, .int .i64 1, .int .i64 0]) (ok := fun _ => True) (okp := fun _ => True) ?hr ?hp (fun _ hk => hk) trivial (Below.refl _ _) (Nat.le_refl _) (by simp) ?_; (case hd => rfl); (case hg => rfl); (case hr => first | (go_simp; done) | (go_simp; rfl)); (case hp => exact (Reps.one (show Kd.M (Kd.int .i64) _ _ _ 0 [.int .i64 0] from rfl) (Reps.one (show Kd.M (Kd.int .i64) _ _ _ 1 [.int .i64 1] from rfl) (Reps.one (show Kd.M (Kd.int .i64) _ _ _ 0 [.int .i64 0] from rfl) (Reps.none _ _))))); intro v183 w10 ho11 hb hg_ hnew_; clear hg_ hnew_; (first | rw [← Ny182.out] at ho11 | (simp only [Int.reduceToNat] at ho11; rw [← Ny182.out] at ho11)); have n0_ := Aside0.mk (Kd.R_elder' (by (with_reducible repeat (first | apply Kd.R_alloc | apply Kd.R_drewN | apply Kd.R_drew)); exact HO181.out) (Kd.R_base ho11) hb); have n1_ := Aside0.mk (Kd.R_lower (Kd.R_new' ho11 (Kd.R_lt (by (with_reducible repeat (first | apply Kd.R_alloc | apply Kd.R_drewN | apply Kd.R_drew)); exact HO181.out))) (below_size (by repeat (first | (with_reducible first | exact HB.out | apply below_alloc | apply pw_below_drewN | apply below_drew1) | exact HB.out)))); have n2_ := Aside0.mk (below_step (by repeat (first | (with_reducible first | exact HB.out | apply below_alloc | apply pw_below_drewN | apply below_drew1) | exact HB.out)) hb); clear HO181; clear HB; have HO181 := n0_; have HO184 := n1_; have HB := n2_; clear n0_ n1_ n2_; clear hb ho11; obtain ⟨Ao12, co12, eo12⟩ := Kd.R_slice HO184.out; subst eo12; obtain ⟨Ao13, co13, eo13⟩ := Kd.R_slice HO181.out; subst eo13) | ((with_reducible refine gate_callee (f := 13) rfl ?_); refine goesL_ (some 7) rfl rfl Try.func13 (by kernel_rfl) rfl #[.slice Ao12 y182.length co12, .slice Ao13 y179.length co13, .slice Ao13 y179.length co13, .int .i64 0] rfl (by (try simp only [List.map_toArray, List.map_cons, List.map_nil]); first | done | rfl | (simp only [List.length_drop, List.length_take]; rfl)) ?_; (with_reducible refine (seq_Sequences.calls k _ _ y182 _ _ y179 _ _ y179 0 t185 _ ?side1 ?side2 ?side3 ?side4 ?side5 ?side6 A1.out).mono ?_); (case side1 => repeat (first | exact (Kd.R_reads' HO184.out).2.2 | (with_reducible refine Kd.C_alloc ?_ _) | (with_reducible refine Kd.C_drewN ?_ _) | (with_reducible refine Kd.C_drew ?_))); (case side2 => exact (Kd.R_reads' HO184.out).2.1); (case side3 => repeat (first | exact (Kd.R_reads' HO181.out).2.2 | (with_reducible refine Kd.C_alloc ?_ _) | (with_reducible refine Kd.C_drewN ?_ _) | (with_reducible refine Kd.C_drew ?_))); (case side4 => exact (Kd.R_reads' HO181.out).2.1); (case side5 => repeat (first | exact (Kd.R_reads' HO181.out).2.2 | (with_reducible refine Kd.C_alloc ?_ _) | (with_reducible refine Kd.C_drewN ?_ _) | (with_reducible refine Kd.C_drew ?_))); (case side6 => exact (Kd.R_reads' HO181.out).2.1); rintro e w14 ⟨v186, rfl, ho0, hb⟩; refine ⟨_, rfl, ?_⟩; have n0_ := Aside0.mk (Kd.R_below (by (with_reducible repeat (first | apply Kd.R_alloc | apply Kd.R_drewN | apply Kd.R_drew)); exact HO181.out) hb); have n1_ := Aside0.mk (Kd.R_below (by (with_reducible repeat (first | apply Kd.R_alloc | apply Kd.R_drewN | apply Kd.R_drew)); exact HO184.out) hb); have n2_ := Aside0.mk (Kd.S_lower (Kd.S_new' (Kd.S_new' ho0 (Kd.R_lt (by (with_reducible repeat (first | apply Kd.R_alloc | apply Kd.R_drewN | apply Kd.R_drew)); exact HO181.out))) (Kd.R_lt (by (with_reducible repeat (first | apply Kd.R_alloc | apply Kd.R_drewN | apply Kd.R_drew)); exact HO184.out))) (below_size (by repeat (first | (with_reducible first | exact HB.out | apply below_alloc | apply pw_below_drewN | apply below_drew1) | exact HB.out)))); have n3_ := Aside0.mk (below_step (by repeat (first | (with_reducible first | exact HB.out | apply below_alloc | apply pw_below_drewN | apply below_drew1) | exact HB.out)) hb); clear HO181; clear HO184; clear HB; have HO181 := n0_; have HO184 := n1_; have HO187 := n2_; have HB := n3_; clear n0_ n1_ n2_ n3_; (try clear hb); (try clear hb2); (try clear hk); (try clear hi); (try clear ho0); obtain ⟨Ao15, co15, eo15⟩ := Kd.S_slice HO187.out; subst eo15; have p188 : 0 ≤ (1 : Int) := (by omega); have q188 : 1 < (t185.length : Int) := of_decide_eq_true (by first | (with_reducible assumption) | assumption); obtain ⟨ad188, A188_0, c188_0, e188, hx188_0, hx188_1, hx188_2, hx188_3, hl188_0, hi188_0⟩ := at_T42 (Kd.S_reads' HO187.out).2.2 1 p188 q188; cases e188; obtain ⟨ce188, hce188, hMe188, hcc188⟩ := Kd.S_get HO187.out z42 1 p188 (by first | exact q188 | exact of_decide_eq_true (by first | (with_reducible assumption) | assumption) | (have e_ := (Kd.S_reads' HO187.out).1; omega)); obtain ⟨ve188_0, rfl, ge188_0⟩ := k42_openM hMe188; have hv188_0 := hcc188 0 _ rfl; rw [Nat.add_zero] at hv188_0; replace hv188_0 := Option.some.inj (hv188_0.symm.trans hx188_0); rw [hv188_0] at ge188_0; have HL188_0 := Aside0.mk (show Kd.R (Kd.int .i64) 3 _ _ _ _ ((rd_T42 t185 1).f0) from ge188_0); clear hv188_0 ge188_0; clear hcc188 hce188; (try simp only [show (1 : Int).toNat = 1 from rfl, Nat.reduceMul, Nat.reduceEqDiff, Go.Addr.add, ↓reduceIte] at hx188_0); (try simp only [show (1 : Int).toNat = 1 from rfl, Nat.reduceMul, Nat.reduceEqDiff, Go.Addr.add, ↓reduceIte] at hx188_1); (try simp only [show (1 : Int).toNat = 1 from rfl, Nat.reduceMul, Nat.reduceEqDiff, Go.Addr.add, ↓reduceIte] at hx188_2); (try simp only [show (1 : Int).toNat = 1 from rfl, Nat.reduceMul, Nat.reduceEqDiff, Go.Addr.add, ↓reduceIte] at hx188_3); have qi188 : (1 < t185.length) = True := eq_true (by omega); (try rw [show ((1 : Int)).toNat = 1 from rfl] at hx188_0); (try rw [show 1 * 4 = 4 from rfl] at hx188_0); (try rw [show ((1 : Int)).toNat = 1 from rfl] at hx188_1); (try rw [show 1 * 4 = 4 from rfl] at hx188_1); (try rw [show ((1 : Int)).toNat = 1 from rfl] at hx188_2); (try rw [show 1 * 4 = 4 from rfl] at hx188_2); (try rw [show ((1 : Int)).toNat = 1 from rfl] at hx188_3); (try rw [show 1 * 4 = 4 from rfl] at hx188_3); have HR188_0 := Aside0.mk hi188_0; have HC188_0 := Aside0.mk hl188_0; clear hi188_0 hl188_0; replace p188 := eq_true p188; replace q188 := eq_true q188) | ((with_reducible refine gate_dst (N := 16) rfl ?_); (try (refine gate_guard (by rfl) ?_; dsimp only)); refine Kd.R_lit (Kd.int .i64) _ 3 ?hg (N := 16) ?hd (xs := ([1] : List Int)) (inner := [.int .i64 1]) (ok := fun _ => True) (okp := fun _ => True) ?hr ?hp (fun _ hk => hk) trivial (Below.refl _ _) (Nat.le_refl _) (by simp) ?_; (case hd => rfl); (case hg => rfl); (case hr => first | (go_simp; done) | (go_simp; rfl)); (case hp => exact (Reps.one (show Kd.M (Kd.int .i64) _ _ _ 1 [.int .i64 1] from rfl) (Reps.none _ _))); intro v190 w16 ho17 hb hg_ hnew_; clear hg_ hnew_; (first | rw [← Ny189.out] at ho17 | (simp only [Int.reduceToNat] at ho17; rw [← Ny189.out] at ho17)); have n0_ := Aside0.mk (Kd.R_elder' (by (with_reducible repeat (first | apply Kd.R_alloc | apply Kd.R_drewN | apply Kd.R_drew)); exact HO181.out) (Kd.R_base ho17) hb); have n1_ := Aside0.mk (Kd.R_elder' (by (with_reducible repeat (first | apply Kd.R_alloc | apply Kd.R_drewN | apply Kd.R_drew)); exact HO184.out) (Kd.R_base ho17) hb); have n2_ := Aside0.mk (Kd.S_elder' (by (with_reducible repeat (first | apply Kd.S_alloc | apply Kd.S_drewN | apply Kd.S_drew)); exact HO187.out) (Kd.R_base ho17) hb); have n3_ := Aside0.mk (Kd.R_elder' (by (with_reducible repeat (first | apply Kd.R_alloc | apply Kd.R_drewN | apply Kd.R_drew)); exact HL188_0.out) (Kd.R_base ho17) hb); have n4_ := Aside0.mk (Kd.R_lower (Kd.R_new' (Kd.R_new' (Kd.R_new' ho17 (Kd.R_lt (by (with_reducible repeat (first | apply Kd.R_alloc | apply Kd.R_drewN | apply Kd.R_drew)); exact HO181.out))) (Kd.R_lt (by (with_reducible repeat (first | apply Kd.R_alloc | apply Kd.R_drewN | apply Kd.R_drew)); exact HO184.out))) (Kd.R_lt (by (with_reducible repeat (first | apply Kd.R_alloc | apply Kd.R_drewN | apply Kd.R_drew)); exact HL188_0.out))) (below_size (by repeat (first | (with_reducible first | exact HB.out | apply below_alloc | apply pw_below_drewN | apply below_drew1) | exact HB.out)))); have n5_ := Aside0.mk (Kd.C_below (by repeat (first | (with_reducible exact HR188_0.out) | (with_reducible refine Kd.C_alloc ?_ _) | (with_reducible refine Kd.C_drewN ?_ _) | (with_reducible refine Kd.C_drew ?_) | exact HR188_0.out)) hb); have n6_ := Aside0.mk (below_step (by repeat (first | (with_reducible first | exact HB.out | apply below_alloc | apply pw_below_drewN | apply below_drew1) | exact HB.out)) hb); clear HO181; clear HO184; clear HO187; clear HL188_0; clear HR188_0; clear HB; have HO181 := n0_; have HO184 := n1_; have HO187 := n2_; have HL188_0 := n3_; have HO191 := n4_; have HR188_0 := n5_; have HB := n6_; clear n0_ n1_ n2_ n3_ n4_ n5_ n6_; clear hb ho17; obtain ⟨Ao18, co18, eo18⟩ := Kd.R_slice HO191.out; subst eo18) | (go_at_call 19; (with_reducible refine (slices_Equal_int_int.calls k _ _ ((rd_T42 t185 1).f0) _ _ y189 true _ ?side1 ?side2 ?side3 ?side4 A4.out).mono ?_); (case side1 => repeat (first | exact (by repeat (first | (with_reducible exact HR188_0.out) | (with_reducible refine Kd.C_alloc ?_ _) | (with_reducible refine Kd.C_drewN ?_ _) | (with_reducible refine Kd.C_drew ?_) | exact HR188_0.out)) | (with_reducible refine Kd.C_alloc ?_ _) | (with_reducible refine Kd.C_drewN ?_ _) | (with_reducible refine Kd.C_drew ?_))); (case side2 => exact HC188_0.out); (case side3 => repeat (first | exact (Kd.R_reads' HO191.out).2.2 | (with_reducible refine Kd.C_alloc ?_ _) | (with_reducible refine Kd.C_drewN ?_ _) | (with_reducible refine Kd.C_drew ?_))); (case side4 => exact (Kd.R_reads' HO191.out).2.1); rintro e w' ⟨rfl, ⟨nd, rfl⟩⟩; have p193 : 0 ≤ (1 : Int) := (by omega); have q193 : 1 < (t185.length : Int) := of_decide_eq_true (by first | (with_reducible assumption) | assumption); obtain ⟨ad193, A193_0, c193_0, e193, hx193_0, hx193_1, hx193_2, hx193_3, hl193_0, hi193_0⟩ := at_T42 (Kd.S_reads' HO187.out).2.2 1 p193 q193; obtain rfl : ad188 = ad193 := (by injection e193); obtain ⟨ce193, hce193, hMe193, hcc193⟩ := Kd.S_get HO187.out z42 1 p193 (by first | exact q193 | exact of_decide_eq_true (by first | (with_reducible assumption) | assumption) | (have e_ := (Kd.S_reads' HO187.out).1; omega)); obtain ⟨ve193_0, rfl, ge193_0⟩ := k42_openM hMe193; have hv193_0 := hcc193 0 _ rfl; rw [Nat.add_zero] at hv193_0; replace hv193_0 := Option.some.inj (hv193_0.symm.trans hx193_0); rw [hv193_0] at ge193_0; have HL193_0 := Aside0.mk (show Kd.R (Kd.int .i64) 3 _ _ _ _ ((rd_T42 t185 1).f0) from ge193_0); clear hv193_0 ge193_0; clear hcc193 hce193; (try simp only [show (1 : Int).toNat = 1 from rfl, Nat.reduceMul, Nat.reduceEqDiff, Go.Addr.add, ↓reduceIte] at hx193_0); (try simp only [show (1 : Int).toNat = 1 from rfl, Nat.reduceMul, Nat.reduceEqDiff, Go.Addr.add, ↓reduceIte] at hx193_1); (try simp only [show (1 : Int).toNat = 1 from rfl, Nat.reduceMul, Nat.reduceEqDiff, Go.Addr.add, ↓reduceIte] at hx193_2); (try simp only [show (1 : Int).toNat = 1 from rfl, Nat.reduceMul, Nat.reduceEqDiff, Go.Addr.add, ↓reduceIte] at hx193_3); have qi193 : (1 < t185.length) = True := eq_true (by omega); (try rw [show ((1 : Int)).toNat = 1 from rfl] at hx193_0); (try rw [show 1 * 4 = 4 from rfl] at hx193_0); (try rw [show ((1 : Int)).toNat = 1 from rfl] at hx193_1); (try rw [show 1 * 4 = 4 from rfl] at hx193_1); (try rw [show ((1 : Int)).toNat = 1 from rfl] at hx193_2); (try rw [show 1 * 4 = 4 from rfl] at hx193_2); (try rw [show ((1 : Int)).toNat = 1 from rfl] at hx193_3); (try rw [show 1 * 4 = 4 from rfl] at hx193_3); have HR193_0 := Aside0.mk hi193_0; have HC193_0 := Aside0.mk hl193_0; clear hi193_0 hl193_0; replace p193 := eq_true p193; replace q193 := eq_true q193; have p194 : 0 ≤ (1 : Int) := (by omega); have q194 : 1 < (t185.length : Int) := of_decide_eq_true (by first | (with_reducible assumption) | assumption); obtain ⟨ad194, A194_0, c194_0, e194, hx194_0, hx194_1, hx194_2, hx194_3, hl194_0, hi194_0⟩ := at_T42 (Kd.S_reads' HO187.out).2.2 1 p194 q194; obtain rfl : ad188 = ad194 := (by injection e194); obtain ⟨ce194, hce194, hMe194, hcc194⟩ := Kd.S_get HO187.out z42 1 p194 (by first | exact q194 | exact of_decide_eq_true (by first | (with_reducible assumption) | assumption) | (have e_ := (Kd.S_reads' HO187.out).1; omega)); obtain ⟨ve194_0, rfl, ge194_0⟩ := k42_openM hMe194; have hv194_0 := hcc194 0 _ rfl; rw [Nat.add_zero] at hv194_0; replace hv194_0 := Option.some.inj (hv194_0.symm.trans hx194_0); rw [hv194_0] at ge194_0; have HL194_0 := Aside0.mk (show Kd.R (Kd.int .i64) 3 _ _ _ _ ((rd_T42 t185 1).f0) from ge194_0); clear hv194_0 ge194_0; clear hcc194 hce194; (try simp only [show (1 : Int).toNat = 1 from rfl, Nat.reduceMul, Nat.reduceEqDiff, Go.Addr.add, ↓reduceIte] at hx194_0); (try simp only [show (1 : Int).toNat = 1 from rfl, Nat.reduceMul, Nat.reduceEqDiff, Go.Addr.add, ↓reduceIte] at hx194_1); (try simp only [show (1 : Int).toNat = 1 from rfl, Nat.reduceMul, Nat.reduceEqDiff, Go.Addr.add, ↓reduceIte] at hx194_2); (try simp only [show (1 : Int).toNat = 1 from rfl, Nat.reduceMul, Nat.reduceEqDiff, Go.Addr.add, ↓reduceIte] at hx194_3); have qi194 : (1 < t185.length) = True := eq_true (by omega); (try rw [show ((1 : Int)).toNat = 1 from rfl] at hx194_0); (try rw [show 1 * 4 = 4 from rfl] at hx194_0); (try rw [show ((1 : Int)).toNat = 1 from rfl] at hx194_1); (try rw [show 1 * 4 = 4 from rfl] at hx194_1); (try rw [show ((1 : Int)).toNat = 1 from rfl] at hx194_2); (try rw [show 1 * 4 = 4 from rfl] at hx194_2); (try rw [show ((1 : Int)).toNat = 1 from rfl] at hx194_3); (try rw [show 1 * 4 = 4 from rfl] at hx194_3); have HR194_0 := Aside0.mk hi194_0; have HC194_0 := Aside0.mk hl194_0; clear hi194_0 hl194_0; replace p194 := eq_true p194; replace q194 := eq_true q194; have ea_ := Option.some.inj (hx193_0.symm.trans hx194_0); injection ea_ with ea_ en_ ec_; subst ea_; subst ec_; clear en_; have p195 : 0 ≤ (1 : Int) := (by omega); have q195 : 1 < (t185.length : Int) := of_decide_eq_true (by first | (with_reducible assumption) | assumption); obtain ⟨ad195, A195_0, c195_0, e195, hx195_0, hx195_1, hx195_2, hx195_3, hl195_0, hi195_0⟩ := at_T42 (Kd.S_reads' HO187.out).2.2 1 p195 q195; obtain rfl : ad188 = ad195 := (by injection e195); obtain ⟨ce195, hce195, hMe195, hcc195⟩ := Kd.S_get HO187.out z42 1 p195 (by first | exact q195 | exact of_decide_eq_true (by first | (with_reducible assumption) | assumption) | (have e_ := (Kd.S_reads' HO187.out).1; omega)); obtain ⟨ve195_0, rfl, ge195_0⟩ := k42_openM hMe195; have hv195_0 := hcc195 0 _ rfl; rw [Nat.add_zero] at hv195_0; replace hv195_0 := Option.some.inj (hv195_0.symm.trans hx195_0); rw [hv195_0] at ge195_0; have HL195_0 := Aside0.mk (show Kd.R (Kd.int .i64) 3 _ _ _ _ ((rd_T42 t185 1).f0) from ge195_0); clear hv195_0 ge195_0; clear hcc195 hce195; (try simp only [show (1 : Int).toNat = 1 from rfl, Nat.reduceMul, Nat.reduceEqDiff, Go.Addr.add, ↓reduceIte] at hx195_0); (try simp only [show (1 : Int).toNat = 1 from rfl, Nat.reduceMul, Nat.reduceEqDiff, Go.Addr.add, ↓reduceIte] at hx195_1); (try simp only [show (1 : Int).toNat = 1 from rfl, Nat.reduceMul, Nat.reduceEqDiff, Go.Addr.add, ↓reduceIte] at hx195_2); (try simp only [show (1 : Int).toNat = 1 from rfl, Nat.reduceMul, Nat.reduceEqDiff, Go.Addr.add, ↓reduceIte] at hx195_3); have qi195 : (1 < t185.length) = True := eq_true (by omega); (try rw [show ((1 : Int)).toNat = 1 from rfl] at hx195_0); (try rw [show 1 * 4 = 4 from rfl] at hx195_0); (try rw [show ((1 : Int)).toNat = 1 from rfl] at hx195_1); (try rw [show 1 * 4 = 4 from rfl] at hx195_1); (try rw [show ((1 : Int)).toNat = 1 from rfl] at hx195_2); (try rw [show 1 * 4 = 4 from rfl] at hx195_2); (try rw [show ((1 : Int)).toNat = 1 from rfl] at hx195_3); (try rw [show 1 * 4 = 4 from rfl] at hx195_3); have HR195_0 := Aside0.mk hi195_0; have HC195_0 := Aside0.mk hl195_0; clear hi195_0 hl195_0; replace p195 := eq_true p195; replace q195 := eq_true q195; have ea_ := Option.some.inj (hx193_0.symm.trans hx195_0); injection ea_ with ea_ en_ ec_; subst ea_; subst ec_; clear en_))
            go_ret
            exact ⟨by first | rfl | (simp [errW_none, errW_some] <;> rfl) | (simp [*, errW_none, errW_some] <;> rfl), by repeat (first | (with_reducible first | exact HB.out | apply below_alloc | apply pw_below_drewN | apply below_drew1) | exact HB.out)⟩
          · rw [if_neg c7] at H
            have c7b0 : (((rd_T42 t185 1).f3) == 1) = false := beq_eq_false_iff_ne.mpr c7
            have c7b1 : (((rd_T42 t185 1).f3) != 1) = true := bne_iff_ne.mpr c7
            obtain rfl := Option.some.inj H
            go_enter Try.func10, Try.ntmps10
            go_wp2_with (first | ((with_reducible refine gate_dst (N := 3) rfl ?_); (try (refine gate_guard (by rfl) ?_; dsimp only)); refine Kd.R_lit (Kd.int .i64) _ 3 ?hg (N := 3) ?hd (xs := ([0, 1, 0] : List Int)) (inner := [.int .i64 0, .int .i64 1, .int .i64 0]) (ok := fun _ => True) (okp := fun _ => True) ?hr ?hp (fun _ hk => hk) trivial (Below.refl _ _) (Nat.le_refl _) (by simp) ?_; (case hd => rfl); (case hg => rfl); (case hr => first | (go_simp; done) | (go_simp; rfl)); (case hp => exact (Reps.one (show Kd.M (Kd.int .i64) _ _ _ 0 [.int .i64 0] from rfl) (Reps.one (show Kd.M (Kd.int .i64) _ _ _ 1 [.int .i64 1] from rfl) (Reps.one (show Kd.M (Kd.int .i64) _ _ _ 0 [.int .i64 0] from rfl) (Reps.none _ _))))); intro v180 w19 ho20 hb hg_ hnew_; clear hg_ hnew_; (first | rw [← Ny179.out] at ho20 | (simp only [Int.reduceToNat] at ho20; rw [← Ny179.out] at ho20)); have n0_ := Aside0.mk (Kd.R_lower ho20 (below_size (by repeat (first | (with_reducible first | exact HB.out | apply below_alloc | apply pw_below_drewN | apply below_drew1) | exact HB.out)))); have n1_ := Aside0.mk (below_step (by repeat (first | (with_reducible first | exact HB.out | apply below_alloc | apply pw_below_drewN | apply below_drew1) | exact HB.out)) hb); clear HB; have HO181 := n0_; have HB := n1_; clear n0_ n1_; clear hb ho20) | ((with_reducible refine gate_dst (N := 4) rfl ?_); (try (refine gate_guard (by rfl) ?_; dsimp only)); refine Kd.R_lit (Kd.int .i64) _ 3 ?hg (N := 4) ?hd (xs := ([0, 1, 0] : List Int)) (inner := [.int .i64 0, .int .i64 1, .int .i64 0]) (ok := fun _ => True) (okp := fun _ => True) ?hr ?hp (fun _ hk => hk) trivial (Below.refl _ _) (Nat.le_refl _) (by simp) ?_; (case hd => rfl); (case hg => rfl); (case hr => first | (go_simp; done) | (go_simp; rfl)); (case hp => exact (Reps.one (show Kd.M (Kd.int .i64) _ _ _ 0 [.int .i64 0] from rfl) (Reps.one (show Kd.M (Kd.int .i64) _ _ _ 1 [.int .i64 1] from rfl) (Reps.one (show Kd.M (Kd.int .i64) _ _ _ 0 [.int .i64 0] from rfl) (Reps.none _ _))))); intro v183 w21 ho22 hb hg_ hnew_; clear hg_ hnew_; (first | rw [← Ny182.out] at ho22 | (simp only [Int.reduceToNat] at ho22; rw [← Ny182.out] at ho22)); have n0_ := Aside0.mk (Kd.R_elder' (by (with_reducible repeat (first | apply Kd.R_alloc | apply Kd.R_drewN | apply Kd.R_drew)); exact HO181.out) (Kd.R_base ho22) hb); have n1_ := Aside0.mk (Kd.R_lower (Kd.R_new' ho22 (Kd.R_lt (by (with_reducible repeat (first | apply Kd.R_alloc | apply Kd.R_drewN | apply Kd.R_drew)); exact HO181.out))) (below_size (by repeat (first | (with_reducible first | exact HB.out | apply below_alloc | apply pw_below_drewN | apply below_drew1) | exact HB.out)))); have n2_ := Aside0.mk (below_step (by repeat (first | (with_reducible first | exact HB.out | apply below_alloc | apply pw_below_drewN | apply below_drew1) | exact HB.out)) hb); clear HO181; clear HB; have HO181 := n0_; have HO184 := n1_; have HB := n2_; clear n0_ n1_ n2_; clear hb ho22; obtain ⟨Ao23, co23, eo23⟩ := Kd.R_slice HO184.out; subst eo23; obtain ⟨Ao24, co24, eo24⟩ := Kd.R_slice HO181.out; subst eo24) | ((with_reducible refine gate_callee (f := 13) rfl ?_); refine goesL_ (some 7) rfl rfl Try.func13 (by kernel_rfl) rfl #[.slice Ao23 y182.length co23, .slice Ao24 y179.length co24, .slice Ao24 y179.length co24, .int .i64 0] rfl (by (try simp only [List.map_toArray, List.map_cons, List.map_nil]); first | done | rfl | (simp only [List.length_drop, List.length_take]; rfl)) ?_; (with_reducible refine (seq_Sequences.calls k _ _ y182 _ _ y179 _ _ y179 0 t185 _ ?side1 ?side2 ?side3 ?side4 ?side5 ?side6 A1.out).mono ?_); (case side1 => repeat (first | exact (Kd.R_reads' HO184.out).2.2 | (with_reducible refine Kd.C_alloc ?_ _) | (with_reducible refine Kd.C_drewN ?_ _) | (with_reducible refine Kd.C_drew ?_))); (case side2 => exact (Kd.R_reads' HO184.out).2.1); (case side3 => repeat (first | exact (Kd.R_reads' HO181.out).2.2 | (with_reducible refine Kd.C_alloc ?_ _) | (with_reducible refine Kd.C_drewN ?_ _) | (with_reducible refine Kd.C_drew ?_))); (case side4 => exact (Kd.R_reads' HO181.out).2.1); (case side5 => repeat (first | exact (Kd.R_reads' HO181.out).2.2 | (with_reducible refine Kd.C_alloc ?_ _) | (with_reducible refine Kd.C_drewN ?_ _) | (with_reducible refine Kd.C_drew ?_))); (case side6 => exact (Kd.R_reads' HO181.out).2.1); rintro e w25 ⟨v186, rfl, ho0, hb⟩; refine ⟨_, rfl, ?_⟩; have n0_ := Aside0.mk (Kd.R_below (by (with_reducible repeat (first | apply Kd.R_alloc | apply Kd.R_drewN | apply Kd.R_drew)); exact HO181.out) hb); have n1_ := Aside0.mk (Kd.R_below (by (with_reducible repeat (first | apply Kd.R_alloc | apply Kd.R_drewN | apply Kd.R_drew)); exact HO184.out) hb); have n2_ := Aside0.mk (Kd.S_lower (Kd.S_new' (Kd.S_new' ho0 (Kd.R_lt (by (with_reducible repeat (first | apply Kd.R_alloc | apply Kd.R_drewN | apply Kd.R_drew)); exact HO181.out))) (Kd.R_lt (by (with_reducible repeat (first | apply Kd.R_alloc | apply Kd.R_drewN | apply Kd.R_drew)); exact HO184.out))) (below_size (by repeat (first | (with_reducible first | exact HB.out | apply below_alloc | apply pw_below_drewN | apply below_drew1) | exact HB.out)))); have n3_ := Aside0.mk (below_step (by repeat (first | (with_reducible first | exact HB.out | apply below_alloc | apply pw_below_drewN | apply below_drew1) | exact HB.out)) hb); clear HO181; clear HO184; clear HB; have HO181 := n0_; have HO184 := n1_; have HO187 := n2_; have HB := n3_; clear n0_ n1_ n2_ n3_; (try clear hb); (try clear hb2); (try clear hk); (try clear hi); (try clear ho0); obtain ⟨Ao26, co26, eo26⟩ := Kd.S_slice HO187.out; subst eo26; have p188 : 0 ≤ (1 : Int) := (by omega); have q188 : 1 < (t185.length : Int) := of_decide_eq_true (by first | (with_reducible assumption) | assumption); obtain ⟨ad188, A188_0, c188_0, e188, hx188_0, hx188_1, hx188_2, hx188_3, hl188_0, hi188_0⟩ := at_T42 (Kd.S_reads' HO187.out).2.2 1 p188 q188; cases e188; obtain ⟨ce188, hce188, hMe188, hcc188⟩ := Kd.S_get HO187.out z42 1 p188 (by first | exact q188 | exact of_decide_eq_true (by first | (with_reducible assumption) | assumption) | (have e_ := (Kd.S_reads' HO187.out).1; omega)); obtain ⟨ve188_0, rfl, ge188_0⟩ := k42_openM hMe188; have hv188_0 := hcc188 0 _ rfl; rw [Nat.add_zero] at hv188_0; replace hv188_0 := Option.some.inj (hv188_0.symm.trans hx188_0); rw [hv188_0] at ge188_0; have HL188_0 := Aside0.mk (show Kd.R (Kd.int .i64) 3 _ _ _ _ ((rd_T42 t185 1).f0) from ge188_0); clear hv188_0 ge188_0; clear hcc188 hce188; (try simp only [show (1 : Int).toNat = 1 from rfl, Nat.reduceMul, Nat.reduceEqDiff, Go.Addr.add, ↓reduceIte] at hx188_0); (try simp only [show (1 : Int).toNat = 1 from rfl, Nat.reduceMul, Nat.reduceEqDiff, Go.Addr.add, ↓reduceIte] at hx188_1); (try simp only [show (1 : Int).toNat = 1 from rfl, Nat.reduceMul, Nat.reduceEqDiff, Go.Addr.add, ↓reduceIte] at hx188_2); (try simp only [show (1 : Int).toNat = 1 from rfl, Nat.reduceMul, Nat.reduceEqDiff, Go.Addr.add, ↓reduceIte] at hx188_3); have qi188 : (1 < t185.length) = True := eq_true (by omega); (try rw [show ((1 : Int)).toNat = 1 from rfl] at hx188_0); (try rw [show 1 * 4 = 4 from rfl] at hx188_0); (try rw [show ((1 : Int)).toNat = 1 from rfl] at hx188_1); (try rw [show 1 * 4 = 4 from rfl] at hx188_1); (try rw [show ((1 : Int)).toNat = 1 from rfl] at hx188_2); (try rw [show 1 * 4 = 4 from rfl] at hx188_2); (try rw [show ((1 : Int)).toNat = 1 from rfl] at hx188_3); (try rw [show 1 * 4 = 4 from rfl] at hx188_3); have HR188_0 := Aside0.mk hi188_0; have HC188_0 := Aside0.mk hl188_0; clear hi188_0 hl188_0; replace p188 := eq_true p188; replace q188 := eq_true q188) | ((with_reducible refine gate_dst (N := 16) rfl ?_); (try (refine gate_guard (by rfl) ?_; dsimp only)); refine Kd.R_lit (Kd.int .i64) _ 3 ?hg (N := 16) ?hd (xs := ([1] : List Int)) (inner := [.int .i64 1]) (ok := fun _ => True) (okp := fun _ => True) ?hr ?hp (fun _ hk => hk) trivial (Below.refl _ _) (Nat.le_refl _) (by simp) ?_; (case hd => rfl); (case hg => rfl); (case hr => first | (go_simp; done) | (go_simp; rfl)); (case hp => exact (Reps.one (show Kd.M (Kd.int .i64) _ _ _ 1 [.int .i64 1] from rfl) (Reps.none _ _))); intro v190 w27 ho28 hb hg_ hnew_; clear hg_ hnew_; (first | rw [← Ny189.out] at ho28 | (simp only [Int.reduceToNat] at ho28; rw [← Ny189.out] at ho28)); have n0_ := Aside0.mk (Kd.R_elder' (by (with_reducible repeat (first | apply Kd.R_alloc | apply Kd.R_drewN | apply Kd.R_drew)); exact HO181.out) (Kd.R_base ho28) hb); have n1_ := Aside0.mk (Kd.R_elder' (by (with_reducible repeat (first | apply Kd.R_alloc | apply Kd.R_drewN | apply Kd.R_drew)); exact HO184.out) (Kd.R_base ho28) hb); have n2_ := Aside0.mk (Kd.S_elder' (by (with_reducible repeat (first | apply Kd.S_alloc | apply Kd.S_drewN | apply Kd.S_drew)); exact HO187.out) (Kd.R_base ho28) hb); have n3_ := Aside0.mk (Kd.R_elder' (by (with_reducible repeat (first | apply Kd.R_alloc | apply Kd.R_drewN | apply Kd.R_drew)); exact HL188_0.out) (Kd.R_base ho28) hb); have n4_ := Aside0.mk (Kd.R_lower (Kd.R_new' (Kd.R_new' (Kd.R_new' ho28 (Kd.R_lt (by (with_reducible repeat (first | apply Kd.R_alloc | apply Kd.R_drewN | apply Kd.R_drew)); exact HO181.out))) (Kd.R_lt (by (with_reducible repeat (first | apply Kd.R_alloc | apply Kd.R_drewN | apply Kd.R_drew)); exact HO184.out))) (Kd.R_lt (by (with_reducible repeat (first | apply Kd.R_alloc | apply Kd.R_drewN | apply Kd.R_drew)); exact HL188_0.out))) (below_size (by repeat (first | (with_reducible first | exact HB.out | apply below_alloc | apply pw_below_drewN | apply below_drew1) | exact HB.out)))); have n5_ := Aside0.mk (Kd.C_below (by repeat (first | (with_reducible exact HR188_0.out) | (with_reducible refine Kd.C_alloc ?_ _) | (with_reducible refine Kd.C_drewN ?_ _) | (with_reducible refine Kd.C_drew ?_) | exact HR188_0.out)) hb); have n6_ := Aside0.mk (below_step (by repeat (first | (with_reducible first | exact HB.out | apply below_alloc | apply pw_below_drewN | apply below_drew1) | exact HB.out)) hb); clear HO181; clear HO184; clear HO187; clear HL188_0; clear HR188_0; clear HB; have HO181 := n0_; have HO184 := n1_; have HO187 := n2_; have HL188_0 := n3_; have HO191 := n4_; have HR188_0 := n5_; have HB := n6_; clear n0_ n1_ n2_ n3_ n4_ n5_ n6_; clear hb ho28; obtain ⟨Ao29, co29, eo29⟩ := Kd.R_slice HO191.out; subst eo29) | (go_at_call 19; (with_reducible refine (slices_Equal_int_int.calls k _ _ ((rd_T42 t185 1).f0) _ _ y189 true _ ?side1 ?side2 ?side3 ?side4 A4.out).mono ?_); (case side1 => repeat (first | exact (by repeat (first | (with_reducible exact HR188_0.out) | (with_reducible refine Kd.C_alloc ?_ _) | (with_reducible refine Kd.C_drewN ?_ _) | (with_reducible refine Kd.C_drew ?_) | exact HR188_0.out)) | (with_reducible refine Kd.C_alloc ?_ _) | (with_reducible refine Kd.C_drewN ?_ _) | (with_reducible refine Kd.C_drew ?_))); (case side2 => exact HC188_0.out); (case side3 => repeat (first | exact (Kd.R_reads' HO191.out).2.2 | (with_reducible refine Kd.C_alloc ?_ _) | (with_reducible refine Kd.C_drewN ?_ _) | (with_reducible refine Kd.C_drew ?_))); (case side4 => exact (Kd.R_reads' HO191.out).2.1); rintro e w' ⟨rfl, ⟨nd, rfl⟩⟩; have p193 : 0 ≤ (1 : Int) := (by omega); have q193 : 1 < (t185.length : Int) := of_decide_eq_true (by first | (with_reducible assumption) | assumption); obtain ⟨ad193, A193_0, c193_0, e193, hx193_0, hx193_1, hx193_2, hx193_3, hl193_0, hi193_0⟩ := at_T42 (Kd.S_reads' HO187.out).2.2 1 p193 q193; obtain rfl : ad188 = ad193 := (by injection e193); obtain ⟨ce193, hce193, hMe193, hcc193⟩ := Kd.S_get HO187.out z42 1 p193 (by first | exact q193 | exact of_decide_eq_true (by first | (with_reducible assumption) | assumption) | (have e_ := (Kd.S_reads' HO187.out).1; omega)); obtain ⟨ve193_0, rfl, ge193_0⟩ := k42_openM hMe193; have hv193_0 := hcc193 0 _ rfl; rw [Nat.add_zero] at hv193_0; replace hv193_0 := Option.some.inj (hv193_0.symm.trans hx193_0); rw [hv193_0] at ge193_0; have HL193_0 := Aside0.mk (show Kd.R (Kd.int .i64) 3 _ _ _ _ ((rd_T42 t185 1).f0) from ge193_0); clear hv193_0 ge193_0; clear hcc193 hce193; (try simp only [show (1 : Int).toNat = 1 from rfl, Nat.reduceMul, Nat.reduceEqDiff, Go.Addr.add, ↓reduceIte] at hx193_0); (try simp only [show (1 : Int).toNat = 1 from rfl, Nat.reduceMul, Nat.reduceEqDiff, Go.Addr.add, ↓reduceIte] at hx193_1); (try simp only [show (1 : Int).toNat = 1 from rfl, Nat.reduceMul, Nat.reduceEqDiff, Go.Addr.add, ↓reduceIte] at hx193_2); (try simp only [show (1 : Int).toNat = 1 from rfl, Nat.reduceMul, Nat.reduceEqDiff, Go.Addr.add, ↓reduceIte] at hx193_3); have qi193 : (1 < t185.length) = True := eq_true (by omega); (try rw [show ((1 : Int)).toNat = 1 from rfl] at hx193_0); (try rw [show 1 * 4 = 4 from rfl] at hx193_0); (try rw [show ((1 : Int)).toNat = 1 from rfl] at hx193_1); (try rw [show 1 * 4 = 4 from rfl] at hx193_1); (try rw [show ((1 : Int)).toNat = 1 from rfl] at hx193_2); (try rw [show 1 * 4 = 4 from rfl] at hx193_2); (try rw [show ((1 : Int)).toNat = 1 from rfl] at hx193_3); (try rw [show 1 * 4 = 4 from rfl] at hx193_3); have HR193_0 := Aside0.mk hi193_0; have HC193_0 := Aside0.mk hl193_0; clear hi193_0 hl193_0; replace p193 := eq_true p193; replace q193 := eq_true q193; have p194 : 0 ≤ (1 : Int) := (by omega); have q194 : 1 < (t185.length : Int) := of_decide_eq_true (by first | (with_reducible assumption) | assumption); obtain ⟨ad194, A194_0, c194_0, e194, hx194_0, hx194_1, hx194_2, hx194_3, hl194_0, hi194_0⟩ := at_T42 (Kd.S_reads' HO187.out).2.2 1 p194 q194; obtain rfl : ad188 = ad194 := (by injection e194); obtain ⟨ce194, hce194, hMe194, hcc194⟩ := Kd.S_get HO187.out z42 1 p194 (by first | exact q194 | exact of_decide_eq_true (by first | (with_reducible assumption) | assumption) | (have e_ := (Kd.S_reads' HO187.out).1; omega)); obtain ⟨ve194_0, rfl, ge194_0⟩ := k42_openM hMe194; have hv194_0 := hcc194 0 _ rfl; rw [Nat.add_zero] at hv194_0; replace hv194_0 := Option.some.inj (hv194_0.symm.trans hx194_0); rw [hv194_0] at ge194_0; have HL194_0 := Aside0.mk (show Kd.R (Kd.int .i64) 3 _ _ _ _ ((rd_T42 t185 1).f0) from ge194_0); clear hv194_0 ge194_0; clear hcc194 hce194; (try simp only [show (1 : Int).toNat = 1 from rfl, Nat.reduceMul, Nat.reduceEqDiff, Go.Addr.add, ↓reduceIte] at hx194_0); (try simp only [show (1 : Int).toNat = 1 from rfl, Nat.reduceMul, Nat.reduceEqDiff, Go.Addr.add, ↓reduceIte] at hx194_1); (try simp only [show (1 : Int).toNat = 1 from rfl, Nat.reduceMul, Nat.reduceEqDiff, Go.Addr.add, ↓reduceIte] at hx194_2); (try simp only [show (1 : Int).toNat = 1 from rfl, Nat.reduceMul, Nat.reduceEqDiff, Go.Addr.add, ↓reduceIte] at hx194_3); have qi194 : (1 < t185.length) = True := eq_true (by omega); (try rw [show ((1 : Int)).toNat = 1 from rfl] at hx194_0); (try rw [show 1 * 4 = 4 from rfl] at hx194_0); (try rw [show ((1 : Int)).toNat = 1 from rfl] at hx194_1); (try rw [show 1 * 4 = 4 from rfl] at hx194_1); (try rw [show ((1 : Int)).toNat = 1 from rfl] at hx194_2); (try rw [show 1 * 4 = 4 from rfl] at hx194_2); (try rw [show ((1 : Int)).toNat = 1 from rfl] at hx194_3); (try rw [show 1 * 4 = 4 from rfl] at hx194_3); have HR194_0 := Aside0.mk hi194_0; have HC194_0 := Aside0.mk hl194_0; clear hi194_0 hl194_0; replace p194 := eq_true p194; replace q194 := eq_true q194; have ea_ := Option.some.inj (hx193_0.symm.trans hx194_0); injection ea_ with ea_ en_ ec_; subst ea_; subst ec_; clear en_))
            go_ret
            exact ⟨by first | rfl | (simp [errW_none, errW_some] <;> rfl) | (simp [*, errW_none, errW_some] <;> rfl), by repeat (first | (with_reducible first | exact HB.out | apply below_alloc | apply pw_below_drewN | apply below_drew1) | exact HB.out)⟩
        · rw [if_neg c6] at H
          have c6b0 : (((rd_T42 t185 1).f2) == 1) = false := beq_eq_false_iff_ne.mpr c6
          have c6b1 : (((rd_T42 t185 1).f2) != 1) = true := bne_iff_ne.mpr c6
          obtain rfl := Option.some.inj H
          go_enter Try.func10, Try.ntmps10
          go_wp2_with (first | ((with_reducible refine gate_dst (N := 3) rfl ?_); (try (refine gate_guard (by rfl) ?_; dsimp only)); refine Kd.R_lit (Kd.int .i64) _ 3 ?hg (N := 3) ?hd (xs := ([0, 1, 0] : List Int)) (inner := [.int .i64 0, .int .i64 1, .int .i64 0]) (ok := fun _ => True) (okp := fun _ => True) ?hr ?hp (fun _ hk => hk) trivial (Below.refl _ _) (Nat.le_refl _) (by simp) ?_; (case hd => rfl); (case hg => rfl); (case hr => first | (go_simp; done) | (go_simp; rfl)); (case hp => exact (Reps.one (show Kd.M (Kd.int .i64) _ _ _ 0 [.int .i64 0] from rfl) (Reps.one (show Kd.M (Kd.int .i64) _ _ _ 1 [.int .i64 1] from rfl) (Reps.one (show Kd.M (Kd.int .i64) _ _ _ 0 [.int .i64 0] from rfl) (Reps.none _ _))))); intro v180 w30 ho31 hb hg_ hnew_; clear hg_ hnew_; (first | rw [← Ny179.out] at ho31 | (simp only [Int.reduceToNat] at ho31; rw [← Ny179.out] at ho31)); have n0_ := Aside0.mk (Kd.R_lower ho31 (below_size (by repeat (first | (with_reducible first | exact HB.out | apply below_alloc | apply pw_below_drewN | apply below_drew1) | exact HB.out)))); have n1_ := Aside0.mk (below_step (by repeat (first | (with_reducible first | exact HB.out | apply below_alloc | apply pw_below_drewN | apply below_drew1) | exact HB.out)) hb); clear HB; have HO181 := n0_; have HB := n1_; clear n0_ n1_; clear hb ho31) | ((with_reducible refine gate_dst (N := 4) rfl ?_); (try (refine gate_guard (by rfl) ?_; dsimp only)); refine Kd.R_lit (Kd.int .i64) _ 3 ?hg (N := 4) ?hd (xs := ([0, 1, 0] : List Int)) (inner := [.int .i64 0, .int .i64 1, .int .i64 0]) (ok := fun _ => True) (okp := fun _ => True) ?hr ?hp (fun _ hk => hk) trivial (Below.refl _ _) (Nat.le_refl _) (by simp) ?_; (case hd => rfl); (case hg => rfl); (case hr => first | (go_simp; done) | (go_simp; rfl)); (case hp => exact (Reps.one (show Kd.M (Kd.int .i64) _ _ _ 0 [.int .i64 0] from rfl) (Reps.one (show Kd.M (Kd.int .i64) _ _ _ 1 [.int .i64 1] from rfl) (Reps.one (show Kd.M (Kd.int .i64) _ _ _ 0 [.int .i64 0] from rfl) (Reps.none _ _))))); intro v183 w32 ho33 hb hg_ hnew_; clear hg_ hnew_; (first | rw [← Ny182.out] at ho33 | (simp only [Int.reduceToNat] at ho33; rw [← Ny182.out] at ho33)); have n0_ := Aside0.mk (Kd.R_elder' (by (with_reducible repeat (first | apply Kd.R_alloc | apply Kd.R_drewN | apply Kd.R_drew)); exact HO181.out) (Kd.R_base ho33) hb); have n1_ := Aside0.mk (Kd.R_lower (Kd.R_new' ho33 (Kd.R_lt (by (with_reducible repeat (first | apply Kd.R_alloc | apply Kd.R_drewN | apply Kd.R_drew)); exact HO181.out))) (below_size (by repeat (first | (with_reducible first | exact HB.out | apply below_alloc | apply pw_below_drewN | apply below_drew1) | exact HB.out)))); have n2_ := Aside0.mk (below_step (by repeat (first | (with_reducible first | exact HB.out | apply below_alloc | apply pw_below_drewN | apply below_drew1) | exact HB.out)) hb); clear HO181; clear HB; have HO181 := n0_; have HO184 := n1_; have HB := n2_; clear n0_ n1_ n2_; clear hb ho33; obtain ⟨Ao34, co34, eo34⟩ := Kd.R_slice HO184.out; subst eo34; obtain ⟨Ao35, co35, eo35⟩ := Kd.R_slice HO181.out; subst eo35) | ((with_reducible refine gate_callee (f := 13) rfl ?_); refine goesL_ (some 7) rfl rfl Try.func13 (by kernel_rfl) rfl #[.slice Ao34 y182.length co34, .slice Ao35 y179.length co35, .slice Ao35 y179.length co35, .int .i64 0] rfl (by (try simp only [List.map_toArray, List.map_cons, List.map_nil]); first | done | rfl | (simp only [List.length_drop, List.length_take]; rfl)) ?_; (with_reducible refine (seq_Sequences.calls k _ _ y182 _ _ y179 _ _ y179 0 t185 _ ?side1 ?side2 ?side3 ?side4 ?side5 ?side6 A1.out).mono ?_); (case side1 => repeat (first | exact (Kd.R_reads' HO184.out).2.2 | (with_reducible refine Kd.C_alloc ?_ _) | (with_reducible refine Kd.C_drewN ?_ _) | (with_reducible refine Kd.C_drew ?_))); (case side2 => exact (Kd.R_reads' HO184.out).2.1); (case side3 => repeat (first | exact (Kd.R_reads' HO181.out).2.2 | (with_reducible refine Kd.C_alloc ?_ _) | (with_reducible refine Kd.C_drewN ?_ _) | (with_reducible refine Kd.C_drew ?_))); (case side4 => exact (Kd.R_reads' HO181.out).2.1); (case side5 => repeat (first | exact (Kd.R_reads' HO181.out).2.2 | (with_reducible refine Kd.C_alloc ?_ _) | (with_reducible refine Kd.C_drewN ?_ _) | (with_reducible refine Kd.C_drew ?_))); (case side6 => exact (Kd.R_reads' HO181.out).2.1); rintro e w36 ⟨v186, rfl, ho0, hb⟩; refine ⟨_, rfl, ?_⟩; have n0_ := Aside0.mk (Kd.R_below (by (with_reducible repeat (first | apply Kd.R_alloc | apply Kd.R_drewN | apply Kd.R_drew)); exact HO181.out) hb); have n1_ := Aside0.mk (Kd.R_below (by (with_reducible repeat (first | apply Kd.R_alloc | apply Kd.R_drewN | apply Kd.R_drew)); exact HO184.out) hb); have n2_ := Aside0.mk (Kd.S_lower (Kd.S_new' (Kd.S_new' ho0 (Kd.R_lt (by (with_reducible repeat (first | apply Kd.R_alloc | apply Kd.R_drewN | apply Kd.R_drew)); exact HO181.out))) (Kd.R_lt (by (with_reducible repeat (first | apply Kd.R_alloc | apply Kd.R_drewN | apply Kd.R_drew)); exact HO184.out))) (below_size (by repeat (first | (with_reducible first | exact HB.out | apply below_alloc | apply pw_below_drewN | apply below_drew1) | exact HB.out)))); have n3_ := Aside0.mk (below_step (by repeat (first | (with_reducible first | exact HB.out | apply below_alloc | apply pw_below_drewN | apply below_drew1) | exact HB.out)) hb); clear HO181; clear HO184; clear HB; have HO181 := n0_; have HO184 := n1_; have HO187 := n2_; have HB := n3_; clear n0_ n1_ n2_ n3_; (try clear hb); (try clear hb2); (try clear hk); (try clear hi); (try clear ho0); obtain ⟨Ao37, co37, eo37⟩ := Kd.S_slice HO187.out; subst eo37; have p188 : 0 ≤ (1 : Int) := (by omega); have q188 : 1 < (t185.length : Int) := of_decide_eq_true (by first | (with_reducible assumption) | assumption); obtain ⟨ad188, A188_0, c188_0, e188, hx188_0, hx188_1, hx188_2, hx188_3, hl188_0, hi188_0⟩ := at_T42 (Kd.S_reads' HO187.out).2.2 1 p188 q188; cases e188; obtain ⟨ce188, hce188, hMe188, hcc188⟩ := Kd.S_get HO187.out z42 1 p188 (by first | exact q188 | exact of_decide_eq_true (by first | (with_reducible assumption) | assumption) | (have e_ := (Kd.S_reads' HO187.out).1; omega)); obtain ⟨ve188_0, rfl, ge188_0⟩ := k42_openM hMe188; have hv188_0 := hcc188 0 _ rfl; rw [Nat.add_zero] at hv188_0; replace hv188_0 := Option.some.inj (hv188_0.symm.trans hx188_0); rw [hv188_0] at ge188_0; have HL188_0 := Aside0.mk (show Kd.R (Kd.int .i64) 3 _ _ _ _ ((rd_T42 t185 1).f0) from ge188_0); clear hv188_0 ge188_0; clear hcc188 hce188; (try simp only [show (1 : Int).toNat = 1 from rfl, Nat.reduceMul, Nat.reduceEqDiff, Go.Addr.add, ↓reduceIte] at hx188_0); (try simp only [show (1 : Int).toNat = 1 from rfl, Nat.reduceMul, Nat.reduceEqDiff, Go.Addr.add, ↓reduceIte] at hx188_1); (try simp only [show (1 : Int).toNat = 1 from rfl, Nat.reduceMul, Nat.reduceEqDiff, Go.Addr.add, ↓reduceIte] at hx188_2); (try simp only [show (1 : Int).toNat = 1 from rfl, Nat.reduceMul, Nat.reduceEqDiff, Go.Addr.add, ↓reduceIte] at hx188_3); have qi188 : (1 < t185.length) = True := eq_true (by omega); (try rw [show ((1 : Int)).toNat = 1 from rfl] at hx188_0); (try rw [show 1 * 4 = 4 from rfl] at hx188_0); (try rw [show ((1 : Int)).toNat = 1 from rfl] at hx188_1); (try rw [show 1 * 4 = 4 from rfl] at hx188_1); (try rw [show ((1 : Int)).toNat = 1 from rfl] at hx188_2); (try rw [show 1 * 4 = 4 from rfl] at hx188_2); (try rw [show ((1 : Int)).toNat = 1 from rfl] at hx188_3); (try rw [show 1 * 4 = 4 from rfl] at hx188_3); have HR188_0 := Aside0.mk hi188_0; have HC188_0 := Aside0.mk hl188_0; clear hi188_0 hl188_0; replace p188 := eq_true p188; replace q188 := eq_true q188) | ((with_reducible refine gate_dst (N := 16) rfl ?_); (try (refine gate_guard (by rfl) ?_; dsimp only)); refine Kd.R_lit (Kd.int .i64) _ 3 ?hg (N := 16) ?hd (xs := ([1] : List Int)) (inner := [.int .i64 1]) (ok := fun _ => True) (okp := fun _ => True) ?hr ?hp (fun _ hk => hk) trivial (Below.refl _ _) (Nat.le_refl _) (by simp) ?_; (case hd => rfl); (case hg => rfl); (case hr => first | (go_simp; done) | (go_simp; rfl)); (case hp => exact (Reps.one (show Kd.M (Kd.int .i64) _ _ _ 1 [.int .i64 1] from rfl) (Reps.none _ _))); intro v190 w38 ho39 hb hg_ hnew_; clear hg_ hnew_; (first | rw [← Ny189.out] at ho39 | (simp only [Int.reduceToNat] at ho39; rw [← Ny189.out] at ho39)); have n0_ := Aside0.mk (Kd.R_elder' (by (with_reducible repeat (first | apply Kd.R_alloc | apply Kd.R_drewN | apply Kd.R_drew)); exact HO181.out) (Kd.R_base ho39) hb); have n1_ := Aside0.mk (Kd.R_elder' (by (with_reducible repeat (first | apply Kd.R_alloc | apply Kd.R_drewN | apply Kd.R_drew)); exact HO184.out) (Kd.R_base ho39) hb); have n2_ := Aside0.mk (Kd.S_elder' (by (with_reducible repeat (first | apply Kd.S_alloc | apply Kd.S_drewN | apply Kd.S_drew)); exact HO187.out) (Kd.R_base ho39) hb); have n3_ := Aside0.mk (Kd.R_elder' (by (with_reducible repeat (first | apply Kd.R_alloc | apply Kd.R_drewN | apply Kd.R_drew)); exact HL188_0.out) (Kd.R_base ho39) hb); have n4_ := Aside0.mk (Kd.R_lower (Kd.R_new' (Kd.R_new' (Kd.R_new' ho39 (Kd.R_lt (by (with_reducible repeat (first | apply Kd.R_alloc | apply Kd.R_drewN | apply Kd.R_drew)); exact HO181.out))) (Kd.R_lt (by (with_reducible repeat (first | apply Kd.R_alloc | apply Kd.R_drewN | apply Kd.R_drew)); exact HO184.out))) (Kd.R_lt (by (with_reducible repeat (first | apply Kd.R_alloc | apply Kd.R_drewN | apply Kd.R_drew)); exact HL188_0.out))) (below_size (by repeat (first | (with_reducible first | exact HB.out | apply below_alloc | apply pw_below_drewN | apply below_drew1) | exact HB.out)))); have n5_ := Aside0.mk (Kd.C_below (by repeat (first | (with_reducible exact HR188_0.out) | (with_reducible refine Kd.C_alloc ?_ _) | (with_reducible refine Kd.C_drewN ?_ _) | (with_reducible refine Kd.C_drew ?_) | exact HR188_0.out)) hb); have n6_ := Aside0.mk (below_step (by repeat (first | (with_reducible first | exact HB.out | apply below_alloc | apply pw_below_drewN | apply below_drew1) | exact HB.out)) hb); clear HO181; clear HO184; clear HO187; clear HL188_0; clear HR188_0; clear HB; have HO181 := n0_; have HO184 := n1_; have HO187 := n2_; have HL188_0 := n3_; have HO191 := n4_; have HR188_0 := n5_; have HB := n6_; clear n0_ n1_ n2_ n3_ n4_ n5_ n6_; clear hb ho39; obtain ⟨Ao40, co40, eo40⟩ := Kd.R_slice HO191.out; subst eo40) | (go_at_call 19; (with_reducible refine (slices_Equal_int_int.calls k _ _ ((rd_T42 t185 1).f0) _ _ y189 true _ ?side1 ?side2 ?side3 ?side4 A4.out).mono ?_); (case side1 => repeat (first | exact (by repeat (first | (with_reducible exact HR188_0.out) | (with_reducible refine Kd.C_alloc ?_ _) | (with_reducible refine Kd.C_drewN ?_ _) | (with_reducible refine Kd.C_drew ?_) | exact HR188_0.out)) | (with_reducible refine Kd.C_alloc ?_ _) | (with_reducible refine Kd.C_drewN ?_ _) | (with_reducible refine Kd.C_drew ?_))); (case side2 => exact HC188_0.out); (case side3 => repeat (first | exact (Kd.R_reads' HO191.out).2.2 | (with_reducible refine Kd.C_alloc ?_ _) | (with_reducible refine Kd.C_drewN ?_ _) | (with_reducible refine Kd.C_drew ?_))); (case side4 => exact (Kd.R_reads' HO191.out).2.1); rintro e w' ⟨rfl, ⟨nd, rfl⟩⟩; have p193 : 0 ≤ (1 : Int) := (by omega); have q193 : 1 < (t185.length : Int) := of_decide_eq_true (by first | (with_reducible assumption) | assumption); obtain ⟨ad193, A193_0, c193_0, e193, hx193_0, hx193_1, hx193_2, hx193_3, hl193_0, hi193_0⟩ := at_T42 (Kd.S_reads' HO187.out).2.2 1 p193 q193; obtain rfl : ad188 = ad193 := (by injection e193); obtain ⟨ce193, hce193, hMe193, hcc193⟩ := Kd.S_get HO187.out z42 1 p193 (by first | exact q193 | exact of_decide_eq_true (by first | (with_reducible assumption) | assumption) | (have e_ := (Kd.S_reads' HO187.out).1; omega)); obtain ⟨ve193_0, rfl, ge193_0⟩ := k42_openM hMe193; have hv193_0 := hcc193 0 _ rfl; rw [Nat.add_zero] at hv193_0; replace hv193_0 := Option.some.inj (hv193_0.symm.trans hx193_0); rw [hv193_0] at ge193_0; have HL193_0 := Aside0.mk (show Kd.R (Kd.int .i64) 3 _ _ _ _ ((rd_T42 t185 1).f0) from ge193_0); clear hv193_0 ge193_0; clear hcc193 hce193; (try simp only [show (1 : Int).toNat = 1 from rfl, Nat.reduceMul, Nat.reduceEqDiff, Go.Addr.add, ↓reduceIte] at hx193_0); (try simp only [show (1 : Int).toNat = 1 from rfl, Nat.reduceMul, Nat.reduceEqDiff, Go.Addr.add, ↓reduceIte] at hx193_1); (try simp only [show (1 : Int).toNat = 1 from rfl, Nat.reduceMul, Nat.reduceEqDiff, Go.Addr.add, ↓reduceIte] at hx193_2); (try simp only [show (1 : Int).toNat = 1 from rfl, Nat.reduceMul, Nat.reduceEqDiff, Go.Addr.add, ↓reduceIte] at hx193_3); have qi193 : (1 < t185.length) = True := eq_true (by omega); (try rw [show ((1 : Int)).toNat = 1 from rfl] at hx193_0); (try rw [show 1 * 4 = 4 from rfl] at hx193_0); (try rw [show ((1 : Int)).toNat = 1 from rfl] at hx193_1); (try rw [show 1 * 4 = 4 from rfl] at hx193_1); (try rw [show ((1 : Int)).toNat = 1 from rfl] at hx193_2); (try rw [show 1 * 4 = 4 from rfl] at hx193_2); (try rw [show ((1 : Int)).toNat = 1 from rfl] at hx193_3); (try rw [show 1 * 4 = 4 from rfl] at hx193_3); have HR193_0 := Aside0.mk hi193_0; have HC193_0 := Aside0.mk hl193_0; clear hi193_0 hl193_0; replace p193 := eq_true p193; replace q193 := eq_true q193))
          go_ret
          exact ⟨by first | rfl | (simp [errW_none, errW_some] <;> rfl) | (simp [*, errW_none, errW_some] <;> rfl), by repeat (first | (with_reducible first | exact HB.out | apply below_alloc | apply pw_below_drewN | apply below_drew1) | exact HB.out)⟩
      · replace c5 := Bool.eq_false_iff.mpr c5
        subst c5
        have H1 : (some false) = some r := by rw [if_neg (show ¬ (false = true) by decide)] at H; exact H
        clear H
        have H := H1
        clear H1
        obtain rfl := Option.some.inj H
        go_enter Try.func10, Try.ntmps10
        go_wp2_with (first | ((with_reducible refine gate_dst (N := 3) rfl ?_); (try (refine gate_guard (by rfl) ?_; dsimp only)); refine Kd.R_lit (Kd.int .i64) _ 3 ?hg (N := 3) ?hd (xs := ([0, 1, 0] : List Int)) (inner := [.int .i64 0, .int .i64 1, .int .i64 0]) (ok := fun _ => True) (okp := fun _ => True) ?hr ?hp (fun _ hk => hk) trivial (Below.refl _ _) (Nat.le_refl _) (by simp) ?_; (case hd => rfl); (case hg => rfl); (case hr => first | (go_simp; done) | (go_simp; rfl)); (case hp => exact (Reps.one (show Kd.M (Kd.int .i64) _ _ _ 0 [.int .i64 0] from rfl) (Reps.one (show Kd.M (Kd.int .i64) _ _ _ 1 [.int .i64 1] from rfl) (Reps.one (show Kd.M (Kd.int .i64) _ _ _ 0 [.int .i64 0] from rfl) (Reps.none _ _))))); intro v180 w41 ho42 hb hg_ hnew_; clear hg_ hnew_; (first | rw [← Ny179.out] at ho42 | (simp only [Int.reduceToNat] at ho42; rw [← Ny179.out] at ho42)); have n0_ := Aside0.mk (Kd.R_lower ho42 (below_size (by repeat (first | (with_reducible first | exact HB.out | apply below_alloc | apply pw_below_drewN | apply below_drew1) | exact HB.out)))); have n1_ := Aside0.mk (below_step (by repeat (first | (with_reducible first | exact HB.out | apply below_alloc | apply pw_below_drewN | apply below_drew1) | exact HB.out)) hb); clear HB; have HO181 := n0_; have HB := n1_; clear n0_ n1_; clear hb ho42) | ((with_reducible refine gate_dst (N := 4) rfl ?_); (try (refine gate_guard (by rfl) ?_; dsimp only)); refine Kd.R_lit (Kd.int .i64) _ 3 ?hg (N := 4) ?hd (xs := ([0, 1, 0] : List Int)) (inner := [.int .i64 0, .int .i64 1, .int .i64 0]) (ok := fun _ => True) (okp := fun _ => True) ?hr ?hp (fun _ hk => hk) trivial (Below.refl _ _) (Nat.le_refl _) (by simp) ?_; (case hd => rfl); (case hg => rfl); (case hr => first | (go_simp; done) | (go_simp; rfl)); (case hp => exact (Reps.one (show Kd.M (Kd.int .i64) _ _ _ 0 [.int .i64 0] from rfl) (Reps.one (show Kd.M (Kd.int .i64) _ _ _ 1 [.int .i64 1] from rfl) (Reps.one (show Kd.M (Kd.int .i64) _ _ _ 0 [.int .i64 0] from rfl) (Reps.none _ _))))); intro v183 w43 ho44 hb hg_ hnew_; clear hg_ hnew_; (first | rw [← Ny182.out] at ho44 | (simp only [Int.reduceToNat] at ho44; rw [← Ny182.out] at ho44)); have n0_ := Aside0.mk (Kd.R_elder' (by (with_reducible repeat (first | apply Kd.R_alloc | apply Kd.R_drewN | apply Kd.R_drew)); exact HO181.out) (Kd.R_base ho44) hb); have n1_ := Aside0.mk (Kd.R_lower (Kd.R_new' ho44 (Kd.R_lt (by (with_reducible repeat (first | apply Kd.R_alloc | apply Kd.R_drewN | apply Kd.R_drew)); exact HO181.out))) (below_size (by repeat (first | (with_reducible first | exact HB.out | apply below_alloc | apply pw_below_drewN | apply below_drew1) | exact HB.out)))); have n2_ := Aside0.mk (below_step (by repeat (first | (with_reducible first | exact HB.out | apply below_alloc | apply pw_below_drewN | apply below_drew1) | exact HB.out)) hb); clear HO181; clear HB; have HO181 := n0_; have HO184 := n1_; have HB := n2_; clear n0_ n1_ n2_; clear hb ho44; obtain ⟨Ao45, co45, eo45⟩ := Kd.R_slice HO184.out; subst eo45; obtain ⟨Ao46, co46, eo46⟩ := Kd.R_slice HO181.out; subst eo46) | ((with_reducible refine gate_callee (f := 13) rfl ?_); refine goesL_ (some 7) rfl rfl Try.func13 (by kernel_rfl) rfl #[.slice Ao45 y182.length co45, .slice Ao46 y179.length co46, .slice Ao46 y179.length co46, .int .i64 0] rfl (by (try simp only [List.map_toArray, List.map_cons, List.map_nil]); first | done | rfl | (simp only [List.length_drop, List.length_take]; rfl)) ?_; (with_reducible refine (seq_Sequences.calls k _ _ y182 _ _ y179 _ _ y179 0 t185 _ ?side1 ?side2 ?side3 ?side4 ?side5 ?side6 A1.out).mono ?_); (case side1 => repeat (first | exact (Kd.R_reads' HO184.out).2.2 | (with_reducible refine Kd.C_alloc ?_ _) | (with_reducible refine Kd.C_drewN ?_ _) | (with_reducible refine Kd.C_drew ?_))); (case side2 => exact (Kd.R_reads' HO184.out).2.1); (case side3 => repeat (first | exact (Kd.R_reads' HO181.out).2.2 | (with_reducible refine Kd.C_alloc ?_ _) | (with_reducible refine Kd.C_drewN ?_ _) | (with_reducible refine Kd.C_drew ?_))); (case side4 => exact (Kd.R_reads' HO181.out).2.1); (case side5 => repeat (first | exact (Kd.R_reads' HO181.out).2.2 | (with_reducible refine Kd.C_alloc ?_ _) | (with_reducible refine Kd.C_drewN ?_ _) | (with_reducible refine Kd.C_drew ?_))); (case side6 => exact (Kd.R_reads' HO181.out).2.1); rintro e w47 ⟨v186, rfl, ho0, hb⟩; refine ⟨_, rfl, ?_⟩; have n0_ := Aside0.mk (Kd.R_below (by (with_reducible repeat (first | apply Kd.R_alloc | apply Kd.R_drewN | apply Kd.R_drew)); exact HO181.out) hb); have n1_ := Aside0.mk (Kd.R_below (by (with_reducible repeat (first | apply Kd.R_alloc | apply Kd.R_drewN | apply Kd.R_drew)); exact HO184.out) hb); have n2_ := Aside0.mk (Kd.S_lower (Kd.S_new' (Kd.S_new' ho0 (Kd.R_lt (by (with_reducible repeat (first | apply Kd.R_alloc | apply Kd.R_drewN | apply Kd.R_drew)); exact HO181.out))) (Kd.R_lt (by (with_reducible repeat (first | apply Kd.R_alloc | apply Kd.R_drewN | apply Kd.R_drew)); exact HO184.out))) (below_size (by repeat (first | (with_reducible first | exact HB.out | apply below_alloc | apply pw_below_drewN | apply below_drew1) | exact HB.out)))); have n3_ := Aside0.mk (below_step (by repeat (first | (with_reducible first | exact HB.out | apply below_alloc | apply pw_below_drewN | apply below_drew1) | exact HB.out)) hb); clear HO181; clear HO184; clear HB; have HO181 := n0_; have HO184 := n1_; have HO187 := n2_; have HB := n3_; clear n0_ n1_ n2_ n3_; (try clear hb); (try clear hb2); (try clear hk); (try clear hi); (try clear ho0); obtain ⟨Ao48, co48, eo48⟩ := Kd.S_slice HO187.out; subst eo48; have p188 : 0 ≤ (1 : Int) := (by omega); have q188 : 1 < (t185.length : Int) := of_decide_eq_true (by first | (with_reducible assumption) | assumption); obtain ⟨ad188, A188_0, c188_0, e188, hx188_0, hx188_1, hx188_2, hx188_3, hl188_0, hi188_0⟩ := at_T42 (Kd.S_reads' HO187.out).2.2 1 p188 q188; cases e188; obtain ⟨ce188, hce188, hMe188, hcc188⟩ := Kd.S_get HO187.out z42 1 p188 (by first | exact q188 | exact of_decide_eq_true (by first | (with_reducible assumption) | assumption) | (have e_ := (Kd.S_reads' HO187.out).1; omega)); obtain ⟨ve188_0, rfl, ge188_0⟩ := k42_openM hMe188; have hv188_0 := hcc188 0 _ rfl; rw [Nat.add_zero] at hv188_0; replace hv188_0 := Option.some.inj (hv188_0.symm.trans hx188_0); rw [hv188_0] at ge188_0; have HL188_0 := Aside0.mk (show Kd.R (Kd.int .i64) 3 _ _ _ _ ((rd_T42 t185 1).f0) from ge188_0); clear hv188_0 ge188_0; clear hcc188 hce188; (try simp only [show (1 : Int).toNat = 1 from rfl, Nat.reduceMul, Nat.reduceEqDiff, Go.Addr.add, ↓reduceIte] at hx188_0); (try simp only [show (1 : Int).toNat = 1 from rfl, Nat.reduceMul, Nat.reduceEqDiff, Go.Addr.add, ↓reduceIte] at hx188_1); (try simp only [show (1 : Int).toNat = 1 from rfl, Nat.reduceMul, Nat.reduceEqDiff, Go.Addr.add, ↓reduceIte] at hx188_2); (try simp only [show (1 : Int).toNat = 1 from rfl, Nat.reduceMul, Nat.reduceEqDiff, Go.Addr.add, ↓reduceIte] at hx188_3); have qi188 : (1 < t185.length) = True := eq_true (by omega); (try rw [show ((1 : Int)).toNat = 1 from rfl] at hx188_0); (try rw [show 1 * 4 = 4 from rfl] at hx188_0); (try rw [show ((1 : Int)).toNat = 1 from rfl] at hx188_1); (try rw [show 1 * 4 = 4 from rfl] at hx188_1); (try rw [show ((1 : Int)).toNat = 1 from rfl] at hx188_2); (try rw [show 1 * 4 = 4 from rfl] at hx188_2); (try rw [show ((1 : Int)).toNat = 1 from rfl] at hx188_3); (try rw [show 1 * 4 = 4 from rfl] at hx188_3); have HR188_0 := Aside0.mk hi188_0; have HC188_0 := Aside0.mk hl188_0; clear hi188_0 hl188_0; replace p188 := eq_true p188; replace q188 := eq_true q188) | ((with_reducible refine gate_dst (N := 16) rfl ?_); (try (refine gate_guard (by rfl) ?_; dsimp only)); refine Kd.R_lit (Kd.int .i64) _ 3 ?hg (N := 16) ?hd (xs := ([1] : List Int)) (inner := [.int .i64 1]) (ok := fun _ => True) (okp := fun _ => True) ?hr ?hp (fun _ hk => hk) trivial (Below.refl _ _) (Nat.le_refl _) (by simp) ?_; (case hd => rfl); (case hg => rfl); (case hr => first | (go_simp; done) | (go_simp; rfl)); (case hp => exact (Reps.one (show Kd.M (Kd.int .i64) _ _ _ 1 [.int .i64 1] from rfl) (Reps.none _ _))); intro v190 w49 ho50 hb hg_ hnew_; clear hg_ hnew_; (first | rw [← Ny189.out] at ho50 | (simp only [Int.reduceToNat] at ho50; rw [← Ny189.out] at ho50)); have n0_ := Aside0.mk (Kd.R_elder' (by (with_reducible repeat (first | apply Kd.R_alloc | apply Kd.R_drewN | apply Kd.R_drew)); exact HO181.out) (Kd.R_base ho50) hb); have n1_ := Aside0.mk (Kd.R_elder' (by (with_reducible repeat (first | apply Kd.R_alloc | apply Kd.R_drewN | apply Kd.R_drew)); exact HO184.out) (Kd.R_base ho50) hb); have n2_ := Aside0.mk (Kd.S_elder' (by (with_reducible repeat (first | apply Kd.S_alloc | apply Kd.S_drewN | apply Kd.S_drew)); exact HO187.out) (Kd.R_base ho50) hb); have n3_ := Aside0.mk (Kd.R_elder' (by (with_reducible repeat (first | apply Kd.R_alloc | apply Kd.R_drewN | apply Kd.R_drew)); exact HL188_0.out) (Kd.R_base ho50) hb); have n4_ := Aside0.mk (Kd.R_lower (Kd.R_new' (Kd.R_new' (Kd.R_new' ho50 (Kd.R_lt (by (with_reducible repeat (first | apply Kd.R_alloc | apply Kd.R_drewN | apply Kd.R_drew)); exact HO181.out))) (Kd.R_lt (by (with_reducible repeat (first | apply Kd.R_alloc | apply Kd.R_drewN | apply Kd.R_drew)); exact HO184.out))) (Kd.R_lt (by (with_reducible repeat (first | apply Kd.R_alloc | apply Kd.R_drewN | apply Kd.R_drew)); exact HL188_0.out))) (below_size (by repeat (first | (with_reducible first | exact HB.out | apply below_alloc | apply pw_below_drewN | apply below_drew1) | exact HB.out)))); have n5_ := Aside0.mk (Kd.C_below (by repeat (first | (with_reducible exact HR188_0.out) | (with_reducible refine Kd.C_alloc ?_ _) | (with_reducible refine Kd.C_drewN ?_ _) | (with_reducible refine Kd.C_drew ?_) | exact HR188_0.out)) hb); have n6_ := Aside0.mk (below_step (by repeat (first | (with_reducible first | exact HB.out | apply below_alloc | apply pw_below_drewN | apply below_drew1) | exact HB.out)) hb); clear HO181; clear HO184; clear HO187; clear HL188_0; clear HR188_0; clear HB; have HO181 := n0_; have HO184 := n1_; have HO187 := n2_; have HL188_0 := n3_; have HO191 := n4_; have HR188_0 := n5_; have HB := n6_; clear n0_ n1_ n2_ n3_ n4_ n5_ n6_; clear hb ho50; obtain ⟨Ao51, co51, eo51⟩ := Kd.R_slice HO191.out; subst eo51) | (go_at_call 19; (with_reducible refine (slices_Equal_int_int.calls k _ _ ((rd_T42 t185 1).f0) _ _ y189 false _ ?side1 ?side2 ?side3 ?side4 A4.out).mono ?_); (case side1 => repeat (first | exact (by repeat (first | (with_reducible exact HR188_0.out) | (with_reducible refine Kd.C_alloc ?_ _) | (with_reducible refine Kd.C_drewN ?_ _) | (with_reducible refine Kd.C_drew ?_) | exact HR188_0.out)) | (with_reducible refine Kd.C_alloc ?_ _) | (with_reducible refine Kd.C_drewN ?_ _) | (with_reducible refine Kd.C_drew ?_))); (case side2 => exact HC188_0.out); (case side3 => repeat (first | exact (Kd.R_reads' HO191.out).2.2 | (with_reducible refine Kd.C_alloc ?_ _) | (with_reducible refine Kd.C_drewN ?_ _) | (with_reducible refine Kd.C_drew ?_))); (case side4 => exact (Kd.R_reads' HO191.out).2.1); rintro e w' ⟨rfl, ⟨nd, rfl⟩⟩))
        go_ret
        exact ⟨by first | rfl | (simp [errW_none, errW_some] <;> rfl) | (simp [*, errW_none, errW_some] <;> rfl), by repeat (first | (with_reducible first | exact HB.out | apply below_alloc | apply pw_below_drewN | apply below_drew1) | exact HB.out)⟩
    · rw [if_neg c3] at H
      exact absurd H (by simp)
  · rw [if_neg c2] at H
    have c2b0 : ((t185.length : Int) == 3) = false := beq_eq_false_iff_ne.mpr c2
    have c2b1 : ((t185.length : Int) != 3) = true := bne_iff_ne.mpr c2
    obtain rfl := Option.some.inj H
    go_enter Try.func10, Try.ntmps10
    go_wp2_with (first | ((with_reducible refine gate_dst (N := 3) rfl ?_); (try (refine gate_guard (by rfl) ?_; dsimp only)); refine Kd.R_lit (Kd.int .i64) _ 3 ?hg (N := 3) ?hd (xs := ([0, 1, 0] : List Int)) (inner := [.int .i64 0, .int .i64 1, .int .i64 0]) (ok := fun _ => True) (okp := fun _ => True) ?hr ?hp (fun _ hk => hk) trivial (Below.refl _ _) (Nat.le_refl _) (by simp) ?_; (case hd => rfl); (case hg => rfl); (case hr => first | (go_simp; done) | (go_simp; rfl)); (case hp => exact (Reps.one (show Kd.M (Kd.int .i64) _ _ _ 0 [.int .i64 0] from rfl) (Reps.one (show Kd.M (Kd.int .i64) _ _ _ 1 [.int .i64 1] from rfl) (Reps.one (show Kd.M (Kd.int .i64) _ _ _ 0 [.int .i64 0] from rfl) (Reps.none _ _))))); intro v180 w52 ho53 hb hg_ hnew_; clear hg_ hnew_; (first | rw [← Ny179.out] at ho53 | (simp only [Int.reduceToNat] at ho53; rw [← Ny179.out] at ho53)); have n0_ := Aside0.mk (Kd.R_lower ho53 (below_size (by repeat (first | (with_reducible first | exact HB.out | apply below_alloc | apply pw_below_drewN | apply below_drew1) | exact HB.out)))); have n1_ := Aside0.mk (below_step (by repeat (first | (with_reducible first | exact HB.out | apply below_alloc | apply pw_below_drewN | apply below_drew1) | exact HB.out)) hb); clear HB; have HO181 := n0_; have HB := n1_; clear n0_ n1_; clear hb ho53) | ((with_reducible refine gate_dst (N := 4) rfl ?_); (try (refine gate_guard (by rfl) ?_; dsimp only)); refine Kd.R_lit (Kd.int .i64) _ 3 ?hg (N := 4) ?hd (xs := ([0, 1, 0] : List Int)) (inner := [.int .i64 0, .int .i64 1, .int .i64 0]) (ok := fun _ => True) (okp := fun _ => True) ?hr ?hp (fun _ hk => hk) trivial (Below.refl _ _) (Nat.le_refl _) (by simp) ?_; (case hd => rfl); (case hg => rfl); (case hr => first | (go_simp; done) | (go_simp; rfl)); (case hp => exact (Reps.one (show Kd.M (Kd.int .i64) _ _ _ 0 [.int .i64 0] from rfl) (Reps.one (show Kd.M (Kd.int .i64) _ _ _ 1 [.int .i64 1] from rfl) (Reps.one (show Kd.M (Kd.int .i64) _ _ _ 0 [.int .i64 0] from rfl) (Reps.none _ _))))); intro v183 w54 ho55 hb hg_ hnew_; clear hg_ hnew_; (first | rw [← Ny182.out] at ho55 | (simp only [Int.reduceToNat] at ho55; rw [← Ny182.out] at ho55)); have n0_ := Aside0.mk (Kd.R_elder' (by (with_reducible repeat (first | apply Kd.R_alloc | apply Kd.R_drewN | apply Kd.R_drew)); exact HO181.out) (Kd.R_base ho55) hb); have n1_ := Aside0.mk (Kd.R_lower (Kd.R_new' ho55 (Kd.R_lt (by (with_reducible repeat (first | apply Kd.R_alloc | apply Kd.R_drewN | apply Kd.R_drew)); exact HO181.out))) (below_size (by repeat (first | (with_reducible first | exact HB.out | apply below_alloc | apply pw_below_drewN | apply below_drew1) | exact HB.out)))); have n2_ := Aside0.mk (below_step (by repeat (first | (with_reducible first | exact HB.out | apply below_alloc | apply pw_below_drewN | apply below_drew1) | exact HB.out)) hb); clear HO181; clear HB; have HO181 := n0_; have HO184 := n1_; have HB := n2_; clear n0_ n1_ n2_; clear hb ho55; obtain ⟨Ao56, co56, eo56⟩ := Kd.R_slice HO184.out; subst eo56; obtain ⟨Ao57, co57, eo57⟩ := Kd.R_slice HO181.out; subst eo57) | ((with_reducible refine gate_callee (f := 13) rfl ?_); refine goesL_ (some 7) rfl rfl Try.func13 (by kernel_rfl) rfl #[.slice Ao56 y182.length co56, .slice Ao57 y179.length co57, .slice Ao57 y179.length co57, .int .i64 0] rfl (by (try simp only [List.map_toArray, List.map_cons, List.map_nil]); first | done | rfl | (simp only [List.length_drop, List.length_take]; rfl)) ?_; (with_reducible refine (seq_Sequences.calls k _ _ y182 _ _ y179 _ _ y179 0 t185 _ ?side1 ?side2 ?side3 ?side4 ?side5 ?side6 A1.out).mono ?_); (case side1 => repeat (first | exact (Kd.R_reads' HO184.out).2.2 | (with_reducible refine Kd.C_alloc ?_ _) | (with_reducible refine Kd.C_drewN ?_ _) | (with_reducible refine Kd.C_drew ?_))); (case side2 => exact (Kd.R_reads' HO184.out).2.1); (case side3 => repeat (first | exact (Kd.R_reads' HO181.out).2.2 | (with_reducible refine Kd.C_alloc ?_ _) | (with_reducible refine Kd.C_drewN ?_ _) | (with_reducible refine Kd.C_drew ?_))); (case side4 => exact (Kd.R_reads' HO181.out).2.1); (case side5 => repeat (first | exact (Kd.R_reads' HO181.out).2.2 | (with_reducible refine Kd.C_alloc ?_ _) | (with_reducible refine Kd.C_drewN ?_ _) | (with_reducible refine Kd.C_drew ?_))); (case side6 => exact (Kd.R_reads' HO181.out).2.1); rintro e w58 ⟨v186, rfl, ho0, hb⟩; refine ⟨_, rfl, ?_⟩; have n0_ := Aside0.mk (Kd.R_below (by (with_reducible repeat (first | apply Kd.R_alloc | apply Kd.R_drewN | apply Kd.R_drew)); exact HO181.out) hb); have n1_ := Aside0.mk (Kd.R_below (by (with_reducible repeat (first | apply Kd.R_alloc | apply Kd.R_drewN | apply Kd.R_drew)); exact HO184.out) hb); have n2_ := Aside0.mk (Kd.S_lower (Kd.S_new' (Kd.S_new' ho0 (Kd.R_lt (by (with_reducible repeat (first | apply Kd.R_alloc | apply Kd.R_drewN | apply Kd.R_drew)); exact HO181.out))) (Kd.R_lt (by (with_reducible repeat (first | apply Kd.R_alloc | apply Kd.R_drewN | apply Kd.R_drew)); exact HO184.out))) (below_size (by repeat (first | (with_reducible first | exact HB.out | apply below_alloc | apply pw_below_drewN | apply below_drew1) | exact HB.out)))); have n3_ := Aside0.mk (below_step (by repeat (first | (with_reducible first | exact HB.out | apply below_alloc | apply pw_below_drewN | apply below_drew1) | exact HB.out)) hb); clear HO181; clear HO184; clear HB; have HO181 := n0_; have HO184 := n1_; have HO187 := n2_; have HB := n3_; clear n0_ n1_ n2_ n3_; (try clear hb); (try clear hb2); (try clear hk); (try clear hi); (try clear ho0); obtain ⟨Ao59, co59, eo59⟩ := Kd.S_slice HO187.out; subst eo59))
    go_ret
    exact ⟨by first | rfl | (simp [errW_none, errW_some] <;> rfl) | (simp [*, errW_none, errW_some] <;> rfl), by repeat (first | (with_reducible first | exact HB.out | apply below_alloc | apply pw_below_drewN | apply below_drew1) | exact HB.out)⟩
end Go.Proofs.Ytbkdaafphcfpdaa.PSeqTells
