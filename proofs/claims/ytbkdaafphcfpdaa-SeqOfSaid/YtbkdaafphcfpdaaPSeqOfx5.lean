import Derived.Test.YtbkdaafphcfpdaaPSeqOfx0
import Derived.Test.YtbkdaafphcfpdaaPSeqOfx3
import Derived.Test.YtbkdaafphcfpdaaPSeqOfx4
namespace Go.Proofs.Ytbkdaafphcfpdaa.PSeqOf
open Go.RowKit Go.Proofs.YtbkdaafphcfpdaaM Go.Proofs.YtbkdaafphcfpdaaW.PrintWords Go.Proofs.YtbkdaafphcfpdaaW.PrintLast Go.Proofs.YtbkdaafphcfpdaaW.PrintMore
attribute [local go_sem] max2_int min2_int max_two min_two max_three min_three max_four min_four   -- for this text's walks alone
set_option linter.unusedVariables false
set_option linter.unusedSimpArgs false
def naskhref22_right.f (k : Nat) (l0 : List Int) (a1 : Int) : Option (Bool) := if 0 ≤ a1 then (if a1 < (l0.length : Int) then (if (rd l0 a1) = 21 then ((naskhref20_Matches.f k l0).bind fun t218 => (if a1 < (t218.length : Int) then ((naskhref20_First.f k l0 (wrap64 (a1 + 1)) (rd t218 a1)).bind fun t222 => (some (t222 == 1))) else (none))) else (some ((rd l0 a1) == 20))) else (none)) else (none)
theorem naskhref22_right.mono : ∀ a0 a1 k, LeO (naskhref22_right.f k a0 a1) (naskhref22_right.f (k + 1) a0 a1) := by
  intro a0 a1 k
  unfold naskhref22_right.f
  repeat' first
      | (with_reducible exact naskhref20_First.mono _ _ _ _)
      | (with_reducible exact naskhref20_Matches.mono _ _)
      | (with_reducible exact LeO.refl _)
      | (with_reducible exact LeO.none _)
      | (with_reducible refine LeO.ite ?_ ?_)
      | (with_reducible refine LeO.bind ?_ (fun _ => ?_))
      | exact naskhref20_First.mono _ _ _ _
      | exact naskhref20_Matches.mono _ _
      | exact LeO.none _
      | refine LeO.ite ?_ ?_
      | refine LeO.bind ?_ (fun _ => ?_)
set_option maxHeartbeats 8000000 in
set_option maxRecDepth 100000 in
theorem naskhref22_right.calls (k : Nat) (A0 : Option Addr) (c0 : Nat) (l0 : List Int) (a1 : Int) (r : Bool) (w : World) (hr0 : Kd.C (Kd.int .i64) w A0 l0.length l0) (hc0 : l0.length ≤ c0) (h : naskhref22_right.f k l0 a1 = some r) :
    Calls Try.prog 34 #[.slice A0 l0.length c0, .int .i64 a1] w fun e w' => e = .returned (.bool r) ∧ Below w.heap.size w w' := by
  have hu77 := Try.underlying77
  have HR0 := Aside0.mk hr0
  have HC0 := Aside0.mk hc0
  clear hr0 hc0
  have HB := Aside0.mk (Below.refl w.heap.size w)
  have H : (if 0 ≤ a1 then (if a1 < (l0.length : Int) then (if (rd l0 a1) = 21 then ((naskhref20_Matches.f k l0).bind fun t218 => (if a1 < (t218.length : Int) then ((naskhref20_First.f k l0 (wrap64 (a1 + 1)) (rd t218 a1)).bind fun t222 => (some (t222 == 1))) else (none))) else (some ((rd l0 a1) == 20))) else (none)) else (none)) = some r := h
  clear h
  by_cases c3 : 0 ≤ a1
  · rw [if_pos c3] at H
    have c3b0 : decide (0 ≤ a1) = true := decide_eq_true c3
    clear c3
    by_cases c4 : a1 < (l0.length : Int)
    · rw [if_pos c4] at H
      have c4b0 : decide (a1 < (l0.length : Int)) = true := decide_eq_true c4
      clear c4
      by_cases c5 : (rd l0 a1) = 21
      · rw [if_pos c5] at H
        have c5b0 : ((rd l0 a1) == 21) = true := beq_iff_eq.mpr c5
        have c5b1 : ((rd l0 a1) != 21) = false := bne_eq_false_iff_eq.mpr c5
        clear c5
        replace H := Option.bind_eq_some_iff.mp H
        obtain ⟨t218, A60, H⟩ := H
        replace H : (if a1 < (t218.length : Int) then ((naskhref20_First.f k l0 (wrap64 (a1 + 1)) (rd t218 a1)).bind fun t222 => (some (t222 == 1))) else (none)) = some r := H
        have A6 := Aside0.mk A60
        clear A60
        by_cases c7 : a1 < (t218.length : Int)
        · rw [if_pos c7] at H
          have c7b0 : decide (a1 < (t218.length : Int)) = true := decide_eq_true c7
          clear c7
          replace H := Option.bind_eq_some_iff.mp H
          obtain ⟨t222, A80, H⟩ := H
          replace H : (some (t222 == 1)) = some r := H
          have A8 := Aside0.mk A80
          clear A80
          obtain rfl := Option.some.inj H
          have p217 : 0 ≤ (a1 : Int) := of_decide_eq_true (by first | (with_reducible assumption) | assumption)
          have q217 : a1 < (l0.length : Int) := of_decide_eq_true (by first | (with_reducible assumption) | assumption)
          obtain ⟨ad217, e217, hx217_0⟩ := Kd.at_int HR0.out a1 p217 q217
          cases e217
          replace p217 := eq_true p217
          replace q217 := eq_true q217
          go_enter Try.func34, Try.ntmps34
          go_wp2_with (first | ((with_reducible refine gate_callee (f := 38) rfl ?_); refine goesL_ (some 19) rfl rfl Try.func38 (by kernel_rfl) rfl #[.slice (some ad217) l0.length c0] rfl (by (try simp only [List.map_toArray, List.map_cons, List.map_nil]); first | done | rfl | (simp only [List.length_drop, List.length_take]; rfl)) ?_; (with_reducible refine (naskhref20_Matches.calls k _ _ l0 t218 _ ?side1 ?side2 A6.out).mono ?_); (case side1 => repeat (first | exact HR0.out | (with_reducible refine Kd.C_alloc ?_ _) | (with_reducible refine Kd.C_drewN ?_ _) | (with_reducible refine Kd.C_drew ?_))); (case side2 => exact HC0.out); rintro e w9 ⟨v219, rfl, ho0, hb⟩; refine ⟨_, rfl, ?_⟩; have n0_ := Aside0.mk (Kd.R_lower ho0 (below_size (by repeat (first | (with_reducible first | exact HB.out | apply below_alloc | apply pw_below_drewN | apply below_drew1) | exact HB.out)))); have n1_ := Aside0.mk (below_step (by repeat (first | (with_reducible first | exact HB.out | apply below_alloc | apply pw_below_drewN | apply below_drew1) | exact HB.out)) hb); clear HB; have HO220 := n0_; have HB := n1_; clear n0_ n1_; (try clear hb); (try clear hb2); (try clear hk); (try clear hi); (try clear ho0); obtain ⟨Ao10, co10, eo10⟩ := Kd.R_slice HO220.out; subst eo10; have p221 : 0 ≤ (a1 : Int) := of_decide_eq_true (by first | (with_reducible assumption) | assumption); have q221 : a1 < (t218.length : Int) := of_decide_eq_true (by first | (with_reducible assumption) | assumption); obtain ⟨ad221, e221, hx221_0⟩ := Kd.at_int (Kd.R_reads' HO220.out).2.2 a1 p221 q221; cases e221; replace p221 := eq_true p221; replace q221 := eq_true q221) | ((with_reducible refine gate_callee (f := 52) rfl ?_); refine goesL_ (some 24) rfl rfl Try.func52 (by kernel_rfl) rfl #[.slice (some ad217) l0.length c0, .agg #[.int .i64 (wrap64 (a1 + 1)), .int .i64 (rd t218 a1)]] rfl (by (try simp only [List.map_toArray, List.map_cons, List.map_nil]); first | done | rfl | (simp only [List.length_drop, List.length_take]; rfl)) ?_; (with_reducible refine (naskhref20_First.calls k _ _ l0 (wrap64 (a1 + 1)) (rd t218 a1) t222 _ ?side1 ?side2 A8.out).mono ?_); (case side1 => repeat (first | exact (Kd.C_below HR0.out HB.out) | (with_reducible refine Kd.C_alloc ?_ _) | (with_reducible refine Kd.C_drewN ?_ _) | (with_reducible refine Kd.C_drew ?_))); (case side2 => exact HC0.out); rintro e w11 ⟨rfl, hb⟩; refine ⟨_, rfl, ?_⟩; have n0_ := Aside0.mk (Kd.R_below (by (with_reducible repeat (first | apply Kd.R_alloc | apply Kd.R_drewN | apply Kd.R_drew)); exact HO220.out) hb); have n1_ := Aside0.mk (below_step (by repeat (first | (with_reducible first | exact HB.out | apply below_alloc | apply pw_below_drewN | apply below_drew1) | exact HB.out)) hb); clear HO220; clear HB; have HO220 := n0_; have HB := n1_; clear n0_ n1_; (try clear hb); (try clear hb2); (try clear hk); (try clear hi)))
          go_ret
          exact ⟨by first | rfl | (simp [errW_none, errW_some] <;> rfl) | (simp [*, errW_none, errW_some] <;> rfl), by repeat (first | (with_reducible first | exact HB.out | apply below_alloc | apply pw_below_drewN | apply below_drew1) | exact HB.out)⟩
        · rw [if_neg c7] at H
          exact absurd H (by simp)
      · rw [if_neg c5] at H
        have c5b0 : ((rd l0 a1) == 21) = false := beq_eq_false_iff_ne.mpr c5
        have c5b1 : ((rd l0 a1) != 21) = true := bne_iff_ne.mpr c5
        obtain rfl := Option.some.inj H
        have p217 : 0 ≤ (a1 : Int) := of_decide_eq_true (by first | (with_reducible assumption) | assumption)
        have q217 : a1 < (l0.length : Int) := of_decide_eq_true (by first | (with_reducible assumption) | assumption)
        obtain ⟨ad217, e217, hx217_0⟩ := Kd.at_int HR0.out a1 p217 q217
        cases e217
        replace p217 := eq_true p217
        replace q217 := eq_true q217
        have p223 : 0 ≤ (a1 : Int) := of_decide_eq_true (by first | (with_reducible assumption) | assumption)
        have q223 : a1 < (l0.length : Int) := of_decide_eq_true (by first | (with_reducible assumption) | assumption)
        obtain ⟨ad223, e223, hx223_0⟩ := Kd.at_int HR0.out a1 p223 q223
        obtain rfl : ad217 = ad223 := (by injection e223)
        replace p223 := eq_true p223
        replace q223 := eq_true q223
        go_enter Try.func34, Try.ntmps34
        go_wp2
        go_ret
        exact ⟨by first | rfl | (simp [errW_none, errW_some] <;> rfl) | (simp [*, errW_none, errW_some] <;> rfl), by repeat (first | (with_reducible first | exact HB.out | apply below_alloc | apply pw_below_drewN | apply below_drew1) | exact HB.out)⟩
    · rw [if_neg c4] at H
      exact absurd H (by simp)
  · rw [if_neg c3] at H
    exact absurd H (by simp)
section
open Go.Proofs.Ytbkdaafphcfpdaa.Stk
def naskhref22_Levels.step (k : Nat) (q : List Int) (bs : Int) (i : Nat) (s : RSt) : Option RSt :=
 if q.getD i 0 = 16 then some ⟨s.a, embB s.a s.b s.l true, s.c, embL s.a s.b s.l true 13, s.L ++ [(topE s.l).lv], s.T ++ [9]⟩
 else if q.getD i 0 = 14 then some ⟨s.a, embB s.a s.b s.l false, s.c, embL s.a s.b s.l false 13, s.L ++ [(topE s.l).lv], s.T ++ [9]⟩
 else if q.getD i 0 = 17 then some ⟨s.a, embB s.a s.b s.l true, s.c, embL s.a s.b s.l true 1, s.L ++ [(topE s.l).lv], s.T ++ [9]⟩
 else if q.getD i 0 = 15 then some ⟨s.a, embB s.a s.b s.l false, s.c, embL s.a s.b s.l false 0, s.L ++ [(topE s.l).lv], s.T ++ [9]⟩
 else if q.getD i 0 = 20 then some ⟨isoA s.a s.b s.l true, s.b, isoC s.a s.b s.c s.l true, isoL s.a s.b s.l true, s.L ++ [(topE s.l).lv], s.T ++ [over (topE s.l).ov 20]⟩
 else if q.getD i 0 = 19 then some ⟨isoA s.a s.b s.l false, s.b, isoC s.a s.b s.c s.l false, isoL s.a s.b s.l false, s.L ++ [(topE s.l).lv], s.T ++ [over (topE s.l).ov 19]⟩
 else if q.getD i 0 = 21 then (naskhref22_right.f k q (i : Int)).bind fun r => some ⟨isoA s.a s.b s.l r, s.b, isoC s.a s.b s.c s.l r, isoL s.a s.b s.l r, s.L ++ [(topE s.l).lv], s.T ++ [over (topE s.l).ov 21]⟩
 else if q.getD i 0 = 22 then some ⟨eiA s.a, eiB s.a s.b s.c, eiC s.a s.c, eiL s.a s.c s.l, s.L ++ [(topE (eiL s.a s.c s.l)).lv], s.T ++ [over (topE (eiL s.a s.c s.l)).ov 22]⟩
 else if q.getD i 0 = 18 then some ⟨s.a, eeB s.a s.b, s.c, eeL s.a s.b s.l, s.L ++ [(topE s.l).lv], s.T ++ [9]⟩
 else if q.getD i 0 = 9 then some ⟨s.a, s.b, s.c, s.l, s.L ++ [(topE s.l).lv], s.T ++ [9]⟩
 else if q.getD i 0 = 10 then some ⟨s.a, s.b, s.c, s.l, s.L ++ [bs], s.T ++ [10]⟩
 else some ⟨s.a, s.b, s.c, s.l, s.L ++ [(topE s.l).lv], s.T ++ [over (topE s.l).ov (q.getD i 0)]⟩
def naskhref22_Levels.go (k : Nat) (q : List Int) (bs : Int) : Nat → RSt → Option RSt
 | 0, s => some s
 | n + 1, s => (naskhref22_Levels.step k q bs (q.length - (n + 1)) s).bind (naskhref22_Levels.go k q bs n)
def naskhref22_Levels.s0 (bs : Int) : RSt := ⟨0, 0, 0, [newE bs], [], []⟩
def naskhref22_Levels.f (k : Nat) (l0 : List Int) (a1 : Int) : Option (List Int × List Int) := if l0.length ≤ 17592186043000 then ((naskhref22_Levels.go k l0 (mn (mx a1 0) 1) l0.length (naskhref22_Levels.s0 (mn (mx a1 0) 1))).bind fun s => some (s.L, s.T)) else none
theorem naskhref22_Levels.step_mono (k : Nat) (q : List Int) (bs : Int) (i : Nat) (s : RSt) : LeO (naskhref22_Levels.step k q bs i s) (naskhref22_Levels.step (k + 1) q bs i s) := by
 unfold naskhref22_Levels.step
 repeat' first
  | (with_reducible exact LeO.refl _)
  | (with_reducible exact naskhref22_right.mono _ _ _)
  | (with_reducible refine LeO.ite ?_ ?_)
  | (with_reducible refine LeO.bind ?_ (fun _ => ?_))
theorem naskhref22_Levels.go_mono (k : Nat) (q : List Int) (bs : Int) : ∀ (n : Nat) (s : RSt), LeO (naskhref22_Levels.go k q bs n s) (naskhref22_Levels.go (k + 1) q bs n s)
 | 0, _ => LeO.refl _
 | n + 1, s => by unfold naskhref22_Levels.go; exact LeO.bind (naskhref22_Levels.step_mono k q bs _ s) (fun _ => naskhref22_Levels.go_mono k q bs n _)
theorem naskhref22_Levels.mono : ∀ a0 a1 k, LeO (naskhref22_Levels.f k a0 a1) (naskhref22_Levels.f (k + 1) a0 a1) := by
 intro a0 a1 k
 unfold naskhref22_Levels.f
 exact LeO.ite (LeO.bind (naskhref22_Levels.go_mono _ _ _ _ _) (fun _ => LeO.refl _)) (LeO.refl _)
theorem naskhref22_Levels.rdD (q : List Int) (i : Nat) : rd q (i : Int) = q.getD i 0 := by unfold rd; rw [Int.toNat_natCast]
theorem naskhref22_Levels.right_lit (k : Nat) (q : List Int) (i : Nat) (hi : i < q.length) (h : ¬ q.getD i 0 = 21) : naskhref22_right.f k q (i : Int) = some (q.getD i 0 == 20) := by
 unfold naskhref22_right.f
 rw [if_pos (by omega), if_pos (by omega), naskhref22_Levels.rdD, if_neg h]
def naskhref22_Levels.Bd (n : Nat) (s : RSt) : Prop := Stk.Good s.l ∧ s.L.length = n ∧ s.T.length = n ∧ (0 ≤ s.a ∧ s.a ≤ (n : Int)) ∧ 0 ≤ s.b ∧ s.b ≤ (n : Int)
theorem naskhref22_Levels.step_bd {k : Nat} {q : List Int} {bs : Int} {i n : Nat} {s s' : RSt} (h : naskhref22_Levels.Bd n s) (hn : n ≤ 17592186044000) (hs : naskhref22_Levels.step k q bs i s = some s') : naskhref22_Levels.Bd (n + 1) s' := by
 obtain ⟨hG, hL, hT, ⟨ha0, ha1⟩, hb0, hb1⟩ := h
 have hN : (n : Int) ≤ 17592186044000 := by omega
 have ka : 0 ≤ s.a ∧ s.a ≤ ((n + 1 : Nat) : Int) := by omega
 have kb : 0 ≤ s.b ∧ s.b ≤ ((n + 1 : Nat) : Int) := by omega
 have kia := fun r => isoA_bd (b := s.b) (l := s.l) ha0 ha1 hN r
 have keb := fun r => embB_bd2 (a := s.a) (l := s.l) hb0 hb1 hN r
 have kea := eiA_bd ha0 ha1 hN
 have kec := eiB_bd (a := s.a) (c := s.c) hb0 hb1 hN
 have kee := eeB_bd (a := s.a) hb0 hb1 hN
 rw [show (n : Int) + 1 = ((n + 1 : Nat) : Int) by omega] at kia keb kea kec kee
 have lL : ∀ x : Int, (s.L ++ [x]).length = n + 1 := fun x => by rw [List.length_append, hL]; rfl
 have lT : ∀ x : Int, (s.T ++ [x]).length = n + 1 := fun x => by rw [List.length_append, hT]; rfl
 unfold naskhref22_Levels.step at hs
 by_cases h16 : q.getD i 0 = 16
 ·rw [if_pos h16] at hs
  obtain rfl := Option.some.inj hs
  exact ⟨(Went.emb hG _ _).1, lL _, lT _, ka, keb _⟩
 rw [if_neg h16] at hs
 by_cases h14 : q.getD i 0 = 14
 ·rw [if_pos h14] at hs
  obtain rfl := Option.some.inj hs
  exact ⟨(Went.emb hG _ _).1, lL _, lT _, ka, keb _⟩
 rw [if_neg h14] at hs
 by_cases h17 : q.getD i 0 = 17
 ·rw [if_pos h17] at hs
  obtain rfl := Option.some.inj hs
  exact ⟨(Went.emb hG _ _).1, lL _, lT _, ka, keb _⟩
 rw [if_neg h17] at hs
 by_cases h15 : q.getD i 0 = 15
 ·rw [if_pos h15] at hs
  obtain rfl := Option.some.inj hs
  exact ⟨(Went.emb hG _ _).1, lL _, lT _, ka, keb _⟩
 rw [if_neg h15] at hs
 by_cases h20 : q.getD i 0 = 20
 ·rw [if_pos h20] at hs
  obtain rfl := Option.some.inj hs
  exact ⟨(Went.isol hG _).1, lL _, lT _, kia _, kb⟩
 rw [if_neg h20] at hs
 by_cases h19 : q.getD i 0 = 19
 ·rw [if_pos h19] at hs
  obtain rfl := Option.some.inj hs
  exact ⟨(Went.isol hG _).1, lL _, lT _, kia _, kb⟩
 rw [if_neg h19] at hs
 by_cases h21 : q.getD i 0 = 21
 ·rw [if_pos h21] at hs
  obtain ⟨r, hr, hs⟩ := Option.bind_eq_some_iff.mp hs
  obtain rfl := Option.some.inj hs
  exact ⟨(Went.isol hG _).1, lL _, lT _, kia _, kb⟩
 rw [if_neg h21] at hs
 by_cases h22 : q.getD i 0 = 22
 ·rw [if_pos h22] at hs
  obtain rfl := Option.some.inj hs
  exact ⟨(Went.ei hG).1, lL _, lT _, kea, kec⟩
 rw [if_neg h22] at hs
 by_cases h18 : q.getD i 0 = 18
 ·rw [if_pos h18] at hs
  obtain rfl := Option.some.inj hs
  exact ⟨(Went.ee hG).1, lL _, lT _, ka, kee⟩
 rw [if_neg h18] at hs
 by_cases h9 : q.getD i 0 = 9
 ·rw [if_pos h9] at hs
  obtain rfl := Option.some.inj hs
  exact ⟨hG, lL _, lT _, ka, kb⟩
 rw [if_neg h9] at hs
 by_cases h10 : q.getD i 0 = 10
 ·rw [if_pos h10] at hs
  obtain rfl := Option.some.inj hs
  exact ⟨hG, lL _, lT _, ka, kb⟩
 rw [if_neg h10] at hs
 obtain rfl := Option.some.inj hs
 exact ⟨hG, lL _, lT _, ka, kb⟩
set_option maxHeartbeats 40000000 in
set_option maxRecDepth 100000 in
theorem naskhref22_Levels.calls (k : Nat) (A0 : Option Addr) (c0 : Nat) (l0 : List Int) (a1 : Int) (r1 : List Int) (r2 : List Int) (w : World) (hr0 : Kd.C (Kd.int .i64) w A0 l0.length l0) (hc0 : l0.length ≤ c0) (h : naskhref22_Levels.f k l0 a1 = some (r1, r2)) :
  Calls Try.prog 11 #[.slice A0 l0.length c0, .int .i64 a1] w fun e w' => ∃ v0_ v1_ : Value, e = .returned (.tuple #[v0_, v1_]) ∧ Kd.R (Kd.int .i64) 3 w' w.heap.size (fun k_ => some k_ ≠ (v1_ : Value).ownBlock) v0_ r1 ∧ Kd.R (Kd.int .i64) 3 w' w.heap.size (fun k_ => some k_ ≠ (v0_ : Value).ownBlock) v1_ r2 ∧ Below w.heap.size w w' := by
 unfold naskhref22_Levels.f at h
 by_cases hsz : l0.length ≤ 17592186043000
 case neg => rw [if_neg hsz] at h; cases h
 rw [if_pos hsz] at h
 obtain ⟨sF, hgo, h⟩ := Option.bind_eq_some_iff.mp h
 obtain ⟨rfl, rfl⟩ := Prod.mk.inj (Option.some.inj h)
 obtain ⟨j1, hj1⟩ : ∃ z, mx a1 0 = z := ⟨_, rfl⟩
 have hj1_ : (if a1 < 0 then 0 else a1) = j1 := hj1
 rw [hj1] at hgo
 obtain ⟨bs, hbs⟩ : ∃ z, mn j1 1 = z := ⟨_, rfl⟩
 have hbs_ : (if 1 < j1 then 1 else j1) = bs := hbs
 rw [hbs] at hgo
 have HGO := Aside0.mk hgo
 have HSZ := Aside0.mk hsz
 have HC := Aside0.mk hr0
 have HCC := Aside0.mk hc0
 clear hgo hsz hr0 hc0 h hj1 hbs
 go_enter Try.func11, Try.ntmps11
 go_wp2_with (first | (go_at_call 27; (with_reducible refine (x_new bs w).mono ?_); rintro e w1 ⟨g, v, rfl, hS, hg, hb⟩; have HR1 := Aside0.mk (show RfC w1 w.heap.size g v 0 0 0 [newE bs] (.slice none 0 0) (.slice none 0 0) [] [] from ⟨hS, Kd.R_nil _ _ _ _ _, Kd.R_nil _ _ _ _ _⟩); have HB1 := Aside0.mk hb; clear hS hg hb))
 go_loopg [7, 8, 9] l0.length (fun kq v7 v8 v9 w' => ∃ (i : Nat) (s : RSt) (v : Value), v9 = .int .i64 (i : Int) ∧ Aside0 (i ≤ l0.length ∧ l0.length - i = kq) ∧ Aside0 (RfC w' w.heap.size g v s.a s.b s.c s.l v7 v8 s.L s.T) ∧ Aside0 (naskhref22_Levels.Bd i s) ∧ Aside0 (Below w.heap.size w w') ∧ Aside0 (naskhref22_Levels.go k l0 bs (l0.length - i) s = some sF))
 case atStart => exact ⟨0, naskhref22_Levels.s0 bs, v, rfl, ⟨Nat.zero_le _, rfl⟩, HR1, ⟨Stk.Good.new _, rfl, rfl, ⟨Int.le_refl _, Int.le_refl _⟩, Int.le_refl _, Int.le_refl _⟩, HB1, HGO⟩
 case round =>
  clear HR1 HB1 HGO v hj1_ hbs_
  obtain ⟨i, s, v, rfl, HI, HR0, HBD, HB0, HGO⟩ := hrel
  by_cases hlt : i < l0.length
  ·have b0 : decide ((i : Int) < (l0.length : Int)) = true := decide_eq_true (by omega)
   have b1 : decide (i < l0.length) = true := decide_eq_true hlt
   have hi0 : ((0 : Int) ≤ (i : Int)) = True := eq_true (by omega)
   have hi1 : ((i : Int) < (l0.length : Int)) = True := eq_true (by omega)
   have hi2 := hlt
   have hw := (show wrap64 ((i : Int) + 1) = ((i + 1 : Nat) : Int) by have := HSZ.out; unfold wrap64; omega)
   have hgo := HGO.out
   obtain ⟨n, hn⟩ : ∃ n, l0.length - i = n + 1 := ⟨l0.length - i - 1, by omega⟩
   rw [hn, naskhref22_Levels.go, show l0.length - (n + 1) = i by omega] at hgo
   obtain ⟨s', hs', hgo'⟩ := Option.bind_eq_some_iff.mp hgo
   rw [show n = l0.length - (i + 1) by omega] at hgo'
   have HBD' := Aside0.mk (naskhref22_Levels.step_bd HBD.out (by have := HSZ.out; omega) hs')
   have HLM := Aside0.mk (show s.L.length ≤ 17592186043000 ∧ s.T.length ≤ 17592186043000 from by have := HBD.out.2.1; have := HBD.out.2.2.1; have := HSZ.out; omega)
   have HG0 := Aside0.mk HBD.out.1
   have HA0 := Aside0.mk (show 0 ≤ s.a ∧ 0 ≤ s.b from ⟨HBD.out.2.2.2.1.1, HBD.out.2.2.2.2.1⟩)
   obtain ⟨ad, ea, hcell⟩ := at_I (Kd.C_below HC.out HB0.out) i hlt
   subst ea
   obtain ⟨a, b, c, l, L, T⟩ := s
   dsimp only at HR0 HLM HG0 HA0
   clear hn hgo HGO HBD
   unfold naskhref22_Levels.step at hs'
   by_cases h16 : l0.getD i 0 = 16
   ·rw [if_pos h16] at hs'
    rw [h16] at hcell
    obtain rfl := Option.some.inj hs'
    clear hs'
    dsimp only at hgo' HBD'
    have HG1 := Aside0.mk (show Stk.Good l from HG0.out)
    obtain ⟨y0, hy0⟩ : ∃ z, over (topE l).ov 16 = z := ⟨_, rfl⟩
    have HGV := Aside0.mk (fun (W : World) (h : StkX W w.heap.size g v a b c l) => r_given h HG1.out 16)
    have HTP := Aside0.mk (fun (W : World) (v1 : Value) (h : StkX W w.heap.size g v1 a b c l) => x_top h HG1.out.1 (by have := HG1.out.len; omega))
    rw [hy0] at HGV
    obtain ⟨t0, ht0⟩ : ∃ z, (topE l).lv = z := ⟨_, rfl⟩
    obtain ⟨t1, ht1⟩ : ∃ z, (topE l).ov = z := ⟨_, rfl⟩
    obtain ⟨t2, ht2⟩ : ∃ z, (topE l).iso = z := ⟨_, rfl⟩
    rw [ht0, ht1, ht2] at HTP
    rw [ht0] at hgo' HBD'
    have HGO' := Aside0.mk hgo'
    have hfl : ∀ W : World, (Instr.field 46 (.agg #[.int .i64 t0, .int .i64 t1, .bool t2]) 0).run Try.prog W = .ok (.int .i64 t0) W := fun W => by kernel_rfl
    have HLF := Aside0.mk (show naskhref22_Left.f 16 = some true from by decide)
    have HLT := Aside0.mk hlt
    clear hy0 ht0 ht1 ht2 hgo' hlt hi2
    clear h16
    go_wp2_with (first | (go_at_call 29; (with_reducible refine (HTP.out _ _ (rf_x HR0.out)).mono ?_); rintro e w2 ⟨rfl, hb⟩; have HR2 := Aside0.mk (show RfC w2 w.heap.size g v a b c l u7 u8 L T from rf_below HR0.out hb); have HB2 := Aside0.mk (below_step HB0.out hb); clear hb) | (go_at_call 30; (with_reducible refine (HGV.out _ (rf_x HR2.out)).mono ?_); rintro e w3 ⟨rfl, hb⟩; have HR3 := Aside0.mk (show RfC w3 w.heap.size g v a b c l u7 u8 L T from rf_below HR2.out hb); have HB3 := Aside0.mk (below_step HB2.out hb); clear hb) | (go_at_call 23; (with_reducible refine (naskhref22_Left.calls 16 true _ HLF.out).mono ?_); rintro e w4 ⟨rfl, hb⟩; have HR4 := Aside0.mk (show RfC w4 w.heap.size g v a b c l u7 u8 L T from rf_below HR3.out hb.below); have HB4 := Aside0.mk (below_step HB3.out hb.below); clear hb) | ((with_reducible refine gate_builtin (b := .append) (xs := #[.tmp 46, .tmp 48]) rfl ?_); (try (refine gate_guard (by rfl) ?_; dsimp only)); at_builtin; refine Kd.R_append kI (w0 := w) w.heap.size rfl (.tmp 46) (.tmp 48) 22 3 (.int .i64 0) 8 rfl Try.underlying22 infoI rfl (by decide) (by omega) u7 L t0 [.int .i64 t0] (fun k => some k ≠ (u8).ownBlock) (fun _ => False) rfl rfl ?aP5 (fun _ hk => hk.elim) ?aF5 ?aO5 ?aB5 ?aS5 ?aL5 ?_; (case aP5 => exact rfl); (case aB5 => exact HB4.out); (case aF5 => exact (fun k hk e => by have := Kd.R_lt (HR4.out.2.2) k e.symm; omega)); (case aO5 => exact HR4.out.2.1); (case aS5 => exact (below_size HB4.out)); (case aL5 => have := HLM.out; omega); intro vl5 w5 ho hb hg hat; have HR5 := Aside0.mk (show RfC w5 w.heap.size g v a b c l vl5 u8 (L ++ [t0]) T from rf_app1 HR4.out hg ho hat); have HB5 := Aside0.mk hb; clear ho hb hg hat) | ((with_reducible refine gate_builtin (b := .append) (xs := #[.tmp 50, .tmp 52]) rfl ?_); (try (refine gate_guard (by rfl) ?_; dsimp only)); at_builtin; refine Kd.R_append kI (w0 := w) w.heap.size rfl (.tmp 50) (.tmp 52) 22 3 (.int .i64 0) 8 rfl Try.underlying22 infoI rfl (by decide) (by omega) u8 T 9 [.int .i64 9] (fun k => some k ≠ (vl5).ownBlock) (fun _ => False) rfl rfl ?aP6 (fun _ hk => hk.elim) ?aF6 ?aO6 ?aB6 ?aS6 ?aL6 ?_; (case aP6 => exact rfl); (case aB6 => exact HB5.out); (case aF6 => exact (fun k hk e => by have := Kd.R_lt (HR5.out.2.1) k e.symm; omega)); (case aO6 => exact HR5.out.2.2); (case aS6 => exact (below_size HB5.out)); (case aL6 => have := HLM.out; omega); intro vt6 w6 ho hb hg hat; have HR6 := Aside0.mk (show RfC w6 w.heap.size g v a b c l vl5 vt6 (L ++ [t0]) (T ++ [9]) from rf_app2 HR5.out hg ho hat); have HB6 := Aside0.mk hb; clear ho hb hg hat) | (go_at_call 31; (with_reducible refine (x_embed (rf_x HR6.out) HG0.out (rf_l HA0.out) (rf_r HA0.out) true 13).mono ?_); rintro e w8 ⟨v8, rfl, hS, hm⟩; have HR8 := Aside0.mk (show RfC w8 w.heap.size g v8 a (embB a b l true) c (embL a b l true 13) vl5 vt6 (L ++ [t0]) (T ++ [9]) from rf_stk HR6.out hS hm); have HB8 := Aside0.mk (HB6.out.trans (hm.below HR6.out.1)); clear hS hm))
    go_roundg (l0.length - (i + 1))
    case measure => have := HI.out; have := HLT.out; omega
    case rel => exact ⟨i + 1, ⟨a, (embB a b l true), c, (embL a b l true 13), (L ++ [t0]), (T ++ [9])⟩, v8, by first | rfl | go_num | rw [hw], ⟨by have := HLT.out; omega, rfl⟩, HR8, HBD', HB8, HGO'⟩
   rw [if_neg h16] at hs'
   by_cases h14 : l0.getD i 0 = 14
   ·rw [if_pos h14] at hs'
    rw [h14] at hcell
    obtain rfl := Option.some.inj hs'
    clear hs'
    dsimp only at hgo' HBD'
    have HG1 := Aside0.mk (show Stk.Good l from HG0.out)
    obtain ⟨y0, hy0⟩ : ∃ z, over (topE l).ov 14 = z := ⟨_, rfl⟩
    have HGV := Aside0.mk (fun (W : World) (h : StkX W w.heap.size g v a b c l) => r_given h HG1.out 14)
    have HTP := Aside0.mk (fun (W : World) (v1 : Value) (h : StkX W w.heap.size g v1 a b c l) => x_top h HG1.out.1 (by have := HG1.out.len; omega))
    rw [hy0] at HGV
    obtain ⟨t0, ht0⟩ : ∃ z, (topE l).lv = z := ⟨_, rfl⟩
    obtain ⟨t1, ht1⟩ : ∃ z, (topE l).ov = z := ⟨_, rfl⟩
    obtain ⟨t2, ht2⟩ : ∃ z, (topE l).iso = z := ⟨_, rfl⟩
    rw [ht0, ht1, ht2] at HTP
    rw [ht0] at hgo' HBD'
    have HGO' := Aside0.mk hgo'
    have hfl : ∀ W : World, (Instr.field 46 (.agg #[.int .i64 t0, .int .i64 t1, .bool t2]) 0).run Try.prog W = .ok (.int .i64 t0) W := fun W => by kernel_rfl
    have HLF := Aside0.mk (show naskhref22_Left.f 14 = some true from by decide)
    have HLT := Aside0.mk hlt
    clear hy0 ht0 ht1 ht2 hgo' hlt hi2
    clear h16 h14
    go_wp2_with (first | (go_at_call 29; (with_reducible refine (HTP.out _ _ (rf_x HR0.out)).mono ?_); rintro e w2 ⟨rfl, hb⟩; have HR2 := Aside0.mk (show RfC w2 w.heap.size g v a b c l u7 u8 L T from rf_below HR0.out hb); have HB2 := Aside0.mk (below_step HB0.out hb); clear hb) | (go_at_call 30; (with_reducible refine (HGV.out _ (rf_x HR2.out)).mono ?_); rintro e w3 ⟨rfl, hb⟩; have HR3 := Aside0.mk (show RfC w3 w.heap.size g v a b c l u7 u8 L T from rf_below HR2.out hb); have HB3 := Aside0.mk (below_step HB2.out hb); clear hb) | (go_at_call 23; (with_reducible refine (naskhref22_Left.calls 14 true _ HLF.out).mono ?_); rintro e w4 ⟨rfl, hb⟩; have HR4 := Aside0.mk (show RfC w4 w.heap.size g v a b c l u7 u8 L T from rf_below HR3.out hb.below); have HB4 := Aside0.mk (below_step HB3.out hb.below); clear hb) | ((with_reducible refine gate_builtin (b := .append) (xs := #[.tmp 46, .tmp 48]) rfl ?_); (try (refine gate_guard (by rfl) ?_; dsimp only)); at_builtin; refine Kd.R_append kI (w0 := w) w.heap.size rfl (.tmp 46) (.tmp 48) 22 3 (.int .i64 0) 8 rfl Try.underlying22 infoI rfl (by decide) (by omega) u7 L t0 [.int .i64 t0] (fun k => some k ≠ (u8).ownBlock) (fun _ => False) rfl rfl ?aP5 (fun _ hk => hk.elim) ?aF5 ?aO5 ?aB5 ?aS5 ?aL5 ?_; (case aP5 => exact rfl); (case aB5 => exact HB4.out); (case aF5 => exact (fun k hk e => by have := Kd.R_lt (HR4.out.2.2) k e.symm; omega)); (case aO5 => exact HR4.out.2.1); (case aS5 => exact (below_size HB4.out)); (case aL5 => have := HLM.out; omega); intro vl5 w5 ho hb hg hat; have HR5 := Aside0.mk (show RfC w5 w.heap.size g v a b c l vl5 u8 (L ++ [t0]) T from rf_app1 HR4.out hg ho hat); have HB5 := Aside0.mk hb; clear ho hb hg hat) | ((with_reducible refine gate_builtin (b := .append) (xs := #[.tmp 50, .tmp 52]) rfl ?_); (try (refine gate_guard (by rfl) ?_; dsimp only)); at_builtin; refine Kd.R_append kI (w0 := w) w.heap.size rfl (.tmp 50) (.tmp 52) 22 3 (.int .i64 0) 8 rfl Try.underlying22 infoI rfl (by decide) (by omega) u8 T 9 [.int .i64 9] (fun k => some k ≠ (vl5).ownBlock) (fun _ => False) rfl rfl ?aP6 (fun _ hk => hk.elim) ?aF6 ?aO6 ?aB6 ?aS6 ?aL6 ?_; (case aP6 => exact rfl); (case aB6 => exact HB5.out); (case aF6 => exact (fun k hk e => by have := Kd.R_lt (HR5.out.2.1) k e.symm; omega)); (case aO6 => exact HR5.out.2.2); (case aS6 => exact (below_size HB5.out)); (case aL6 => have := HLM.out; omega); intro vt6 w6 ho hb hg hat; have HR6 := Aside0.mk (show RfC w6 w.heap.size g v a b c l vl5 vt6 (L ++ [t0]) (T ++ [9]) from rf_app2 HR5.out hg ho hat); have HB6 := Aside0.mk hb; clear ho hb hg hat) | (go_at_call 31; (with_reducible refine (x_embed (rf_x HR6.out) HG0.out (rf_l HA0.out) (rf_r HA0.out) false 13).mono ?_); rintro e w8 ⟨v8, rfl, hS, hm⟩; have HR8 := Aside0.mk (show RfC w8 w.heap.size g v8 a (embB a b l false) c (embL a b l false 13) vl5 vt6 (L ++ [t0]) (T ++ [9]) from rf_stk HR6.out hS hm); have HB8 := Aside0.mk (HB6.out.trans (hm.below HR6.out.1)); clear hS hm))
    go_roundg (l0.length - (i + 1))
    case measure => have := HI.out; have := HLT.out; omega
    case rel => exact ⟨i + 1, ⟨a, (embB a b l false), c, (embL a b l false 13), (L ++ [t0]), (T ++ [9])⟩, v8, by first | rfl | go_num | rw [hw], ⟨by have := HLT.out; omega, rfl⟩, HR8, HBD', HB8, HGO'⟩
   rw [if_neg h14] at hs'
   by_cases h17 : l0.getD i 0 = 17
   ·rw [if_pos h17] at hs'
    rw [h17] at hcell
    obtain rfl := Option.some.inj hs'
    clear hs'
    dsimp only at hgo' HBD'
    have HG1 := Aside0.mk (show Stk.Good l from HG0.out)
    obtain ⟨y0, hy0⟩ : ∃ z, over (topE l).ov 17 = z := ⟨_, rfl⟩
    have HGV := Aside0.mk (fun (W : World) (h : StkX W w.heap.size g v a b c l) => r_given h HG1.out 17)
    have HTP := Aside0.mk (fun (W : World) (v1 : Value) (h : StkX W w.heap.size g v1 a b c l) => x_top h HG1.out.1 (by have := HG1.out.len; omega))
    rw [hy0] at HGV
    obtain ⟨t0, ht0⟩ : ∃ z, (topE l).lv = z := ⟨_, rfl⟩
    obtain ⟨t1, ht1⟩ : ∃ z, (topE l).ov = z := ⟨_, rfl⟩
    obtain ⟨t2, ht2⟩ : ∃ z, (topE l).iso = z := ⟨_, rfl⟩
    rw [ht0, ht1, ht2] at HTP
    rw [ht0] at hgo' HBD'
    have HGO' := Aside0.mk hgo'
    have hfl : ∀ W : World, (Instr.field 46 (.agg #[.int .i64 t0, .int .i64 t1, .bool t2]) 0).run Try.prog W = .ok (.int .i64 t0) W := fun W => by kernel_rfl
    have HLF := Aside0.mk (show naskhref22_Left.f 17 = some true from by decide)
    have HLT := Aside0.mk hlt
    clear hy0 ht0 ht1 ht2 hgo' hlt hi2
    clear h16 h14 h17
    go_wp2_with (first | (go_at_call 29; (with_reducible refine (HTP.out _ _ (rf_x HR0.out)).mono ?_); rintro e w2 ⟨rfl, hb⟩; have HR2 := Aside0.mk (show RfC w2 w.heap.size g v a b c l u7 u8 L T from rf_below HR0.out hb); have HB2 := Aside0.mk (below_step HB0.out hb); clear hb) | (go_at_call 30; (with_reducible refine (HGV.out _ (rf_x HR2.out)).mono ?_); rintro e w3 ⟨rfl, hb⟩; have HR3 := Aside0.mk (show RfC w3 w.heap.size g v a b c l u7 u8 L T from rf_below HR2.out hb); have HB3 := Aside0.mk (below_step HB2.out hb); clear hb) | (go_at_call 23; (with_reducible refine (naskhref22_Left.calls 17 true _ HLF.out).mono ?_); rintro e w4 ⟨rfl, hb⟩; have HR4 := Aside0.mk (show RfC w4 w.heap.size g v a b c l u7 u8 L T from rf_below HR3.out hb.below); have HB4 := Aside0.mk (below_step HB3.out hb.below); clear hb) | ((with_reducible refine gate_builtin (b := .append) (xs := #[.tmp 46, .tmp 48]) rfl ?_); (try (refine gate_guard (by rfl) ?_; dsimp only)); at_builtin; refine Kd.R_append kI (w0 := w) w.heap.size rfl (.tmp 46) (.tmp 48) 22 3 (.int .i64 0) 8 rfl Try.underlying22 infoI rfl (by decide) (by omega) u7 L t0 [.int .i64 t0] (fun k => some k ≠ (u8).ownBlock) (fun _ => False) rfl rfl ?aP5 (fun _ hk => hk.elim) ?aF5 ?aO5 ?aB5 ?aS5 ?aL5 ?_; (case aP5 => exact rfl); (case aB5 => exact HB4.out); (case aF5 => exact (fun k hk e => by have := Kd.R_lt (HR4.out.2.2) k e.symm; omega)); (case aO5 => exact HR4.out.2.1); (case aS5 => exact (below_size HB4.out)); (case aL5 => have := HLM.out; omega); intro vl5 w5 ho hb hg hat; have HR5 := Aside0.mk (show RfC w5 w.heap.size g v a b c l vl5 u8 (L ++ [t0]) T from rf_app1 HR4.out hg ho hat); have HB5 := Aside0.mk hb; clear ho hb hg hat) | ((with_reducible refine gate_builtin (b := .append) (xs := #[.tmp 50, .tmp 52]) rfl ?_); (try (refine gate_guard (by rfl) ?_; dsimp only)); at_builtin; refine Kd.R_append kI (w0 := w) w.heap.size rfl (.tmp 50) (.tmp 52) 22 3 (.int .i64 0) 8 rfl Try.underlying22 infoI rfl (by decide) (by omega) u8 T 9 [.int .i64 9] (fun k => some k ≠ (vl5).ownBlock) (fun _ => False) rfl rfl ?aP6 (fun _ hk => hk.elim) ?aF6 ?aO6 ?aB6 ?aS6 ?aL6 ?_; (case aP6 => exact rfl); (case aB6 => exact HB5.out); (case aF6 => exact (fun k hk e => by have := Kd.R_lt (HR5.out.2.1) k e.symm; omega)); (case aO6 => exact HR5.out.2.2); (case aS6 => exact (below_size HB5.out)); (case aL6 => have := HLM.out; omega); intro vt6 w6 ho hb hg hat; have HR6 := Aside0.mk (show RfC w6 w.heap.size g v a b c l vl5 vt6 (L ++ [t0]) (T ++ [9]) from rf_app2 HR5.out hg ho hat); have HB6 := Aside0.mk hb; clear ho hb hg hat) | (go_at_call 31; (with_reducible refine (x_embed (rf_x HR6.out) HG0.out (rf_l HA0.out) (rf_r HA0.out) true 1).mono ?_); rintro e w8 ⟨v8, rfl, hS, hm⟩; have HR8 := Aside0.mk (show RfC w8 w.heap.size g v8 a (embB a b l true) c (embL a b l true 1) vl5 vt6 (L ++ [t0]) (T ++ [9]) from rf_stk HR6.out hS hm); have HB8 := Aside0.mk (HB6.out.trans (hm.below HR6.out.1)); clear hS hm))
    go_roundg (l0.length - (i + 1))
    case measure => have := HI.out; have := HLT.out; omega
    case rel => exact ⟨i + 1, ⟨a, (embB a b l true), c, (embL a b l true 1), (L ++ [t0]), (T ++ [9])⟩, v8, by first | rfl | go_num | rw [hw], ⟨by have := HLT.out; omega, rfl⟩, HR8, HBD', HB8, HGO'⟩
   rw [if_neg h17] at hs'
   by_cases h15 : l0.getD i 0 = 15
   ·rw [if_pos h15] at hs'
    rw [h15] at hcell
    obtain rfl := Option.some.inj hs'
    clear hs'
    dsimp only at hgo' HBD'
    have HG1 := Aside0.mk (show Stk.Good l from HG0.out)
    obtain ⟨y0, hy0⟩ : ∃ z, over (topE l).ov 15 = z := ⟨_, rfl⟩
    have HGV := Aside0.mk (fun (W : World) (h : StkX W w.heap.size g v a b c l) => r_given h HG1.out 15)
    have HTP := Aside0.mk (fun (W : World) (v1 : Value) (h : StkX W w.heap.size g v1 a b c l) => x_top h HG1.out.1 (by have := HG1.out.len; omega))
    rw [hy0] at HGV
    obtain ⟨t0, ht0⟩ : ∃ z, (topE l).lv = z := ⟨_, rfl⟩
    obtain ⟨t1, ht1⟩ : ∃ z, (topE l).ov = z := ⟨_, rfl⟩
    obtain ⟨t2, ht2⟩ : ∃ z, (topE l).iso = z := ⟨_, rfl⟩
    rw [ht0, ht1, ht2] at HTP
    rw [ht0] at hgo' HBD'
    have HGO' := Aside0.mk hgo'
    have hfl : ∀ W : World, (Instr.field 46 (.agg #[.int .i64 t0, .int .i64 t1, .bool t2]) 0).run Try.prog W = .ok (.int .i64 t0) W := fun W => by kernel_rfl
    have HLF := Aside0.mk (show naskhref22_Left.f 15 = some true from by decide)
    have HLT := Aside0.mk hlt
    clear hy0 ht0 ht1 ht2 hgo' hlt hi2
    clear h16 h14 h17 h15
    go_wp2_with (first | (go_at_call 29; (with_reducible refine (HTP.out _ _ (rf_x HR0.out)).mono ?_); rintro e w2 ⟨rfl, hb⟩; have HR2 := Aside0.mk (show RfC w2 w.heap.size g v a b c l u7 u8 L T from rf_below HR0.out hb); have HB2 := Aside0.mk (below_step HB0.out hb); clear hb) | (go_at_call 30; (with_reducible refine (HGV.out _ (rf_x HR2.out)).mono ?_); rintro e w3 ⟨rfl, hb⟩; have HR3 := Aside0.mk (show RfC w3 w.heap.size g v a b c l u7 u8 L T from rf_below HR2.out hb); have HB3 := Aside0.mk (below_step HB2.out hb); clear hb) | (go_at_call 23; (with_reducible refine (naskhref22_Left.calls 15 true _ HLF.out).mono ?_); rintro e w4 ⟨rfl, hb⟩; have HR4 := Aside0.mk (show RfC w4 w.heap.size g v a b c l u7 u8 L T from rf_below HR3.out hb.below); have HB4 := Aside0.mk (below_step HB3.out hb.below); clear hb) | ((with_reducible refine gate_builtin (b := .append) (xs := #[.tmp 46, .tmp 48]) rfl ?_); (try (refine gate_guard (by rfl) ?_; dsimp only)); at_builtin; refine Kd.R_append kI (w0 := w) w.heap.size rfl (.tmp 46) (.tmp 48) 22 3 (.int .i64 0) 8 rfl Try.underlying22 infoI rfl (by decide) (by omega) u7 L t0 [.int .i64 t0] (fun k => some k ≠ (u8).ownBlock) (fun _ => False) rfl rfl ?aP5 (fun _ hk => hk.elim) ?aF5 ?aO5 ?aB5 ?aS5 ?aL5 ?_; (case aP5 => exact rfl); (case aB5 => exact HB4.out); (case aF5 => exact (fun k hk e => by have := Kd.R_lt (HR4.out.2.2) k e.symm; omega)); (case aO5 => exact HR4.out.2.1); (case aS5 => exact (below_size HB4.out)); (case aL5 => have := HLM.out; omega); intro vl5 w5 ho hb hg hat; have HR5 := Aside0.mk (show RfC w5 w.heap.size g v a b c l vl5 u8 (L ++ [t0]) T from rf_app1 HR4.out hg ho hat); have HB5 := Aside0.mk hb; clear ho hb hg hat) | ((with_reducible refine gate_builtin (b := .append) (xs := #[.tmp 50, .tmp 52]) rfl ?_); (try (refine gate_guard (by rfl) ?_; dsimp only)); at_builtin; refine Kd.R_append kI (w0 := w) w.heap.size rfl (.tmp 50) (.tmp 52) 22 3 (.int .i64 0) 8 rfl Try.underlying22 infoI rfl (by decide) (by omega) u8 T 9 [.int .i64 9] (fun k => some k ≠ (vl5).ownBlock) (fun _ => False) rfl rfl ?aP6 (fun _ hk => hk.elim) ?aF6 ?aO6 ?aB6 ?aS6 ?aL6 ?_; (case aP6 => exact rfl); (case aB6 => exact HB5.out); (case aF6 => exact (fun k hk e => by have := Kd.R_lt (HR5.out.2.1) k e.symm; omega)); (case aO6 => exact HR5.out.2.2); (case aS6 => exact (below_size HB5.out)); (case aL6 => have := HLM.out; omega); intro vt6 w6 ho hb hg hat; have HR6 := Aside0.mk (show RfC w6 w.heap.size g v a b c l vl5 vt6 (L ++ [t0]) (T ++ [9]) from rf_app2 HR5.out hg ho hat); have HB6 := Aside0.mk hb; clear ho hb hg hat) | (go_at_call 31; (with_reducible refine (x_embed (rf_x HR6.out) HG0.out (rf_l HA0.out) (rf_r HA0.out) false 0).mono ?_); rintro e w8 ⟨v8, rfl, hS, hm⟩; have HR8 := Aside0.mk (show RfC w8 w.heap.size g v8 a (embB a b l false) c (embL a b l false 0) vl5 vt6 (L ++ [t0]) (T ++ [9]) from rf_stk HR6.out hS hm); have HB8 := Aside0.mk (HB6.out.trans (hm.below HR6.out.1)); clear hS hm))
    go_roundg (l0.length - (i + 1))
    case measure => have := HI.out; have := HLT.out; omega
    case rel => exact ⟨i + 1, ⟨a, (embB a b l false), c, (embL a b l false 0), (L ++ [t0]), (T ++ [9])⟩, v8, by first | rfl | go_num | rw [hw], ⟨by have := HLT.out; omega, rfl⟩, HR8, HBD', HB8, HGO'⟩
   rw [if_neg h15] at hs'
   by_cases h20 : l0.getD i 0 = 20
   ·rw [if_pos h20] at hs'
    rw [h20] at hcell
    obtain rfl := Option.some.inj hs'
    clear hs'
    dsimp only at hgo' HBD'
    have HG1 := Aside0.mk (show Stk.Good l from HG0.out)
    obtain ⟨y0, hy0⟩ : ∃ z, over (topE l).ov 20 = z := ⟨_, rfl⟩
    have HGV := Aside0.mk (fun (W : World) (h : StkX W w.heap.size g v a b c l) => r_given h HG1.out 20)
    have HTP := Aside0.mk (fun (W : World) (v1 : Value) (h : StkX W w.heap.size g v1 a b c l) => x_top h HG1.out.1 (by have := HG1.out.len; omega))
    rw [hy0] at HGV
    obtain ⟨t0, ht0⟩ : ∃ z, (topE l).lv = z := ⟨_, rfl⟩
    obtain ⟨t1, ht1⟩ : ∃ z, (topE l).ov = z := ⟨_, rfl⟩
    obtain ⟨t2, ht2⟩ : ∃ z, (topE l).iso = z := ⟨_, rfl⟩
    rw [ht0, ht1, ht2] at HTP
    rw [ht0] at hgo' HBD'
    rw [hy0] at hgo' HBD'
    have HGO' := Aside0.mk hgo'
    have hfl : ∀ W : World, (Instr.field 46 (.agg #[.int .i64 t0, .int .i64 t1, .bool t2]) 0).run Try.prog W = .ok (.int .i64 t0) W := fun W => by kernel_rfl
    have HLF := Aside0.mk (show naskhref22_Left.f 20 = some false from by decide)
    have HRT := Aside0.mk (show naskhref22_right.f k l0 (i : Int) = some true from by have z := naskhref22_Levels.right_lit k l0 i hlt (by rw [h20]; decide); rw [h20] at z; exact z)
    have HLT := Aside0.mk hlt
    clear hy0 ht0 ht1 ht2 hgo' hlt hi2
    clear h16 h14 h17 h15 h20
    go_wp2_with (first | (go_at_call 29; (with_reducible refine (HTP.out _ _ (rf_x HR0.out)).mono ?_); rintro e w2 ⟨rfl, hb⟩; have HR2 := Aside0.mk (show RfC w2 w.heap.size g v a b c l u7 u8 L T from rf_below HR0.out hb); have HB2 := Aside0.mk (below_step HB0.out hb); clear hb) | (go_at_call 30; (with_reducible refine (HGV.out _ (rf_x HR2.out)).mono ?_); rintro e w3 ⟨rfl, hb⟩; have HR3 := Aside0.mk (show RfC w3 w.heap.size g v a b c l u7 u8 L T from rf_below HR2.out hb); have HB3 := Aside0.mk (below_step HB2.out hb); clear hb) | (go_at_call 23; (with_reducible refine (naskhref22_Left.calls 20 false _ HLF.out).mono ?_); rintro e w4 ⟨rfl, hb⟩; have HR4 := Aside0.mk (show RfC w4 w.heap.size g v a b c l u7 u8 L T from rf_below HR3.out hb.below); have HB4 := Aside0.mk (below_step HB3.out hb.below); clear hb) | ((with_reducible refine gate_builtin (b := .append) (xs := #[.tmp 46, .tmp 48]) rfl ?_); (try (refine gate_guard (by rfl) ?_; dsimp only)); at_builtin; refine Kd.R_append kI (w0 := w) w.heap.size rfl (.tmp 46) (.tmp 48) 22 3 (.int .i64 0) 8 rfl Try.underlying22 infoI rfl (by decide) (by omega) u7 L t0 [.int .i64 t0] (fun k => some k ≠ (u8).ownBlock) (fun _ => False) rfl rfl ?aP5 (fun _ hk => hk.elim) ?aF5 ?aO5 ?aB5 ?aS5 ?aL5 ?_; (case aP5 => exact rfl); (case aB5 => exact HB4.out); (case aF5 => exact (fun k hk e => by have := Kd.R_lt (HR4.out.2.2) k e.symm; omega)); (case aO5 => exact HR4.out.2.1); (case aS5 => exact (below_size HB4.out)); (case aL5 => have := HLM.out; omega); intro vl5 w5 ho hb hg hat; have HR5 := Aside0.mk (show RfC w5 w.heap.size g v a b c l vl5 u8 (L ++ [t0]) T from rf_app1 HR4.out hg ho hat); have HB5 := Aside0.mk hb; clear ho hb hg hat) | ((with_reducible refine gate_builtin (b := .append) (xs := #[.tmp 50, .tmp 52]) rfl ?_); (try (refine gate_guard (by rfl) ?_; dsimp only)); at_builtin; refine Kd.R_append kI (w0 := w) w.heap.size rfl (.tmp 50) (.tmp 52) 22 3 (.int .i64 0) 8 rfl Try.underlying22 infoI rfl (by decide) (by omega) u8 T y0 [.int .i64 y0] (fun k => some k ≠ (vl5).ownBlock) (fun _ => False) rfl rfl ?aP6 (fun _ hk => hk.elim) ?aF6 ?aO6 ?aB6 ?aS6 ?aL6 ?_; (case aP6 => exact rfl); (case aB6 => exact HB5.out); (case aF6 => exact (fun k hk e => by have := Kd.R_lt (HR5.out.2.1) k e.symm; omega)); (case aO6 => exact HR5.out.2.2); (case aS6 => exact (below_size HB5.out)); (case aL6 => have := HLM.out; omega); intro vt6 w6 ho hb hg hat; have HR6 := Aside0.mk (show RfC w6 w.heap.size g v a b c l vl5 vt6 (L ++ [t0]) (T ++ [y0]) from rf_app2 HR5.out hg ho hat); have HB6 := Aside0.mk hb; clear ho hb hg hat) | (go_at_call 34; (with_reducible refine (naskhref22_right.calls k _ c0 l0 _ true _ (Kd.C_below HC.out HB6.out) HCC.out HRT.out).mono ?_); rintro e w7 ⟨rfl, hb⟩; have HR7 := Aside0.mk (show RfC w7 w.heap.size g v a b c l vl5 vt6 (L ++ [t0]) (T ++ [y0]) from rf_below HR6.out hb); have HB7 := Aside0.mk (below_step HB6.out hb); clear hb) | (go_at_call 33; (with_reducible refine (x_isolate (rf_x HR7.out) HG0.out (rf_l HA0.out) (rf_r HA0.out) true).mono ?_); rintro e w8 ⟨v8, rfl, hS, hm⟩; have HR8 := Aside0.mk (show RfC w8 w.heap.size g v8 (isoA a b l true) b (isoC a b c l true) (isoL a b l true) vl5 vt6 (L ++ [t0]) (T ++ [y0]) from rf_stk HR7.out hS hm); have HB8 := Aside0.mk (HB7.out.trans (hm.below HR7.out.1)); clear hS hm))
    go_roundg (l0.length - (i + 1))
    case measure => have := HI.out; have := HLT.out; omega
    case rel => exact ⟨i + 1, ⟨(isoA a b l true), b, (isoC a b c l true), (isoL a b l true), (L ++ [t0]), (T ++ [y0])⟩, v8, by first | rfl | go_num | rw [hw], ⟨by have := HLT.out; omega, rfl⟩, HR8, HBD', HB8, HGO'⟩
   rw [if_neg h20] at hs'
   by_cases h19 : l0.getD i 0 = 19
   ·rw [if_pos h19] at hs'
    rw [h19] at hcell
    obtain rfl := Option.some.inj hs'
    clear hs'
    dsimp only at hgo' HBD'
    have HG1 := Aside0.mk (show Stk.Good l from HG0.out)
    obtain ⟨y0, hy0⟩ : ∃ z, over (topE l).ov 19 = z := ⟨_, rfl⟩
    have HGV := Aside0.mk (fun (W : World) (h : StkX W w.heap.size g v a b c l) => r_given h HG1.out 19)
    have HTP := Aside0.mk (fun (W : World) (v1 : Value) (h : StkX W w.heap.size g v1 a b c l) => x_top h HG1.out.1 (by have := HG1.out.len; omega))
    rw [hy0] at HGV
    obtain ⟨t0, ht0⟩ : ∃ z, (topE l).lv = z := ⟨_, rfl⟩
    obtain ⟨t1, ht1⟩ : ∃ z, (topE l).ov = z := ⟨_, rfl⟩
    obtain ⟨t2, ht2⟩ : ∃ z, (topE l).iso = z := ⟨_, rfl⟩
    rw [ht0, ht1, ht2] at HTP
    rw [ht0] at hgo' HBD'
    rw [hy0] at hgo' HBD'
    have HGO' := Aside0.mk hgo'
    have hfl : ∀ W : World, (Instr.field 46 (.agg #[.int .i64 t0, .int .i64 t1, .bool t2]) 0).run Try.prog W = .ok (.int .i64 t0) W := fun W => by kernel_rfl
    have HLF := Aside0.mk (show naskhref22_Left.f 19 = some false from by decide)
    have HRT := Aside0.mk (show naskhref22_right.f k l0 (i : Int) = some false from by have z := naskhref22_Levels.right_lit k l0 i hlt (by rw [h19]; decide); rw [h19] at z; exact z)
    have HLT := Aside0.mk hlt
    clear hy0 ht0 ht1 ht2 hgo' hlt hi2
    clear h16 h14 h17 h15 h20 h19
    go_wp2_with (first | (go_at_call 29; (with_reducible refine (HTP.out _ _ (rf_x HR0.out)).mono ?_); rintro e w2 ⟨rfl, hb⟩; have HR2 := Aside0.mk (show RfC w2 w.heap.size g v a b c l u7 u8 L T from rf_below HR0.out hb); have HB2 := Aside0.mk (below_step HB0.out hb); clear hb) | (go_at_call 30; (with_reducible refine (HGV.out _ (rf_x HR2.out)).mono ?_); rintro e w3 ⟨rfl, hb⟩; have HR3 := Aside0.mk (show RfC w3 w.heap.size g v a b c l u7 u8 L T from rf_below HR2.out hb); have HB3 := Aside0.mk (below_step HB2.out hb); clear hb) | (go_at_call 23; (with_reducible refine (naskhref22_Left.calls 19 false _ HLF.out).mono ?_); rintro e w4 ⟨rfl, hb⟩; have HR4 := Aside0.mk (show RfC w4 w.heap.size g v a b c l u7 u8 L T from rf_below HR3.out hb.below); have HB4 := Aside0.mk (below_step HB3.out hb.below); clear hb) | ((with_reducible refine gate_builtin (b := .append) (xs := #[.tmp 46, .tmp 48]) rfl ?_); (try (refine gate_guard (by rfl) ?_; dsimp only)); at_builtin; refine Kd.R_append kI (w0 := w) w.heap.size rfl (.tmp 46) (.tmp 48) 22 3 (.int .i64 0) 8 rfl Try.underlying22 infoI rfl (by decide) (by omega) u7 L t0 [.int .i64 t0] (fun k => some k ≠ (u8).ownBlock) (fun _ => False) rfl rfl ?aP5 (fun _ hk => hk.elim) ?aF5 ?aO5 ?aB5 ?aS5 ?aL5 ?_; (case aP5 => exact rfl); (case aB5 => exact HB4.out); (case aF5 => exact (fun k hk e => by have := Kd.R_lt (HR4.out.2.2) k e.symm; omega)); (case aO5 => exact HR4.out.2.1); (case aS5 => exact (below_size HB4.out)); (case aL5 => have := HLM.out; omega); intro vl5 w5 ho hb hg hat; have HR5 := Aside0.mk (show RfC w5 w.heap.size g v a b c l vl5 u8 (L ++ [t0]) T from rf_app1 HR4.out hg ho hat); have HB5 := Aside0.mk hb; clear ho hb hg hat) | ((with_reducible refine gate_builtin (b := .append) (xs := #[.tmp 50, .tmp 52]) rfl ?_); (try (refine gate_guard (by rfl) ?_; dsimp only)); at_builtin; refine Kd.R_append kI (w0 := w) w.heap.size rfl (.tmp 50) (.tmp 52) 22 3 (.int .i64 0) 8 rfl Try.underlying22 infoI rfl (by decide) (by omega) u8 T y0 [.int .i64 y0] (fun k => some k ≠ (vl5).ownBlock) (fun _ => False) rfl rfl ?aP6 (fun _ hk => hk.elim) ?aF6 ?aO6 ?aB6 ?aS6 ?aL6 ?_; (case aP6 => exact rfl); (case aB6 => exact HB5.out); (case aF6 => exact (fun k hk e => by have := Kd.R_lt (HR5.out.2.1) k e.symm; omega)); (case aO6 => exact HR5.out.2.2); (case aS6 => exact (below_size HB5.out)); (case aL6 => have := HLM.out; omega); intro vt6 w6 ho hb hg hat; have HR6 := Aside0.mk (show RfC w6 w.heap.size g v a b c l vl5 vt6 (L ++ [t0]) (T ++ [y0]) from rf_app2 HR5.out hg ho hat); have HB6 := Aside0.mk hb; clear ho hb hg hat) | (go_at_call 34; (with_reducible refine (naskhref22_right.calls k _ c0 l0 _ false _ (Kd.C_below HC.out HB6.out) HCC.out HRT.out).mono ?_); rintro e w7 ⟨rfl, hb⟩; have HR7 := Aside0.mk (show RfC w7 w.heap.size g v a b c l vl5 vt6 (L ++ [t0]) (T ++ [y0]) from rf_below HR6.out hb); have HB7 := Aside0.mk (below_step HB6.out hb); clear hb) | (go_at_call 33; (with_reducible refine (x_isolate (rf_x HR7.out) HG0.out (rf_l HA0.out) (rf_r HA0.out) false).mono ?_); rintro e w8 ⟨v8, rfl, hS, hm⟩; have HR8 := Aside0.mk (show RfC w8 w.heap.size g v8 (isoA a b l false) b (isoC a b c l false) (isoL a b l false) vl5 vt6 (L ++ [t0]) (T ++ [y0]) from rf_stk HR7.out hS hm); have HB8 := Aside0.mk (HB7.out.trans (hm.below HR7.out.1)); clear hS hm))
    go_roundg (l0.length - (i + 1))
    case measure => have := HI.out; have := HLT.out; omega
    case rel => exact ⟨i + 1, ⟨(isoA a b l false), b, (isoC a b c l false), (isoL a b l false), (L ++ [t0]), (T ++ [y0])⟩, v8, by first | rfl | go_num | rw [hw], ⟨by have := HLT.out; omega, rfl⟩, HR8, HBD', HB8, HGO'⟩
   rw [if_neg h19] at hs'
   by_cases h21 : l0.getD i 0 = 21
   ·rw [if_pos h21] at hs'
    rw [h21] at hcell
    obtain ⟨r, hr, hs'⟩ := Option.bind_eq_some_iff.mp hs'
    obtain rfl := Option.some.inj hs'
    clear hs'
    dsimp only at hgo' HBD'
    have HG1 := Aside0.mk (show Stk.Good l from HG0.out)
    obtain ⟨y0, hy0⟩ : ∃ z, over (topE l).ov 21 = z := ⟨_, rfl⟩
    have HGV := Aside0.mk (fun (W : World) (h : StkX W w.heap.size g v a b c l) => r_given h HG1.out 21)
    have HTP := Aside0.mk (fun (W : World) (v1 : Value) (h : StkX W w.heap.size g v1 a b c l) => x_top h HG1.out.1 (by have := HG1.out.len; omega))
    rw [hy0] at HGV
    obtain ⟨t0, ht0⟩ : ∃ z, (topE l).lv = z := ⟨_, rfl⟩
    obtain ⟨t1, ht1⟩ : ∃ z, (topE l).ov = z := ⟨_, rfl⟩
    obtain ⟨t2, ht2⟩ : ∃ z, (topE l).iso = z := ⟨_, rfl⟩
    rw [ht0, ht1, ht2] at HTP
    rw [ht0] at hgo' HBD'
    rw [hy0] at hgo' HBD'
    have HGO' := Aside0.mk hgo'
    have hfl : ∀ W : World, (Instr.field 46 (.agg #[.int .i64 t0, .int .i64 t1, .bool t2]) 0).run Try.prog W = .ok (.int .i64 t0) W := fun W => by kernel_rfl
    have HLF := Aside0.mk (show naskhref22_Left.f 21 = some false from by decide)
    have HRT := Aside0.mk hr
    clear hr
    have HLT := Aside0.mk hlt
    clear hy0 ht0 ht1 ht2 hgo' hlt hi2
    clear h16 h14 h17 h15 h20 h19 h21
    go_wp2_with (first | (go_at_call 29; (with_reducible refine (HTP.out _ _ (rf_x HR0.out)).mono ?_); rintro e w2 ⟨rfl, hb⟩; have HR2 := Aside0.mk (show RfC w2 w.heap.size g v a b c l u7 u8 L T from rf_below HR0.out hb); have HB2 := Aside0.mk (below_step HB0.out hb); clear hb) | (go_at_call 30; (with_reducible refine (HGV.out _ (rf_x HR2.out)).mono ?_); rintro e w3 ⟨rfl, hb⟩; have HR3 := Aside0.mk (show RfC w3 w.heap.size g v a b c l u7 u8 L T from rf_below HR2.out hb); have HB3 := Aside0.mk (below_step HB2.out hb); clear hb) | (go_at_call 23; (with_reducible refine (naskhref22_Left.calls 21 false _ HLF.out).mono ?_); rintro e w4 ⟨rfl, hb⟩; have HR4 := Aside0.mk (show RfC w4 w.heap.size g v a b c l u7 u8 L T from rf_below HR3.out hb.below); have HB4 := Aside0.mk (below_step HB3.out hb.below); clear hb) | ((with_reducible refine gate_builtin (b := .append) (xs := #[.tmp 46, .tmp 48]) rfl ?_); (try (refine gate_guard (by rfl) ?_; dsimp only)); at_builtin; refine Kd.R_append kI (w0 := w) w.heap.size rfl (.tmp 46) (.tmp 48) 22 3 (.int .i64 0) 8 rfl Try.underlying22 infoI rfl (by decide) (by omega) u7 L t0 [.int .i64 t0] (fun k => some k ≠ (u8).ownBlock) (fun _ => False) rfl rfl ?aP5 (fun _ hk => hk.elim) ?aF5 ?aO5 ?aB5 ?aS5 ?aL5 ?_; (case aP5 => exact rfl); (case aB5 => exact HB4.out); (case aF5 => exact (fun k hk e => by have := Kd.R_lt (HR4.out.2.2) k e.symm; omega)); (case aO5 => exact HR4.out.2.1); (case aS5 => exact (below_size HB4.out)); (case aL5 => have := HLM.out; omega); intro vl5 w5 ho hb hg hat; have HR5 := Aside0.mk (show RfC w5 w.heap.size g v a b c l vl5 u8 (L ++ [t0]) T from rf_app1 HR4.out hg ho hat); have HB5 := Aside0.mk hb; clear ho hb hg hat) | ((with_reducible refine gate_builtin (b := .append) (xs := #[.tmp 50, .tmp 52]) rfl ?_); (try (refine gate_guard (by rfl) ?_; dsimp only)); at_builtin; refine Kd.R_append kI (w0 := w) w.heap.size rfl (.tmp 50) (.tmp 52) 22 3 (.int .i64 0) 8 rfl Try.underlying22 infoI rfl (by decide) (by omega) u8 T y0 [.int .i64 y0] (fun k => some k ≠ (vl5).ownBlock) (fun _ => False) rfl rfl ?aP6 (fun _ hk => hk.elim) ?aF6 ?aO6 ?aB6 ?aS6 ?aL6 ?_; (case aP6 => exact rfl); (case aB6 => exact HB5.out); (case aF6 => exact (fun k hk e => by have := Kd.R_lt (HR5.out.2.1) k e.symm; omega)); (case aO6 => exact HR5.out.2.2); (case aS6 => exact (below_size HB5.out)); (case aL6 => have := HLM.out; omega); intro vt6 w6 ho hb hg hat; have HR6 := Aside0.mk (show RfC w6 w.heap.size g v a b c l vl5 vt6 (L ++ [t0]) (T ++ [y0]) from rf_app2 HR5.out hg ho hat); have HB6 := Aside0.mk hb; clear ho hb hg hat) | (go_at_call 34; (with_reducible refine (naskhref22_right.calls k _ c0 l0 _ r _ (Kd.C_below HC.out HB6.out) HCC.out HRT.out).mono ?_); rintro e w7 ⟨rfl, hb⟩; have HR7 := Aside0.mk (show RfC w7 w.heap.size g v a b c l vl5 vt6 (L ++ [t0]) (T ++ [y0]) from rf_below HR6.out hb); have HB7 := Aside0.mk (below_step HB6.out hb); clear hb) | (go_at_call 33; (with_reducible refine (x_isolate (rf_x HR7.out) HG0.out (rf_l HA0.out) (rf_r HA0.out) r).mono ?_); rintro e w8 ⟨v8, rfl, hS, hm⟩; have HR8 := Aside0.mk (show RfC w8 w.heap.size g v8 (isoA a b l r) b (isoC a b c l r) (isoL a b l r) vl5 vt6 (L ++ [t0]) (T ++ [y0]) from rf_stk HR7.out hS hm); have HB8 := Aside0.mk (HB7.out.trans (hm.below HR7.out.1)); clear hS hm))
    go_roundg (l0.length - (i + 1))
    case measure => have := HI.out; have := HLT.out; omega
    case rel => exact ⟨i + 1, ⟨(isoA a b l r), b, (isoC a b c l r), (isoL a b l r), (L ++ [t0]), (T ++ [y0])⟩, v8, by first | rfl | go_num | rw [hw], ⟨by have := HLT.out; omega, rfl⟩, HR8, HBD', HB8, HGO'⟩
   rw [if_neg h21] at hs'
   by_cases h22 : l0.getD i 0 = 22
   ·rw [if_pos h22] at hs'
    rw [h22] at hcell
    obtain rfl := Option.some.inj hs'
    clear hs'
    dsimp only at hgo' HBD'
    have HG1 := Aside0.mk (show Stk.Good (eiL a c l) from (Went.ei HG0.out).1)
    obtain ⟨y0, hy0⟩ : ∃ z, over (topE (eiL a c l)).ov 22 = z := ⟨_, rfl⟩
    have HGV := Aside0.mk (fun (W : World) (v1 : Value) (h : StkX W w.heap.size g v1 (eiA a) (eiB a b c) (eiC a c) (eiL a c l)) => r_given h HG1.out 22)
    have HTP := Aside0.mk (fun (W : World) (v1 : Value) (h : StkX W w.heap.size g v1 (eiA a) (eiB a b c) (eiC a c) (eiL a c l)) => x_top h HG1.out.1 (by have := HG1.out.len; omega))
    rw [hy0] at HGV
    obtain ⟨t0, ht0⟩ : ∃ z, (topE (eiL a c l)).lv = z := ⟨_, rfl⟩
    obtain ⟨t1, ht1⟩ : ∃ z, (topE (eiL a c l)).ov = z := ⟨_, rfl⟩
    obtain ⟨t2, ht2⟩ : ∃ z, (topE (eiL a c l)).iso = z := ⟨_, rfl⟩
    rw [ht0, ht1, ht2] at HTP
    rw [ht0] at hgo' HBD'
    rw [hy0] at hgo' HBD'
    have HGO' := Aside0.mk hgo'
    have hfl : ∀ W : World, (Instr.field 46 (.agg #[.int .i64 t0, .int .i64 t1, .bool t2]) 0).run Try.prog W = .ok (.int .i64 t0) W := fun W => by kernel_rfl
    have HLF := Aside0.mk (show naskhref22_Left.f 22 = some false from by decide)
    have HLT := Aside0.mk hlt
    clear hy0 ht0 ht1 ht2 hgo' hlt hi2
    clear h16 h14 h17 h15 h20 h19 h21 h22
    go_wp2_with (first | (go_at_call 28; (with_reducible refine (x_endiso (rf_x HR0.out) HG0.out).mono ?_); rintro e w1 ⟨v1, rfl, hS, hm⟩; have HR1 := Aside0.mk (show RfC w1 w.heap.size g v1 (eiA a) (eiB a b c) (eiC a c) (eiL a c l) u7 u8 L T from rf_stk HR0.out hS hm); have HB1 := Aside0.mk (HB0.out.trans (hm.below HR0.out.1)); clear hS hm) | (go_at_call 29; (with_reducible refine (HTP.out _ _ (rf_x HR1.out)).mono ?_); rintro e w2 ⟨rfl, hb⟩; have HR2 := Aside0.mk (show RfC w2 w.heap.size g v1 (eiA a) (eiB a b c) (eiC a c) (eiL a c l) u7 u8 L T from rf_below HR1.out hb); have HB2 := Aside0.mk (below_step HB1.out hb); clear hb) | (go_at_call 30; (with_reducible refine (HGV.out _ _ (rf_x HR2.out)).mono ?_); rintro e w3 ⟨rfl, hb⟩; have HR3 := Aside0.mk (show RfC w3 w.heap.size g v1 (eiA a) (eiB a b c) (eiC a c) (eiL a c l) u7 u8 L T from rf_below HR2.out hb); have HB3 := Aside0.mk (below_step HB2.out hb); clear hb) | (go_at_call 23; (with_reducible refine (naskhref22_Left.calls 22 false _ HLF.out).mono ?_); rintro e w4 ⟨rfl, hb⟩; have HR4 := Aside0.mk (show RfC w4 w.heap.size g v1 (eiA a) (eiB a b c) (eiC a c) (eiL a c l) u7 u8 L T from rf_below HR3.out hb.below); have HB4 := Aside0.mk (below_step HB3.out hb.below); clear hb) | ((with_reducible refine gate_builtin (b := .append) (xs := #[.tmp 46, .tmp 48]) rfl ?_); (try (refine gate_guard (by rfl) ?_; dsimp only)); at_builtin; refine Kd.R_append kI (w0 := w) w.heap.size rfl (.tmp 46) (.tmp 48) 22 3 (.int .i64 0) 8 rfl Try.underlying22 infoI rfl (by decide) (by omega) u7 L t0 [.int .i64 t0] (fun k => some k ≠ (u8).ownBlock) (fun _ => False) rfl rfl ?aP5 (fun _ hk => hk.elim) ?aF5 ?aO5 ?aB5 ?aS5 ?aL5 ?_; (case aP5 => exact rfl); (case aB5 => exact HB4.out); (case aF5 => exact (fun k hk e => by have := Kd.R_lt (HR4.out.2.2) k e.symm; omega)); (case aO5 => exact HR4.out.2.1); (case aS5 => exact (below_size HB4.out)); (case aL5 => have := HLM.out; omega); intro vl5 w5 ho hb hg hat; have HR5 := Aside0.mk (show RfC w5 w.heap.size g v1 (eiA a) (eiB a b c) (eiC a c) (eiL a c l) vl5 u8 (L ++ [t0]) T from rf_app1 HR4.out hg ho hat); have HB5 := Aside0.mk hb; clear ho hb hg hat) | ((with_reducible refine gate_builtin (b := .append) (xs := #[.tmp 50, .tmp 52]) rfl ?_); (try (refine gate_guard (by rfl) ?_; dsimp only)); at_builtin; refine Kd.R_append kI (w0 := w) w.heap.size rfl (.tmp 50) (.tmp 52) 22 3 (.int .i64 0) 8 rfl Try.underlying22 infoI rfl (by decide) (by omega) u8 T y0 [.int .i64 y0] (fun k => some k ≠ (vl5).ownBlock) (fun _ => False) rfl rfl ?aP6 (fun _ hk => hk.elim) ?aF6 ?aO6 ?aB6 ?aS6 ?aL6 ?_; (case aP6 => exact rfl); (case aB6 => exact HB5.out); (case aF6 => exact (fun k hk e => by have := Kd.R_lt (HR5.out.2.1) k e.symm; omega)); (case aO6 => exact HR5.out.2.2); (case aS6 => exact (below_size HB5.out)); (case aL6 => have := HLM.out; omega); intro vt6 w6 ho hb hg hat; have HR6 := Aside0.mk (show RfC w6 w.heap.size g v1 (eiA a) (eiB a b c) (eiC a c) (eiL a c l) vl5 vt6 (L ++ [t0]) (T ++ [y0]) from rf_app2 HR5.out hg ho hat); have HB6 := Aside0.mk hb; clear ho hb hg hat))
    go_roundg (l0.length - (i + 1))
    case measure => have := HI.out; have := HLT.out; omega
    case rel => exact ⟨i + 1, ⟨(eiA a), (eiB a b c), (eiC a c), (eiL a c l), (L ++ [t0]), (T ++ [y0])⟩, v1, by first | rfl | go_num | rw [hw], ⟨by have := HLT.out; omega, rfl⟩, HR6, HBD', HB6, HGO'⟩
   rw [if_neg h22] at hs'
   by_cases h18 : l0.getD i 0 = 18
   ·rw [if_pos h18] at hs'
    rw [h18] at hcell
    obtain rfl := Option.some.inj hs'
    clear hs'
    dsimp only at hgo' HBD'
    have HG1 := Aside0.mk (show Stk.Good l from HG0.out)
    obtain ⟨y0, hy0⟩ : ∃ z, over (topE l).ov 18 = z := ⟨_, rfl⟩
    have HGV := Aside0.mk (fun (W : World) (h : StkX W w.heap.size g v a b c l) => r_given h HG1.out 18)
    have HTP := Aside0.mk (fun (W : World) (v1 : Value) (h : StkX W w.heap.size g v1 a b c l) => x_top h HG1.out.1 (by have := HG1.out.len; omega))
    rw [hy0] at HGV
    obtain ⟨t0, ht0⟩ : ∃ z, (topE l).lv = z := ⟨_, rfl⟩
    obtain ⟨t1, ht1⟩ : ∃ z, (topE l).ov = z := ⟨_, rfl⟩
    obtain ⟨t2, ht2⟩ : ∃ z, (topE l).iso = z := ⟨_, rfl⟩
    rw [ht0, ht1, ht2] at HTP
    rw [ht0] at hgo' HBD'
    have HGO' := Aside0.mk hgo'
    have hfl : ∀ W : World, (Instr.field 46 (.agg #[.int .i64 t0, .int .i64 t1, .bool t2]) 0).run Try.prog W = .ok (.int .i64 t0) W := fun W => by kernel_rfl
    have HLF := Aside0.mk (show naskhref22_Left.f 18 = some true from by decide)
    have HLT := Aside0.mk hlt
    clear hy0 ht0 ht1 ht2 hgo' hlt hi2
    clear h16 h14 h17 h15 h20 h19 h21 h22 h18
    go_wp2_with (first | (go_at_call 29; (with_reducible refine (HTP.out _ _ (rf_x HR0.out)).mono ?_); rintro e w2 ⟨rfl, hb⟩; have HR2 := Aside0.mk (show RfC w2 w.heap.size g v a b c l u7 u8 L T from rf_below HR0.out hb); have HB2 := Aside0.mk (below_step HB0.out hb); clear hb) | (go_at_call 30; (with_reducible refine (HGV.out _ (rf_x HR2.out)).mono ?_); rintro e w3 ⟨rfl, hb⟩; have HR3 := Aside0.mk (show RfC w3 w.heap.size g v a b c l u7 u8 L T from rf_below HR2.out hb); have HB3 := Aside0.mk (below_step HB2.out hb); clear hb) | (go_at_call 23; (with_reducible refine (naskhref22_Left.calls 18 true _ HLF.out).mono ?_); rintro e w4 ⟨rfl, hb⟩; have HR4 := Aside0.mk (show RfC w4 w.heap.size g v a b c l u7 u8 L T from rf_below HR3.out hb.below); have HB4 := Aside0.mk (below_step HB3.out hb.below); clear hb) | ((with_reducible refine gate_builtin (b := .append) (xs := #[.tmp 46, .tmp 48]) rfl ?_); (try (refine gate_guard (by rfl) ?_; dsimp only)); at_builtin; refine Kd.R_append kI (w0 := w) w.heap.size rfl (.tmp 46) (.tmp 48) 22 3 (.int .i64 0) 8 rfl Try.underlying22 infoI rfl (by decide) (by omega) u7 L t0 [.int .i64 t0] (fun k => some k ≠ (u8).ownBlock) (fun _ => False) rfl rfl ?aP5 (fun _ hk => hk.elim) ?aF5 ?aO5 ?aB5 ?aS5 ?aL5 ?_; (case aP5 => exact rfl); (case aB5 => exact HB4.out); (case aF5 => exact (fun k hk e => by have := Kd.R_lt (HR4.out.2.2) k e.symm; omega)); (case aO5 => exact HR4.out.2.1); (case aS5 => exact (below_size HB4.out)); (case aL5 => have := HLM.out; omega); intro vl5 w5 ho hb hg hat; have HR5 := Aside0.mk (show RfC w5 w.heap.size g v a b c l vl5 u8 (L ++ [t0]) T from rf_app1 HR4.out hg ho hat); have HB5 := Aside0.mk hb; clear ho hb hg hat) | ((with_reducible refine gate_builtin (b := .append) (xs := #[.tmp 50, .tmp 52]) rfl ?_); (try (refine gate_guard (by rfl) ?_; dsimp only)); at_builtin; refine Kd.R_append kI (w0 := w) w.heap.size rfl (.tmp 50) (.tmp 52) 22 3 (.int .i64 0) 8 rfl Try.underlying22 infoI rfl (by decide) (by omega) u8 T 9 [.int .i64 9] (fun k => some k ≠ (vl5).ownBlock) (fun _ => False) rfl rfl ?aP6 (fun _ hk => hk.elim) ?aF6 ?aO6 ?aB6 ?aS6 ?aL6 ?_; (case aP6 => exact rfl); (case aB6 => exact HB5.out); (case aF6 => exact (fun k hk e => by have := Kd.R_lt (HR5.out.2.1) k e.symm; omega)); (case aO6 => exact HR5.out.2.2); (case aS6 => exact (below_size HB5.out)); (case aL6 => have := HLM.out; omega); intro vt6 w6 ho hb hg hat; have HR6 := Aside0.mk (show RfC w6 w.heap.size g v a b c l vl5 vt6 (L ++ [t0]) (T ++ [9]) from rf_app2 HR5.out hg ho hat); have HB6 := Aside0.mk hb; clear ho hb hg hat) | (go_at_call 32; (with_reducible refine (x_endembed (rf_x HR6.out) HG0.out).mono ?_); rintro e w8 ⟨v8, rfl, hS, hm⟩; have HR8 := Aside0.mk (show RfC w8 w.heap.size g v8 a (eeB a b) c (eeL a b l) vl5 vt6 (L ++ [t0]) (T ++ [9]) from rf_stk HR6.out hS hm); have HB8 := Aside0.mk (HB6.out.trans (hm.below HR6.out.1)); clear hS hm))
    go_roundg (l0.length - (i + 1))
    case measure => have := HI.out; have := HLT.out; omega
    case rel => exact ⟨i + 1, ⟨a, (eeB a b), c, (eeL a b l), (L ++ [t0]), (T ++ [9])⟩, v8, by first | rfl | go_num | rw [hw], ⟨by have := HLT.out; omega, rfl⟩, HR8, HBD', HB8, HGO'⟩
   rw [if_neg h18] at hs'
   by_cases h9 : l0.getD i 0 = 9
   ·rw [if_pos h9] at hs'
    rw [h9] at hcell
    obtain rfl := Option.some.inj hs'
    clear hs'
    dsimp only at hgo' HBD'
    have HG1 := Aside0.mk (show Stk.Good l from HG0.out)
    obtain ⟨y0, hy0⟩ : ∃ z, over (topE l).ov 9 = z := ⟨_, rfl⟩
    have HGV := Aside0.mk (fun (W : World) (h : StkX W w.heap.size g v a b c l) => r_given h HG1.out 9)
    have HTP := Aside0.mk (fun (W : World) (v1 : Value) (h : StkX W w.heap.size g v1 a b c l) => x_top h HG1.out.1 (by have := HG1.out.len; omega))
    rw [hy0] at HGV
    obtain ⟨t0, ht0⟩ : ∃ z, (topE l).lv = z := ⟨_, rfl⟩
    obtain ⟨t1, ht1⟩ : ∃ z, (topE l).ov = z := ⟨_, rfl⟩
    obtain ⟨t2, ht2⟩ : ∃ z, (topE l).iso = z := ⟨_, rfl⟩
    rw [ht0, ht1, ht2] at HTP
    rw [ht0] at hgo' HBD'
    have HGO' := Aside0.mk hgo'
    have hfl : ∀ W : World, (Instr.field 46 (.agg #[.int .i64 t0, .int .i64 t1, .bool t2]) 0).run Try.prog W = .ok (.int .i64 t0) W := fun W => by kernel_rfl
    have HLF := Aside0.mk (show naskhref22_Left.f 9 = some true from by decide)
    have HLT := Aside0.mk hlt
    clear hy0 ht0 ht1 ht2 hgo' hlt hi2
    clear h16 h14 h17 h15 h20 h19 h21 h22 h18 h9
    go_wp2_with (first | (go_at_call 29; (with_reducible refine (HTP.out _ _ (rf_x HR0.out)).mono ?_); rintro e w2 ⟨rfl, hb⟩; have HR2 := Aside0.mk (show RfC w2 w.heap.size g v a b c l u7 u8 L T from rf_below HR0.out hb); have HB2 := Aside0.mk (below_step HB0.out hb); clear hb) | (go_at_call 30; (with_reducible refine (HGV.out _ (rf_x HR2.out)).mono ?_); rintro e w3 ⟨rfl, hb⟩; have HR3 := Aside0.mk (show RfC w3 w.heap.size g v a b c l u7 u8 L T from rf_below HR2.out hb); have HB3 := Aside0.mk (below_step HB2.out hb); clear hb) | (go_at_call 23; (with_reducible refine (naskhref22_Left.calls 9 true _ HLF.out).mono ?_); rintro e w4 ⟨rfl, hb⟩; have HR4 := Aside0.mk (show RfC w4 w.heap.size g v a b c l u7 u8 L T from rf_below HR3.out hb.below); have HB4 := Aside0.mk (below_step HB3.out hb.below); clear hb) | ((with_reducible refine gate_builtin (b := .append) (xs := #[.tmp 46, .tmp 48]) rfl ?_); (try (refine gate_guard (by rfl) ?_; dsimp only)); at_builtin; refine Kd.R_append kI (w0 := w) w.heap.size rfl (.tmp 46) (.tmp 48) 22 3 (.int .i64 0) 8 rfl Try.underlying22 infoI rfl (by decide) (by omega) u7 L t0 [.int .i64 t0] (fun k => some k ≠ (u8).ownBlock) (fun _ => False) rfl rfl ?aP5 (fun _ hk => hk.elim) ?aF5 ?aO5 ?aB5 ?aS5 ?aL5 ?_; (case aP5 => exact rfl); (case aB5 => exact HB4.out); (case aF5 => exact (fun k hk e => by have := Kd.R_lt (HR4.out.2.2) k e.symm; omega)); (case aO5 => exact HR4.out.2.1); (case aS5 => exact (below_size HB4.out)); (case aL5 => have := HLM.out; omega); intro vl5 w5 ho hb hg hat; have HR5 := Aside0.mk (show RfC w5 w.heap.size g v a b c l vl5 u8 (L ++ [t0]) T from rf_app1 HR4.out hg ho hat); have HB5 := Aside0.mk hb; clear ho hb hg hat) | ((with_reducible refine gate_builtin (b := .append) (xs := #[.tmp 50, .tmp 52]) rfl ?_); (try (refine gate_guard (by rfl) ?_; dsimp only)); at_builtin; refine Kd.R_append kI (w0 := w) w.heap.size rfl (.tmp 50) (.tmp 52) 22 3 (.int .i64 0) 8 rfl Try.underlying22 infoI rfl (by decide) (by omega) u8 T 9 [.int .i64 9] (fun k => some k ≠ (vl5).ownBlock) (fun _ => False) rfl rfl ?aP6 (fun _ hk => hk.elim) ?aF6 ?aO6 ?aB6 ?aS6 ?aL6 ?_; (case aP6 => exact rfl); (case aB6 => exact HB5.out); (case aF6 => exact (fun k hk e => by have := Kd.R_lt (HR5.out.2.1) k e.symm; omega)); (case aO6 => exact HR5.out.2.2); (case aS6 => exact (below_size HB5.out)); (case aL6 => have := HLM.out; omega); intro vt6 w6 ho hb hg hat; have HR6 := Aside0.mk (show RfC w6 w.heap.size g v a b c l vl5 vt6 (L ++ [t0]) (T ++ [9]) from rf_app2 HR5.out hg ho hat); have HB6 := Aside0.mk hb; clear ho hb hg hat))
    go_roundg (l0.length - (i + 1))
    case measure => have := HI.out; have := HLT.out; omega
    case rel => exact ⟨i + 1, ⟨a, b, c, l, (L ++ [t0]), (T ++ [9])⟩, v, by first | rfl | go_num | rw [hw], ⟨by have := HLT.out; omega, rfl⟩, HR6, HBD', HB6, HGO'⟩
   rw [if_neg h9] at hs'
   by_cases h10 : l0.getD i 0 = 10
   ·rw [if_pos h10] at hs'
    rw [h10] at hcell
    obtain rfl := Option.some.inj hs'
    clear hs'
    dsimp only at hgo' HBD'
    have HG1 := Aside0.mk (show Stk.Good l from HG0.out)
    obtain ⟨y0, hy0⟩ : ∃ z, over (topE l).ov 10 = z := ⟨_, rfl⟩
    have HGV := Aside0.mk (fun (W : World) (h : StkX W w.heap.size g v a b c l) => r_given h HG1.out 10)
    have HTP := Aside0.mk (fun (W : World) (v1 : Value) (h : StkX W w.heap.size g v1 a b c l) => x_top h HG1.out.1 (by have := HG1.out.len; omega))
    rw [hy0] at HGV
    obtain ⟨t0, ht0⟩ : ∃ z, (topE l).lv = z := ⟨_, rfl⟩
    obtain ⟨t1, ht1⟩ : ∃ z, (topE l).ov = z := ⟨_, rfl⟩
    obtain ⟨t2, ht2⟩ : ∃ z, (topE l).iso = z := ⟨_, rfl⟩
    rw [ht0, ht1, ht2] at HTP
    have HGO' := Aside0.mk hgo'
    have hfl : ∀ W : World, (Instr.field 46 (.agg #[.int .i64 t0, .int .i64 t1, .bool t2]) 0).run Try.prog W = .ok (.int .i64 t0) W := fun W => by kernel_rfl
    have HLT := Aside0.mk hlt
    clear hy0 ht0 ht1 ht2 hgo' hlt hi2
    clear h16 h14 h17 h15 h20 h19 h21 h22 h18 h9 h10
    go_wp2_with (first | (go_at_call 29; (with_reducible refine (HTP.out _ _ (rf_x HR0.out)).mono ?_); rintro e w2 ⟨rfl, hb⟩; have HR2 := Aside0.mk (show RfC w2 w.heap.size g v a b c l u7 u8 L T from rf_below HR0.out hb); have HB2 := Aside0.mk (below_step HB0.out hb); clear hb) | (go_at_call 30; (with_reducible refine (HGV.out _ (rf_x HR2.out)).mono ?_); rintro e w3 ⟨rfl, hb⟩; have HR3 := Aside0.mk (show RfC w3 w.heap.size g v a b c l u7 u8 L T from rf_below HR2.out hb); have HB3 := Aside0.mk (below_step HB2.out hb); clear hb) | ((with_reducible refine gate_builtin (b := .append) (xs := #[.tmp 46, .tmp 48]) rfl ?_); (try (refine gate_guard (by rfl) ?_; dsimp only)); at_builtin; refine Kd.R_append kI (w0 := w) w.heap.size rfl (.tmp 46) (.tmp 48) 22 3 (.int .i64 0) 8 rfl Try.underlying22 infoI rfl (by decide) (by omega) u7 L bs [.int .i64 bs] (fun k => some k ≠ (u8).ownBlock) (fun _ => False) rfl rfl ?aP5 (fun _ hk => hk.elim) ?aF5 ?aO5 ?aB5 ?aS5 ?aL5 ?_; (case aP5 => exact rfl); (case aB5 => exact HB3.out); (case aF5 => exact (fun k hk e => by have := Kd.R_lt (HR3.out.2.2) k e.symm; omega)); (case aO5 => exact HR3.out.2.1); (case aS5 => exact (below_size HB3.out)); (case aL5 => have := HLM.out; omega); intro vl5 w5 ho hb hg hat; have HR5 := Aside0.mk (show RfC w5 w.heap.size g v a b c l vl5 u8 (L ++ [bs]) T from rf_app1 HR3.out hg ho hat); have HB5 := Aside0.mk hb; clear ho hb hg hat) | ((with_reducible refine gate_builtin (b := .append) (xs := #[.tmp 50, .tmp 52]) rfl ?_); (try (refine gate_guard (by rfl) ?_; dsimp only)); at_builtin; refine Kd.R_append kI (w0 := w) w.heap.size rfl (.tmp 50) (.tmp 52) 22 3 (.int .i64 0) 8 rfl Try.underlying22 infoI rfl (by decide) (by omega) u8 T 10 [.int .i64 10] (fun k => some k ≠ (vl5).ownBlock) (fun _ => False) rfl rfl ?aP6 (fun _ hk => hk.elim) ?aF6 ?aO6 ?aB6 ?aS6 ?aL6 ?_; (case aP6 => exact rfl); (case aB6 => exact HB5.out); (case aF6 => exact (fun k hk e => by have := Kd.R_lt (HR5.out.2.1) k e.symm; omega)); (case aO6 => exact HR5.out.2.2); (case aS6 => exact (below_size HB5.out)); (case aL6 => have := HLM.out; omega); intro vt6 w6 ho hb hg hat; have HR6 := Aside0.mk (show RfC w6 w.heap.size g v a b c l vl5 vt6 (L ++ [bs]) (T ++ [10]) from rf_app2 HR5.out hg ho hat); have HB6 := Aside0.mk hb; clear ho hb hg hat))
    go_roundg (l0.length - (i + 1))
    case measure => have := HI.out; have := HLT.out; omega
    case rel => exact ⟨i + 1, ⟨a, b, c, l, (L ++ [bs]), (T ++ [10])⟩, v, by first | rfl | go_num | rw [hw], ⟨by have := HLT.out; omega, rfl⟩, HR6, HBD', HB6, HGO'⟩
   rw [if_neg h10] at hs'
   generalize l0.getD i 0 = y at hs' hcell h16 h14 h17 h15 h20 h19 h21 h22 h18 h9 h10
   obtain rfl := Option.some.inj hs'
   clear hs'
   dsimp only at hgo' HBD'
   have HG1 := Aside0.mk (show Stk.Good l from HG0.out)
   obtain ⟨y0, hy0⟩ : ∃ z, over (topE l).ov y = z := ⟨_, rfl⟩
   have HGV := Aside0.mk (fun (W : World) (h : StkX W w.heap.size g v a b c l) => r_given h HG1.out y)
   have HTP := Aside0.mk (fun (W : World) (v1 : Value) (h : StkX W w.heap.size g v1 a b c l) => x_top h HG1.out.1 (by have := HG1.out.len; omega))
   rw [hy0] at HGV
   obtain ⟨t0, ht0⟩ : ∃ z, (topE l).lv = z := ⟨_, rfl⟩
   obtain ⟨t1, ht1⟩ : ∃ z, (topE l).ov = z := ⟨_, rfl⟩
   obtain ⟨t2, ht2⟩ : ∃ z, (topE l).iso = z := ⟨_, rfl⟩
   rw [ht0, ht1, ht2] at HTP
   rw [ht0] at hgo' HBD'
   rw [hy0] at hgo' HBD'
   have HGO' := Aside0.mk hgo'
   have hfl : ∀ W : World, (Instr.field 46 (.agg #[.int .i64 t0, .int .i64 t1, .bool t2]) 0).run Try.prog W = .ok (.int .i64 t0) W := fun W => by kernel_rfl
   have HLF := Aside0.mk (show naskhref22_Left.f y = some false from (by unfold naskhref22_Left.f; (repeat' split) <;> first | omega | (congr 1; exact beq_eq_false_iff_ne.mpr h9)))
   have HLT := Aside0.mk hlt
   clear hy0 ht0 ht1 ht2 hgo' hlt hi2
   have e16 : (y == 16) = false := beq_eq_false_iff_ne.mpr h16
   have e14 : (y == 14) = false := beq_eq_false_iff_ne.mpr h14
   have e17 : (y == 17) = false := beq_eq_false_iff_ne.mpr h17
   have e15 : (y == 15) = false := beq_eq_false_iff_ne.mpr h15
   have e20 : (y == 20) = false := beq_eq_false_iff_ne.mpr h20
   have e19 : (y == 19) = false := beq_eq_false_iff_ne.mpr h19
   have e21 : (y == 21) = false := beq_eq_false_iff_ne.mpr h21
   have e22 : (y == 22) = false := beq_eq_false_iff_ne.mpr h22
   have e18 : (y == 18) = false := beq_eq_false_iff_ne.mpr h18
   have e9 : (y == 9) = false := beq_eq_false_iff_ne.mpr h9
   have e10 : (y == 10) = false := beq_eq_false_iff_ne.mpr h10
   clear h16 h14 h17 h15 h20 h19 h21 h22 h18 h9 h10
   go_wp2_with (first | (go_at_call 29; (with_reducible refine (HTP.out _ _ (rf_x HR0.out)).mono ?_); rintro e w2 ⟨rfl, hb⟩; have HR2 := Aside0.mk (show RfC w2 w.heap.size g v a b c l u7 u8 L T from rf_below HR0.out hb); have HB2 := Aside0.mk (below_step HB0.out hb); clear hb) | (go_at_call 30; (with_reducible refine (HGV.out _ (rf_x HR2.out)).mono ?_); rintro e w3 ⟨rfl, hb⟩; have HR3 := Aside0.mk (show RfC w3 w.heap.size g v a b c l u7 u8 L T from rf_below HR2.out hb); have HB3 := Aside0.mk (below_step HB2.out hb); clear hb) | (go_at_call 23; (with_reducible refine (naskhref22_Left.calls y false _ HLF.out).mono ?_); rintro e w4 ⟨rfl, hb⟩; have HR4 := Aside0.mk (show RfC w4 w.heap.size g v a b c l u7 u8 L T from rf_below HR3.out hb.below); have HB4 := Aside0.mk (below_step HB3.out hb.below); clear hb) | ((with_reducible refine gate_builtin (b := .append) (xs := #[.tmp 46, .tmp 48]) rfl ?_); (try (refine gate_guard (by rfl) ?_; dsimp only)); at_builtin; refine Kd.R_append kI (w0 := w) w.heap.size rfl (.tmp 46) (.tmp 48) 22 3 (.int .i64 0) 8 rfl Try.underlying22 infoI rfl (by decide) (by omega) u7 L t0 [.int .i64 t0] (fun k => some k ≠ (u8).ownBlock) (fun _ => False) rfl rfl ?aP5 (fun _ hk => hk.elim) ?aF5 ?aO5 ?aB5 ?aS5 ?aL5 ?_; (case aP5 => exact rfl); (case aB5 => exact HB4.out); (case aF5 => exact (fun k hk e => by have := Kd.R_lt (HR4.out.2.2) k e.symm; omega)); (case aO5 => exact HR4.out.2.1); (case aS5 => exact (below_size HB4.out)); (case aL5 => have := HLM.out; omega); intro vl5 w5 ho hb hg hat; have HR5 := Aside0.mk (show RfC w5 w.heap.size g v a b c l vl5 u8 (L ++ [t0]) T from rf_app1 HR4.out hg ho hat); have HB5 := Aside0.mk hb; clear ho hb hg hat) | ((with_reducible refine gate_builtin (b := .append) (xs := #[.tmp 50, .tmp 52]) rfl ?_); (try (refine gate_guard (by rfl) ?_; dsimp only)); at_builtin; refine Kd.R_append kI (w0 := w) w.heap.size rfl (.tmp 50) (.tmp 52) 22 3 (.int .i64 0) 8 rfl Try.underlying22 infoI rfl (by decide) (by omega) u8 T y0 [.int .i64 y0] (fun k => some k ≠ (vl5).ownBlock) (fun _ => False) rfl rfl ?aP6 (fun _ hk => hk.elim) ?aF6 ?aO6 ?aB6 ?aS6 ?aL6 ?_; (case aP6 => exact rfl); (case aB6 => exact HB5.out); (case aF6 => exact (fun k hk e => by have := Kd.R_lt (HR5.out.2.1) k e.symm; omega)); (case aO6 => exact HR5.out.2.2); (case aS6 => exact (below_size HB5.out)); (case aL6 => have := HLM.out; omega); intro vt6 w6 ho hb hg hat; have HR6 := Aside0.mk (show RfC w6 w.heap.size g v a b c l vl5 vt6 (L ++ [t0]) (T ++ [y0]) from rf_app2 HR5.out hg ho hat); have HB6 := Aside0.mk hb; clear ho hb hg hat))
   go_roundg (l0.length - (i + 1))
   case measure => have := HI.out; have := HLT.out; omega
   case rel => exact ⟨i + 1, ⟨a, b, c, l, (L ++ [t0]), (T ++ [y0])⟩, v, by first | rfl | go_num | rw [hw], ⟨by have := HLT.out; omega, rfl⟩, HR6, HBD', HB6, HGO'⟩
  ·have b0 : decide ((i : Int) < (l0.length : Int)) = false := decide_eq_false (by omega)
   have b1 : decide (i < l0.length) = false := decide_eq_false hlt
   have HE := Aside0.mk (show s = sF from by have z := HGO.out; rw [show l0.length - i = 0 by omega, naskhref22_Levels.go] at z; exact Option.some.inj z)
   clear hlt
   go_wp2
   go_ret2
   exact ⟨_, _, by first | rfl | simp, by rw [← HE.out]; exact HR0.out.2.1, by rw [← HE.out]; exact HR0.out.2.2, HB0.out⟩
end
def naskhlaw23_same.l0 : Nat → List (S42) → List (S51) → Int → Int → Option (Bool)
  | 0, _, _, _, _ => none
  | k + 1, x0, x1, x12, x13 => if x13 < x12 then (if 0 ≤ x13 then (if x13 < (x0.length : Int) then (if x13 < (x1.length : Int) then ((slices_Equal_int_int.f k ((rd_T42 x0 x13).f0) ((rd_T51 x1 x13).f0)).bind fun t232 => (if t232 = true then (if ((rd_T42 x0 x13).f1) = ((rd_T51 x1 x13).f1) then (if ((rd_T42 x0 x13).f2) = ((rd_T51 x1 x13).f2) then (if ((rd_T42 x0 x13).f3) = ((rd_T51 x1 x13).f3) then (naskhlaw23_same.l0 k x0 x1 x12 (wrap64 (x13 + 1))) else (some false)) else (some false)) else (some false)) else (some false))) else (none)) else (none)) else (none)) else (some true)
def naskhlaw23_same.f (k : Nat) (l0 : List (S42)) (l1 : List (S51)) : Option (Bool) := if (l0.length : Int) = (l1.length : Int) then (naskhlaw23_same.l0 k l0 l1 (l0.length : Int) 0) else (some false)
theorem naskhlaw23_same.mono_l : ∀ k, (∀ y0 y1 y2 y3, LeO (naskhlaw23_same.l0 k y0 y1 y2 y3) (naskhlaw23_same.l0 (k + 1) y0 y1 y2 y3))
  | 0 => fun _ _ _ _ r h => by simp [naskhlaw23_same.l0] at h
  | k + 1 => by
    have ih0 := naskhlaw23_same.mono_l k
    · intro y0 y1 y2 y3
      unfold naskhlaw23_same.l0
      repeat' first
      | (with_reducible exact ih0 _ _ _ _)
      | (with_reducible exact slices_Equal_int_int.mono _ _ _)
      | (with_reducible exact LeO.refl _)
      | (with_reducible exact LeO.none _)
      | (with_reducible refine LeO.ite ?_ ?_)
      | (with_reducible refine LeO.bind ?_ (fun _ => ?_))
      | exact ih0 _ _ _ _
      | exact slices_Equal_int_int.mono _ _ _
      | exact LeO.none _
      | refine LeO.ite ?_ ?_
      | refine LeO.bind ?_ (fun _ => ?_)
theorem naskhlaw23_same.mono : ∀ a0 a1 k, LeO (naskhlaw23_same.f k a0 a1) (naskhlaw23_same.f (k + 1) a0 a1) := by
  intro a0 a1 k
  have ih0 := naskhlaw23_same.mono_l k
  unfold naskhlaw23_same.f
  repeat' first
      | (with_reducible exact ih0 _ _ _ _)
      | (with_reducible exact slices_Equal_int_int.mono _ _ _)
      | (with_reducible exact LeO.refl _)
      | (with_reducible exact LeO.none _)
      | (with_reducible refine LeO.ite ?_ ?_)
      | (with_reducible refine LeO.bind ?_ (fun _ => ?_))
      | exact ih0 _ _ _ _
      | exact slices_Equal_int_int.mono _ _ _
      | exact LeO.none _
      | refine LeO.ite ?_ ?_
      | refine LeO.bind ?_ (fun _ => ?_)
set_option maxHeartbeats 8000000 in
set_option maxRecDepth 100000 in
theorem naskhlaw23_same.calls (k : Nat) (A0 : Option Addr) (c0 : Nat) (l0 : List (S42)) (A1 : Option Addr) (c1 : Nat) (l1 : List (S51)) (r : Bool) (w : World) (hr0 : Kd.C k42 w A0 l0.length l0) (hc0 : l0.length ≤ c0) (hr1 : Kd.C k51 w A1 l1.length l1) (hc1 : l1.length ≤ c1) (h : naskhlaw23_same.f k l0 l1 = some r) :
    Calls Try.prog 12 #[.slice A0 l0.length c0, .slice A1 l1.length c1] w fun e w' => e = .returned (.bool r) ∧ Below w.heap.size w w' := by
  have HR0 := Aside0.mk hr0
  have HR1 := Aside0.mk hr1
  clear hr0 hr1 hc0 hc1
  unfold naskhlaw23_same.f at h
  by_cases c3 : (l0.length : Int) = (l1.length : Int)
  · rw [if_pos c3] at h
    have g1 : ((l0.length : Int) != (l1.length : Int)) = false := bne_eq_false_iff_eq.mpr c3
    have g2 : (l0.length != l1.length) = false := bne_eq_false_iff_eq.mpr (by exact_mod_cast c3)
    have H' := Aside0.mk h
    clear h c3
    go_enter Try.func12, Try.ntmps12
    go_wp2
    clear g1 g2
    go_loopg [13] k (fun kq v13 w' => ∃ (x : Int), v13 = .int .i64 x ∧ Aside0 (naskhlaw23_same.l0 kq l0 l1 (l0.length : Int) x = some r) ∧ Aside0 (kq ≤ k) ∧ Aside0 (Below w.heap.size w w'))
    case atStart => exact ⟨0, rfl, H', ⟨Nat.le_refl _⟩, ⟨by repeat (first | exact Below.refl _ _ | apply below_alloc | apply pw_below_drewN | apply below_drew1)⟩⟩
    case round =>
      clear H'
      obtain ⟨x, rfl, HA, HK, HB⟩ := hrel
      cases gk with
      | zero => exact absurd HA.out (by simp [naskhlaw23_same.l0])
      | succ k1 =>
        have H := HA.out
        clear HA
        simp only [naskhlaw23_same.l0] at H
        by_cases c2 : x < (l0.length : Int)
        · rw [if_pos c2] at H
          by_cases c4 : 0 ≤ x
          · rw [if_pos c4] at H
            try rw [if_pos c2] at H
            by_cases c5 : x < (l1.length : Int)
            · rw [if_pos c5] at H
              obtain ⟨t, ht, H⟩ := Option.bind_eq_some_iff.mp H
              obtain ⟨ad, Aa, ca, e, x0, x1, x2, x3, la, ra⟩ := at_T42 HR0.out x c4 c2
              cases e
              obtain ⟨bd, Ab, cb, e, y0, y1, y2, y3, lb, rb⟩ := at_T51 HR1.out x c4 c5
              cases e
              have EQ := Aside0.mk (fun (W : World) (hb : Below w.heap.size w W) => slices_Equal_int_int.calls k1 Aa ca _ Ab cb _ t W (Kd.C_below ra hb) la (Kd.C_below rb hb) lb ht)
              replace x0 := (HB.out.cell (World.block_lt_of_cell? w _ x0)).trans x0
              replace x1 := (HB.out.cell (World.block_lt_of_cell? w _ x1)).trans x1
              replace x2 := (HB.out.cell (World.block_lt_of_cell? w _ x2)).trans x2
              replace x3 := (HB.out.cell (World.block_lt_of_cell? w _ x3)).trans x3
              replace y0 := (HB.out.cell (World.block_lt_of_cell? w _ y0)).trans y0
              replace y1 := (HB.out.cell (World.block_lt_of_cell? w _ y1)).trans y1
              replace y2 := (HB.out.cell (World.block_lt_of_cell? w _ y2)).trans y2
              replace y3 := (HB.out.cell (World.block_lt_of_cell? w _ y3)).trans y3
              clear la ra lb rb ht
              generalize rd_T42 l0 x = s at x0 x1 x2 x3 EQ H
              generalize rd_T51 l1 x = u at y0 y1 y2 y3 EQ H
              have b0 : decide (x < (l0.length : Int)) = true := decide_eq_true c2
              have q0 := eq_true c4
              have q1 := eq_true c2
              have q2 := eq_true c5
              clear c2 c4 c5
              cases t with
              | false =>
                rw [if_neg (by decide)] at H
                obtain rfl := Option.some.inj H
                clear H
                go_wp2
                go_quiet (first | (go_at_call 19; (with_reducible refine (EQ.out _ (pw_below_drewN HB.out _)).mono ?_); rintro e w' ⟨rfl, ⟨nd, rfl⟩⟩; exact ⟨rfl, _, World.drewN_drewN _ _ _⟩))
                go_wp2
                go_ret
                exact ⟨by first | rfl | simp [*], by repeat (first | exact HB.out | apply below_alloc | apply pw_below_drewN | apply below_drew1)⟩
              | true =>
                rw [if_pos rfl] at H
                by_cases d1 : s.f1 = u.f1
                · rw [if_pos d1] at H
                  have m1 : (s.f1 == u.f1) = true := beq_iff_eq.mpr d1
                  have n1 : (s.f1 != u.f1) = false := bne_eq_false_iff_eq.mpr d1
                  clear d1
                  by_cases d2 : s.f2 = u.f2
                  · rw [if_pos d2] at H
                    have m2 : (s.f2 == u.f2) = true := beq_iff_eq.mpr d2
                    have n2 : (s.f2 != u.f2) = false := bne_eq_false_iff_eq.mpr d2
                    clear d2
                    by_cases d3 : s.f3 = u.f3
                    · rw [if_pos d3] at H
                      have m3 : (s.f3 == u.f3) = true := beq_iff_eq.mpr d3
                      have n3 : (s.f3 != u.f3) = false := bne_eq_false_iff_eq.mpr d3
                      clear d3
                      have HN := Aside0.mk H
                      clear H
                      go_wp2
                      go_quiet (first | (go_at_call 19; (with_reducible refine (EQ.out _ (pw_below_drewN HB.out _)).mono ?_); rintro e w' ⟨rfl, ⟨nd, rfl⟩⟩; exact ⟨rfl, _, World.drewN_drewN _ _ _⟩))
                      go_wp2
                      go_roundg k1
                      case measure => have := HK.out; omega
                      case rel => exact ⟨wrap64 (x + 1), by first | rfl | (simp; done), HN, ⟨by have := HK.out; omega⟩, ⟨by repeat (first | exact HB.out | apply below_alloc | apply pw_below_drewN | apply below_drew1)⟩⟩
                    · rw [if_neg d3] at H
                      have m3 : (s.f3 == u.f3) = false := beq_eq_false_iff_ne.mpr d3
                      have n3 : (s.f3 != u.f3) = true := bne_iff_ne.mpr d3
                      obtain rfl := Option.some.inj H
                      clear d3 H
                      go_wp2
                      go_quiet (first | (go_at_call 19; (with_reducible refine (EQ.out _ (pw_below_drewN HB.out _)).mono ?_); rintro e w' ⟨rfl, ⟨nd, rfl⟩⟩; exact ⟨rfl, _, World.drewN_drewN _ _ _⟩))
                      go_wp2
                      go_ret
                      exact ⟨by first | rfl | simp [*], by repeat (first | exact HB.out | apply below_alloc | apply pw_below_drewN | apply below_drew1)⟩
                  · rw [if_neg d2] at H
                    have m2 : (s.f2 == u.f2) = false := beq_eq_false_iff_ne.mpr d2
                    have n2 : (s.f2 != u.f2) = true := bne_iff_ne.mpr d2
                    obtain rfl := Option.some.inj H
                    clear d2 H
                    go_wp2
                    go_quiet (first | (go_at_call 19; (with_reducible refine (EQ.out _ (pw_below_drewN HB.out _)).mono ?_); rintro e w' ⟨rfl, ⟨nd, rfl⟩⟩; exact ⟨rfl, _, World.drewN_drewN _ _ _⟩))
                    go_wp2
                    go_ret
                    exact ⟨by first | rfl | simp [*], by repeat (first | exact HB.out | apply below_alloc | apply pw_below_drewN | apply below_drew1)⟩
                · rw [if_neg d1] at H
                  have m1 : (s.f1 == u.f1) = false := beq_eq_false_iff_ne.mpr d1
                  have n1 : (s.f1 != u.f1) = true := bne_iff_ne.mpr d1
                  obtain rfl := Option.some.inj H
                  clear d1 H
                  go_wp2
                  go_quiet (first | (go_at_call 19; (with_reducible refine (EQ.out _ (pw_below_drewN HB.out _)).mono ?_); rintro e w' ⟨rfl, ⟨nd, rfl⟩⟩; exact ⟨rfl, _, World.drewN_drewN _ _ _⟩))
                  go_wp2
                  go_ret
                  exact ⟨by first | rfl | simp [*], by repeat (first | exact HB.out | apply below_alloc | apply pw_below_drewN | apply below_drew1)⟩
            · rw [if_neg c5] at H; cases H
          · rw [if_neg c4] at H; cases H
        · rw [if_neg c2] at H
          obtain rfl := Option.some.inj H
          have b0 : decide (x < (l0.length : Int)) = false := decide_eq_false c2
          clear c2 H
          go_wp2
          go_ret
          exact ⟨by first | rfl | simp [*], by repeat (first | exact HB.out | apply below_alloc | apply pw_below_drewN | apply below_drew1)⟩
  · rw [if_neg c3] at h
    obtain rfl := Option.some.inj h
    have g1 : ((l0.length : Int) != (l1.length : Int)) = true := bne_iff_ne.mpr c3
    have g2 : (l0.length != l1.length) = true := bne_iff_ne.mpr (by exact_mod_cast c3)
    clear c3 h
    go_enter Try.func12, Try.ntmps12
    go_wp2
    go_ret
    exact ⟨by first | rfl | simp [*], by repeat (first | exact Below.refl _ _ | apply below_alloc | apply pw_below_drewN | apply below_drew1)⟩
end Go.Proofs.Ytbkdaafphcfpdaa.PSeqOf
