-- PRINTED by print.py (a twelfth state) out of the translation. Not trusted: Lean checks it.
import Derived.Test.YtbkdaafphcfpdaaPExplicitLevelsx0
import Derived.Test.YtbkdaafphcfpdaaPExplicitLevelsx1
import Derived.Test.YtbkdaafphcfpdaaPExplicitLevelsx2
namespace Go.Proofs.Ytbkdaafphcfpdaa.PExplicitLevels
open Go.RowKit Go.Proofs.YtbkdaafphcfpdaaM Go.Proofs.YtbkdaafphcfpdaaW.PrintWords Go.Proofs.YtbkdaafphcfpdaaW.PrintLast Go.Proofs.YtbkdaafphcfpdaaW.PrintMore
attribute [local go_sem] max2_int min2_int max_two min_two max_three min_three max_four min_four   -- for this text's walks alone
set_option linter.unusedVariables false
set_option linter.unusedSimpArgs false

/-! ### naskhref22_Levels: function 11 -/
section
open Go.Proofs.Ytbkdaafphcfpdaa.Stk
def naskhref22_Levels.step (k : Nat) (q : List Int) (bs : Int) (i : Nat) (s : RSt) : Option RSt :=
  if q.getD i 0 = 16 then some ⟨s.a, embB s.a s.b s.l true, s.c, embL s.a s.b s.l true 13, s.L ++ [(topE s.l).lv], s.T ++ [9]⟩
  else if q.getD i 0 = 14 then some ⟨s.a, embB s.a s.b s.l false, s.c, embL s.a s.b s.l false 13, s.L ++ [(topE s.l).lv], s.T ++ [9]⟩
  else if q.getD i 0 = 17 then some ⟨s.a, embB s.a s.b s.l true, s.c, embL s.a s.b s.l true 1, s.L ++ [(topE s.l).lv], s.T ++ [9]⟩
  else if q.getD i 0 = 15 then some ⟨s.a, embB s.a s.b s.l false, s.c, embL s.a s.b s.l false 0, s.L ++ [(topE s.l).lv], s.T ++ [9]⟩
  else if q.getD i 0 = 20 then some ⟨isoA s.a s.b s.l true, s.b, isoC s.a s.b s.c s.l true, isoL s.a s.b s.l true, s.L ++ [(topE s.l).lv], s.T ++ [over (topE s.l).ov 20]⟩
  else if q.getD i 0 = 19 then some ⟨isoA s.a s.b s.l false, s.b, isoC s.a s.b s.c s.l false, isoL s.a s.b s.l false, s.L ++ [(topE s.l).lv], s.T ++ [over (topE s.l).ov 19]⟩
  else if q.getD i 0 = 21 then (naskhref22_right.f k q (i : Int)).bind fun r => some ⟨isoA s.a s.b s.l r, s.b, isoC s.a s.b s.c s.l r, isoL s.a s.b s.l r, s.L ++ [(topE s.l).lv], s.T ++ [over (topE s.l).ov 21]⟩
  else if q.getD i 0 = 22 then some ⟨eiA s.a, eiB s.a s.b s.c, eiC s.a s.c, eiL s.a s.c s.l, s.L ++ [(topE (eiL s.a s.c s.l)).lv], s.T ++ [over (topE (eiL s.a s.c s.l)).ov 22]⟩
  else if q.getD i 0 = 18 then some ⟨s.a, eeB s.a s.b, s.c, eeL s.a s.b s.l, s.L ++ [(topE s.l).lv], s.T ++ [9]⟩
  else if q.getD i 0 = 9 then some ⟨s.a, s.b, s.c, s.l, s.L ++ [(topE s.l).lv], s.T ++ [9]⟩
  else if q.getD i 0 = 10 then some ⟨s.a, s.b, s.c, s.l, s.L ++ [bs], s.T ++ [10]⟩
  else some ⟨s.a, s.b, s.c, s.l, s.L ++ [(topE s.l).lv], s.T ++ [over (topE s.l).ov (q.getD i 0)]⟩
def naskhref22_Levels.go (k : Nat) (q : List Int) (bs : Int) : Nat → RSt → Option RSt
  | 0, s => some s
  | n + 1, s => (naskhref22_Levels.step k q bs (q.length - (n + 1)) s).bind (naskhref22_Levels.go k q bs n)
def naskhref22_Levels.s0 (bs : Int) : RSt := ⟨0, 0, 0, [newE bs], [], []⟩
def naskhref22_Levels.f (k : Nat) (l0 : List Int) (a1 : Int) : Option (List Int × List Int) := if l0.length ≤ 17592186043000 then ((naskhref22_Levels.go k l0 (mn (mx a1 0) 1) l0.length (naskhref22_Levels.s0 (mn (mx a1 0) 1))).bind fun s => some (s.L, s.T)) else none
theorem naskhref22_Levels.step_mono (k : Nat) (q : List Int) (bs : Int) (i : Nat) (s : RSt) : LeO (naskhref22_Levels.step k q bs i s) (naskhref22_Levels.step (k + 1) q bs i s) := by
  unfold naskhref22_Levels.step
  repeat' first
    | (with_reducible exact LeO.refl _)
    | (with_reducible exact naskhref22_right.mono _ _ _)
    | (with_reducible refine LeO.ite ?_ ?_)
    | (with_reducible refine LeO.bind ?_ (fun _ => ?_))
theorem naskhref22_Levels.go_mono (k : Nat) (q : List Int) (bs : Int) : ∀ (n : Nat) (s : RSt), LeO (naskhref22_Levels.go k q bs n s) (naskhref22_Levels.go (k + 1) q bs n s)
  | 0, _ => LeO.refl _
  | n + 1, s => by unfold naskhref22_Levels.go; exact LeO.bind (naskhref22_Levels.step_mono k q bs _ s) (fun _ => naskhref22_Levels.go_mono k q bs n _)
theorem naskhref22_Levels.mono : ∀ a0 a1 k, LeO (naskhref22_Levels.f k a0 a1) (naskhref22_Levels.f (k + 1) a0 a1) := by
  intro a0 a1 k
  unfold naskhref22_Levels.f
  exact LeO.ite (LeO.bind (naskhref22_Levels.go_mono _ _ _ _ _) (fun _ => LeO.refl _)) (LeO.refl _)
theorem naskhref22_Levels.rdD (q : List Int) (i : Nat) : rd q (i : Int) = q.getD i 0 := by unfold rd; rw [Int.toNat_natCast]
theorem naskhref22_Levels.right_lit (k : Nat) (q : List Int) (i : Nat) (hi : i < q.length) (h : ¬ q.getD i 0 = 21) : naskhref22_right.f k q (i : Int) = some (q.getD i 0 == 20) := by
  unfold naskhref22_right.f
  rw [if_pos (by omega), if_pos (by omega), naskhref22_Levels.rdD, if_neg h]
/-- How far, and how many are over, within bounds. -/
def naskhref22_Levels.Bd (n : Nat) (s : RSt) : Prop := Stk.Good s.l ∧ s.L.length = n ∧ s.T.length = n ∧ (0 ≤ s.a ∧ s.a ≤ (n : Int)) ∧ 0 ≤ s.b ∧ s.b ≤ (n : Int)
theorem naskhref22_Levels.step_bd {k : Nat} {q : List Int} {bs : Int} {i n : Nat} {s s' : RSt} (h : naskhref22_Levels.Bd n s) (hn : n ≤ 17592186044000) (hs : naskhref22_Levels.step k q bs i s = some s') : naskhref22_Levels.Bd (n + 1) s' := by
  obtain ⟨hG, hL, hT, ⟨ha0, ha1⟩, hb0, hb1⟩ := h
  have hN : (n : Int) ≤ 17592186044000 := by omega
  have ka : 0 ≤ s.a ∧ s.a ≤ ((n + 1 : Nat) : Int) := by omega
  have kb : 0 ≤ s.b ∧ s.b ≤ ((n + 1 : Nat) : Int) := by omega
  have kia := fun r => isoA_bd (b := s.b) (l := s.l) ha0 ha1 hN r
  have keb := fun r => embB_bd2 (a := s.a) (l := s.l) hb0 hb1 hN r
  have kea := eiA_bd ha0 ha1 hN
  have kec := eiB_bd (a := s.a) (c := s.c) hb0 hb1 hN
  have kee := eeB_bd (a := s.a) hb0 hb1 hN
  rw [show (n : Int) + 1 = ((n + 1 : Nat) : Int) by omega] at kia keb kea kec kee
  have lL : ∀ x : Int, (s.L ++ [x]).length = n + 1 := fun x => by rw [List.length_append, hL]; rfl
  have lT : ∀ x : Int, (s.T ++ [x]).length = n + 1 := fun x => by rw [List.length_append, hT]; rfl
  unfold naskhref22_Levels.step at hs
  by_cases h16 : q.getD i 0 = 16
  · rw [if_pos h16] at hs
    obtain rfl := Option.some.inj hs
    exact ⟨(Went.emb hG _ _).1, lL _, lT _, ka, keb _⟩
  rw [if_neg h16] at hs
  by_cases h14 : q.getD i 0 = 14
  · rw [if_pos h14] at hs
    obtain rfl := Option.some.inj hs
    exact ⟨(Went.emb hG _ _).1, lL _, lT _, ka, keb _⟩
  rw [if_neg h14] at hs
  by_cases h17 : q.getD i 0 = 17
  · rw [if_pos h17] at hs
    obtain rfl := Option.some.inj hs
    exact ⟨(Went.emb hG _ _).1, lL _, lT _, ka, keb _⟩
  rw [if_neg h17] at hs
  by_cases h15 : q.getD i 0 = 15
  · rw [if_pos h15] at hs
    obtain rfl := Option.some.inj hs
    exact ⟨(Went.emb hG _ _).1, lL _, lT _, ka, keb _⟩
  rw [if_neg h15] at hs
  by_cases h20 : q.getD i 0 = 20
  · rw [if_pos h20] at hs
    obtain rfl := Option.some.inj hs
    exact ⟨(Went.isol hG _).1, lL _, lT _, kia _, kb⟩
  rw [if_neg h20] at hs
  by_cases h19 : q.getD i 0 = 19
  · rw [if_pos h19] at hs
    obtain rfl := Option.some.inj hs
    exact ⟨(Went.isol hG _).1, lL _, lT _, kia _, kb⟩
  rw [if_neg h19] at hs
  by_cases h21 : q.getD i 0 = 21
  · rw [if_pos h21] at hs
    obtain ⟨r, hr, hs⟩ := Option.bind_eq_some_iff.mp hs
    obtain rfl := Option.some.inj hs
    exact ⟨(Went.isol hG _).1, lL _, lT _, kia _, kb⟩
  rw [if_neg h21] at hs
  by_cases h22 : q.getD i 0 = 22
  · rw [if_pos h22] at hs
    obtain rfl := Option.some.inj hs
    exact ⟨(Went.ei hG).1, lL _, lT _, kea, kec⟩
  rw [if_neg h22] at hs
  by_cases h18 : q.getD i 0 = 18
  · rw [if_pos h18] at hs
    obtain rfl := Option.some.inj hs
    exact ⟨(Went.ee hG).1, lL _, lT _, ka, kee⟩
  rw [if_neg h18] at hs
  by_cases h9 : q.getD i 0 = 9
  · rw [if_pos h9] at hs
    obtain rfl := Option.some.inj hs
    exact ⟨hG, lL _, lT _, ka, kb⟩
  rw [if_neg h9] at hs
  by_cases h10 : q.getD i 0 = 10
  · rw [if_pos h10] at hs
    obtain rfl := Option.some.inj hs
    exact ⟨hG, lL _, lT _, ka, kb⟩
  rw [if_neg h10] at hs
  obtain rfl := Option.some.inj hs
  exact ⟨hG, lL _, lT _, ka, kb⟩
set_option maxHeartbeats 40000000 in
set_option maxRecDepth 100000 in
theorem naskhref22_Levels.calls (k : Nat) (A0 : Option Addr) (c0 : Nat) (l0 : List Int) (a1 : Int) (r1 : List Int) (r2 : List Int) (w : World) (hr0 : Kd.C (Kd.int .i64) w A0 l0.length l0) (hc0 : l0.length ≤ c0) (h : naskhref22_Levels.f k l0 a1 = some (r1, r2)) :
    Calls Try.prog 11 #[.slice A0 l0.length c0, .int .i64 a1] w fun e w' => ∃ v0_ v1_ : Value, e = .returned (.tuple #[v0_, v1_]) ∧ Kd.R (Kd.int .i64) 3 w' w.heap.size (fun k_ => some k_ ≠ (v1_ : Value).ownBlock) v0_ r1 ∧ Kd.R (Kd.int .i64) 3 w' w.heap.size (fun k_ => some k_ ≠ (v0_ : Value).ownBlock) v1_ r2 ∧ Below w.heap.size w w' := by
  unfold naskhref22_Levels.f at h
  by_cases hsz : l0.length ≤ 17592186043000
  case neg => rw [if_neg hsz] at h; cases h
  rw [if_pos hsz] at h
  obtain ⟨sF, hgo, h⟩ := Option.bind_eq_some_iff.mp h
  obtain ⟨rfl, rfl⟩ := Prod.mk.inj (Option.some.inj h)
  obtain ⟨j1, hj1⟩ : ∃ z, mx a1 0 = z := ⟨_, rfl⟩
  have hj1_ : (if a1 < 0 then 0 else a1) = j1 := hj1
  rw [hj1] at hgo
  obtain ⟨bs, hbs⟩ : ∃ z, mn j1 1 = z := ⟨_, rfl⟩
  have hbs_ : (if 1 < j1 then 1 else j1) = bs := hbs
  rw [hbs] at hgo
  have HGO := Aside0.mk hgo
  have HSZ := Aside0.mk hsz
  have HC := Aside0.mk hr0
  have HCC := Aside0.mk hc0
  clear hgo hsz hr0 hc0 h hj1 hbs
  go_enter Try.func11, Try.ntmps11
  go_wp2_with (first | (go_at_call 27; (with_reducible refine (x_new bs w).mono ?_); rintro e w1 ⟨g, v, rfl, hS, hg, hb⟩; have HR1 := Aside0.mk (show RfC w1 w.heap.size g v 0 0 0 [newE bs] (.slice none 0 0) (.slice none 0 0) [] [] from ⟨hS, Kd.R_nil _ _ _ _ _, Kd.R_nil _ _ _ _ _⟩); have HB1 := Aside0.mk hb; clear hS hg hb))
  go_loopg [7, 8, 9] l0.length (fun kq v7 v8 v9 w' => ∃ (i : Nat) (s : RSt) (v : Value), v9 = .int .i64 (i : Int) ∧ Aside0 (i ≤ l0.length ∧ l0.length - i = kq) ∧ Aside0 (RfC w' w.heap.size g v s.a s.b s.c s.l v7 v8 s.L s.T) ∧ Aside0 (naskhref22_Levels.Bd i s) ∧ Aside0 (Below w.heap.size w w') ∧ Aside0 (naskhref22_Levels.go k l0 bs (l0.length - i) s = some sF))
  case atStart => exact ⟨0, naskhref22_Levels.s0 bs, v, rfl, ⟨Nat.zero_le _, rfl⟩, HR1, ⟨Stk.Good.new _, rfl, rfl, ⟨Int.le_refl _, Int.le_refl _⟩, Int.le_refl _, Int.le_refl _⟩, HB1, HGO⟩
  case round =>
    clear HR1 HB1 HGO v hj1_ hbs_
    obtain ⟨i, s, v, rfl, HI, HR0, HBD, HB0, HGO⟩ := hrel
    by_cases hlt : i < l0.length
    · have b0 : decide ((i : Int) < (l0.length : Int)) = true := decide_eq_true (by omega)
      have b1 : decide (i < l0.length) = true := decide_eq_true hlt
      have hi0 : ((0 : Int) ≤ (i : Int)) = True := eq_true (by omega)
      have hi1 : ((i : Int) < (l0.length : Int)) = True := eq_true (by omega)
      have hi2 := hlt
      have hw := (show wrap64 ((i : Int) + 1) = ((i + 1 : Nat) : Int) by have := HSZ.out; unfold wrap64; omega)
      have hgo := HGO.out
      obtain ⟨n, hn⟩ : ∃ n, l0.length - i = n + 1 := ⟨l0.length - i - 1, by omega⟩
      rw [hn, naskhref22_Levels.go, show l0.length - (n + 1) = i by omega] at hgo
      obtain ⟨s', hs', hgo'⟩ := Option.bind_eq_some_iff.mp hgo
      rw [show n = l0.length - (i + 1) by omega] at hgo'
      have HBD' := Aside0.mk (naskhref22_Levels.step_bd HBD.out (by have := HSZ.out; omega) hs')
      have HLM := Aside0.mk (show s.L.length ≤ 17592186043000 ∧ s.T.length ≤ 17592186043000 from by have := HBD.out.2.1; have := HBD.out.2.2.1; have := HSZ.out; omega)
      have HG0 := Aside0.mk HBD.out.1
      have HA0 := Aside0.mk (show 0 ≤ s.a ∧ 0 ≤ s.b from ⟨HBD.out.2.2.2.1.1, HBD.out.2.2.2.2.1⟩)
      obtain ⟨ad, ea, hcell⟩ := at_I (Kd.C_below HC.out HB0.out) i hlt
      subst ea
      obtain ⟨a, b, c, l, L, T⟩ := s
      dsimp only at HR0 HLM HG0 HA0
      clear hn hgo HGO HBD
      unfold naskhref22_Levels.step at hs'

      by_cases h16 : l0.getD i 0 = 16
      · rw [if_pos h16] at hs'
        rw [h16] at hcell
        obtain rfl := Option.some.inj hs'
        clear hs'
        dsimp only at hgo' HBD'
        have HG1 := Aside0.mk (show Stk.Good l from HG0.out)
        obtain ⟨y0, hy0⟩ : ∃ z, over (topE l).ov 16 = z := ⟨_, rfl⟩
        have HGV := Aside0.mk (fun (W : World) (h : StkX W w.heap.size g v a b c l) => r_given h HG1.out 16)
        have HTP := Aside0.mk (fun (W : World) (v1 : Value) (h : StkX W w.heap.size g v1 a b c l) => x_top h HG1.out.1 (by have := HG1.out.len; omega))
        rw [hy0] at HGV
        obtain ⟨t0, ht0⟩ : ∃ z, (topE l).lv = z := ⟨_, rfl⟩
        obtain ⟨t1, ht1⟩ : ∃ z, (topE l).ov = z := ⟨_, rfl⟩
        obtain ⟨t2, ht2⟩ : ∃ z, (topE l).iso = z := ⟨_, rfl⟩
        rw [ht0, ht1, ht2] at HTP
        rw [ht0] at hgo' HBD'
        have HGO' := Aside0.mk hgo'
        have hfl : ∀ W : World, (Instr.field 46 (.agg #[.int .i64 t0, .int .i64 t1, .bool t2]) 0).run Try.prog W = .ok (.int .i64 t0) W := fun W => by kernel_rfl
        have HLF := Aside0.mk (show naskhref22_Left.f 16 = some true from by decide)
        have HLT := Aside0.mk hlt
        clear hy0 ht0 ht1 ht2 hgo' hlt hi2
        clear h16
        go_wp2_with (first | (go_at_call 29; (with_reducible refine (HTP.out _ _ (rf_x HR0.out)).mono ?_); rintro e w2 ⟨rfl, hb⟩; have HR2 := Aside0.mk (show RfC w2 w.heap.size g v a b c l u7 u8 L T from rf_below HR0.out hb); have HB2 := Aside0.mk (below_step HB0.out hb); clear hb) | (go_at_call 30; (with_reducible refine (HGV.out _ (rf_x HR2.out)).mono ?_); rintro e w3 ⟨rfl, hb⟩; have HR3 := Aside0.mk (show RfC w3 w.heap.size g v a b c l u7 u8 L T from rf_below HR2.out hb); have HB3 := Aside0.mk (below_step HB2.out hb); clear hb) | (go_at_call 23; (with_reducible refine (naskhref22_Left.calls 16 true _ HLF.out).mono ?_); rintro e w4 ⟨rfl, hb⟩; have HR4 := Aside0.mk (show RfC w4 w.heap.size g v a b c l u7 u8 L T from rf_below HR3.out hb.below); have HB4 := Aside0.mk (below_step HB3.out hb.below); clear hb) | ((with_reducible refine gate_builtin (b := .append) (xs := #[.tmp 46, .tmp 48]) rfl ?_); (try (refine gate_guard (by rfl) ?_; dsimp only)); at_builtin; refine Kd.R_append kI (w0 := w) w.heap.size rfl (.tmp 46) (.tmp 48) 22 3 (.int .i64 0) 8 rfl Try.underlying22 infoI rfl (by decide) (by omega) u7 L t0 [.int .i64 t0] (fun k => some k ≠ (u8).ownBlock) (fun _ => False) rfl rfl ?aP5 (fun _ hk => hk.elim) ?aF5 ?aO5 ?aB5 ?aS5 ?aL5 ?_; (case aP5 => exact rfl); (case aB5 => exact HB4.out); (case aF5 => exact (fun k hk e => by have := Kd.R_lt (HR4.out.2.2) k e.symm; omega)); (case aO5 => exact HR4.out.2.1); (case aS5 => exact (below_size HB4.out)); (case aL5 => have := HLM.out; omega); intro vl5 w5 ho hb hg hat; have HR5 := Aside0.mk (show RfC w5 w.heap.size g v a b c l vl5 u8 (L ++ [t0]) T from rf_app1 HR4.out hg ho hat); have HB5 := Aside0.mk hb; clear ho hb hg hat) | ((with_reducible refine gate_builtin (b := .append) (xs := #[.tmp 50, .tmp 52]) rfl ?_); (try (refine gate_guard (by rfl) ?_; dsimp only)); at_builtin; refine Kd.R_append kI (w0 := w) w.heap.size rfl (.tmp 50) (.tmp 52) 22 3 (.int .i64 0) 8 rfl Try.underlying22 infoI rfl (by decide) (by omega) u8 T 9 [.int .i64 9] (fun k => some k ≠ (vl5).ownBlock) (fun _ => False) rfl rfl ?aP6 (fun _ hk => hk.elim) ?aF6 ?aO6 ?aB6 ?aS6 ?aL6 ?_; (case aP6 => exact rfl); (case aB6 => exact HB5.out); (case aF6 => exact (fun k hk e => by have := Kd.R_lt (HR5.out.2.1) k e.symm; omega)); (case aO6 => exact HR5.out.2.2); (case aS6 => exact (below_size HB5.out)); (case aL6 => have := HLM.out; omega); intro vt6 w6 ho hb hg hat; have HR6 := Aside0.mk (show RfC w6 w.heap.size g v a b c l vl5 vt6 (L ++ [t0]) (T ++ [9]) from rf_app2 HR5.out hg ho hat); have HB6 := Aside0.mk hb; clear ho hb hg hat) | (go_at_call 31; (with_reducible refine (x_embed (rf_x HR6.out) HG0.out (rf_l HA0.out) (rf_r HA0.out) true 13).mono ?_); rintro e w8 ⟨v8, rfl, hS, hm⟩; have HR8 := Aside0.mk (show RfC w8 w.heap.size g v8 a (embB a b l true) c (embL a b l true 13) vl5 vt6 (L ++ [t0]) (T ++ [9]) from rf_stk HR6.out hS hm); have HB8 := Aside0.mk (HB6.out.trans (hm.below HR6.out.1)); clear hS hm))
        go_roundg (l0.length - (i + 1))
        case measure => have := HI.out; have := HLT.out; omega
        case rel => exact ⟨i + 1, ⟨a, (embB a b l true), c, (embL a b l true 13), (L ++ [t0]), (T ++ [9])⟩, v8, by first | rfl | go_num | rw [hw], ⟨by have := HLT.out; omega, rfl⟩, HR8, HBD', HB8, HGO'⟩
      rw [if_neg h16] at hs'
      by_cases h14 : l0.getD i 0 = 14
      · rw [if_pos h14] at hs'
        rw [h14] at hcell
        obtain rfl := Option.some.inj hs'
        clear hs'
        dsimp only at hgo' HBD'
        have HG1 := Aside0.mk (show Stk.Good l from HG0.out)
        obtain ⟨y0, hy0⟩ : ∃ z, over (topE l).ov 14 = z := ⟨_, rfl⟩
        have HGV := Aside0.mk (fun (W : World) (h : StkX W w.heap.size g v a b c l) => r_given h HG1.out 14)
        have HTP := Aside0.mk (fun (W : World) (v1 : Value) (h : StkX W w.heap.size g v1 a b c l) => x_top h HG1.out.1 (by have := HG1.out.len; omega))
        rw [hy0] at HGV
        obtain ⟨t0, ht0⟩ : ∃ z, (topE l).lv = z := ⟨_, rfl⟩
        obtain ⟨t1, ht1⟩ : ∃ z, (topE l).ov = z := ⟨_, rfl⟩
        obtain ⟨t2, ht2⟩ : ∃ z, (topE l).iso = z := ⟨_, rfl⟩
        rw [ht0, ht1, ht2] at HTP
        rw [ht0] at hgo' HBD'
        have HGO' := Aside0.mk hgo'
        have hfl : ∀ W : World, (Instr.field 46 (.agg #[.int .i64 t0, .int .i64 t1, .bool t2]) 0).run Try.prog W = .ok (.int .i64 t0) W := fun W => by kernel_rfl
        have HLF := Aside0.mk (show naskhref22_Left.f 14 = some true from by decide)
        have HLT := Aside0.mk hlt
        clear hy0 ht0 ht1 ht2 hgo' hlt hi2
        clear h16 h14
        go_wp2_with (first | (go_at_call 29; (with_reducible refine (HTP.out _ _ (rf_x HR0.out)).mono ?_); rintro e w2 ⟨rfl, hb⟩; have HR2 := Aside0.mk (show RfC w2 w.heap.size g v a b c l u7 u8 L T from rf_below HR0.out hb); have HB2 := Aside0.mk (below_step HB0.out hb); clear hb) | (go_at_call 30; (with_reducible refine (HGV.out _ (rf_x HR2.out)).mono ?_); rintro e w3 ⟨rfl, hb⟩; have HR3 := Aside0.mk (show RfC w3 w.heap.size g v a b c l u7 u8 L T from rf_below HR2.out hb); have HB3 := Aside0.mk (below_step HB2.out hb); clear hb) | (go_at_call 23; (with_reducible refine (naskhref22_Left.calls 14 true _ HLF.out).mono ?_); rintro e w4 ⟨rfl, hb⟩; have HR4 := Aside0.mk (show RfC w4 w.heap.size g v a b c l u7 u8 L T from rf_below HR3.out hb.below); have HB4 := Aside0.mk (below_step HB3.out hb.below); clear hb) | ((with_reducible refine gate_builtin (b := .append) (xs := #[.tmp 46, .tmp 48]) rfl ?_); (try (refine gate_guard (by rfl) ?_; dsimp only)); at_builtin; refine Kd.R_append kI (w0 := w) w.heap.size rfl (.tmp 46) (.tmp 48) 22 3 (.int .i64 0) 8 rfl Try.underlying22 infoI rfl (by decide) (by omega) u7 L t0 [.int .i64 t0] (fun k => some k ≠ (u8).ownBlock) (fun _ => False) rfl rfl ?aP5 (fun _ hk => hk.elim) ?aF5 ?aO5 ?aB5 ?aS5 ?aL5 ?_; (case aP5 => exact rfl); (case aB5 => exact HB4.out); (case aF5 => exact (fun k hk e => by have := Kd.R_lt (HR4.out.2.2) k e.symm; omega)); (case aO5 => exact HR4.out.2.1); (case aS5 => exact (below_size HB4.out)); (case aL5 => have := HLM.out; omega); intro vl5 w5 ho hb hg hat; have HR5 := Aside0.mk (show RfC w5 w.heap.size g v a b c l vl5 u8 (L ++ [t0]) T from rf_app1 HR4.out hg ho hat); have HB5 := Aside0.mk hb; clear ho hb hg hat) | ((with_reducible refine gate_builtin (b := .append) (xs := #[.tmp 50, .tmp 52]) rfl ?_); (try (refine gate_guard (by rfl) ?_; dsimp only)); at_builtin; refine Kd.R_append kI (w0 := w) w.heap.size rfl (.tmp 50) (.tmp 52) 22 3 (.int .i64 0) 8 rfl Try.underlying22 infoI rfl (by decide) (by omega) u8 T 9 [.int .i64 9] (fun k => some k ≠ (vl5).ownBlock) (fun _ => False) rfl rfl ?aP6 (fun _ hk => hk.elim) ?aF6 ?aO6 ?aB6 ?aS6 ?aL6 ?_; (case aP6 => exact rfl); (case aB6 => exact HB5.out); (case aF6 => exact (fun k hk e => by have := Kd.R_lt (HR5.out.2.1) k e.symm; omega)); (case aO6 => exact HR5.out.2.2); (case aS6 => exact (below_size HB5.out)); (case aL6 => have := HLM.out; omega); intro vt6 w6 ho hb hg hat; have HR6 := Aside0.mk (show RfC w6 w.heap.size g v a b c l vl5 vt6 (L ++ [t0]) (T ++ [9]) from rf_app2 HR5.out hg ho hat); have HB6 := Aside0.mk hb; clear ho hb hg hat) | (go_at_call 31; (with_reducible refine (x_embed (rf_x HR6.out) HG0.out (rf_l HA0.out) (rf_r HA0.out) false 13).mono ?_); rintro e w8 ⟨v8, rfl, hS, hm⟩; have HR8 := Aside0.mk (show RfC w8 w.heap.size g v8 a (embB a b l false) c (embL a b l false 13) vl5 vt6 (L ++ [t0]) (T ++ [9]) from rf_stk HR6.out hS hm); have HB8 := Aside0.mk (HB6.out.trans (hm.below HR6.out.1)); clear hS hm))
        go_roundg (l0.length - (i + 1))
        case measure => have := HI.out; have := HLT.out; omega
        case rel => exact ⟨i + 1, ⟨a, (embB a b l false), c, (embL a b l false 13), (L ++ [t0]), (T ++ [9])⟩, v8, by first | rfl | go_num | rw [hw], ⟨by have := HLT.out; omega, rfl⟩, HR8, HBD', HB8, HGO'⟩
      rw [if_neg h14] at hs'
      by_cases h17 : l0.getD i 0 = 17
      · rw [if_pos h17] at hs'
        rw [h17] at hcell
        obtain rfl := Option.some.inj hs'
        clear hs'
        dsimp only at hgo' HBD'
        have HG1 := Aside0.mk (show Stk.Good l from HG0.out)
        obtain ⟨y0, hy0⟩ : ∃ z, over (topE l).ov 17 = z := ⟨_, rfl⟩
        have HGV := Aside0.mk (fun (W : World) (h : StkX W w.heap.size g v a b c l) => r_given h HG1.out 17)
        have HTP := Aside0.mk (fun (W : World) (v1 : Value) (h : StkX W w.heap.size g v1 a b c l) => x_top h HG1.out.1 (by have := HG1.out.len; omega))
        rw [hy0] at HGV
        obtain ⟨t0, ht0⟩ : ∃ z, (topE l).lv = z := ⟨_, rfl⟩
        obtain ⟨t1, ht1⟩ : ∃ z, (topE l).ov = z := ⟨_, rfl⟩
        obtain ⟨t2, ht2⟩ : ∃ z, (topE l).iso = z := ⟨_, rfl⟩
        rw [ht0, ht1, ht2] at HTP
        rw [ht0] at hgo' HBD'
        have HGO' := Aside0.mk hgo'
        have hfl : ∀ W : World, (Instr.field 46 (.agg #[.int .i64 t0, .int .i64 t1, .bool t2]) 0).run Try.prog W = .ok (.int .i64 t0) W := fun W => by kernel_rfl
        have HLF := Aside0.mk (show naskhref22_Left.f 17 = some true from by decide)
        have HLT := Aside0.mk hlt
        clear hy0 ht0 ht1 ht2 hgo' hlt hi2
        clear h16 h14 h17
        go_wp2_with (first | (go_at_call 29; (with_reducible refine (HTP.out _ _ (rf_x HR0.out)).mono ?_); rintro e w2 ⟨rfl, hb⟩; have HR2 := Aside0.mk (show RfC w2 w.heap.size g v a b c l u7 u8 L T from rf_below HR0.out hb); have HB2 := Aside0.mk (below_step HB0.out hb); clear hb) | (go_at_call 30; (with_reducible refine (HGV.out _ (rf_x HR2.out)).mono ?_); rintro e w3 ⟨rfl, hb⟩; have HR3 := Aside0.mk (show RfC w3 w.heap.size g v a b c l u7 u8 L T from rf_below HR2.out hb); have HB3 := Aside0.mk (below_step HB2.out hb); clear hb) | (go_at_call 23; (with_reducible refine (naskhref22_Left.calls 17 true _ HLF.out).mono ?_); rintro e w4 ⟨rfl, hb⟩; have HR4 := Aside0.mk (show RfC w4 w.heap.size g v a b c l u7 u8 L T from rf_below HR3.out hb.below); have HB4 := Aside0.mk (below_step HB3.out hb.below); clear hb) | ((with_reducible refine gate_builtin (b := .append) (xs := #[.tmp 46, .tmp 48]) rfl ?_); (try (refine gate_guard (by rfl) ?_; dsimp only)); at_builtin; refine Kd.R_append kI (w0 := w) w.heap.size rfl (.tmp 46) (.tmp 48) 22 3 (.int .i64 0) 8 rfl Try.underlying22 infoI rfl (by decide) (by omega) u7 L t0 [.int .i64 t0] (fun k => some k ≠ (u8).ownBlock) (fun _ => False) rfl rfl ?aP5 (fun _ hk => hk.elim) ?aF5 ?aO5 ?aB5 ?aS5 ?aL5 ?_; (case aP5 => exact rfl); (case aB5 => exact HB4.out); (case aF5 => exact (fun k hk e => by have := Kd.R_lt (HR4.out.2.2) k e.symm; omega)); (case aO5 => exact HR4.out.2.1); (case aS5 => exact (below_size HB4.out)); (case aL5 => have := HLM.out; omega); intro vl5 w5 ho hb hg hat; have HR5 := Aside0.mk (show RfC w5 w.heap.size g v a b c l vl5 u8 (L ++ [t0]) T from rf_app1 HR4.out hg ho hat); have HB5 := Aside0.mk hb; clear ho hb hg hat) | ((with_reducible refine gate_builtin (b := .append) (xs := #[.tmp 50, .tmp 52]) rfl ?_); (try (refine gate_guard (by rfl) ?_; dsimp only)); at_builtin; refine Kd.R_append kI (w0 := w) w.heap.size rfl (.tmp 50) (.tmp 52) 22 3 (.int .i64 0) 8 rfl Try.underlying22 infoI rfl (by decide) (by omega) u8 T 9 [.int .i64 9] (fun k => some k ≠ (vl5).ownBlock) (fun _ => False) rfl rfl ?aP6 (fun _ hk => hk.elim) ?aF6 ?aO6 ?aB6 ?aS6 ?aL6 ?_; (case aP6 => exact rfl); (case aB6 => exact HB5.out); (case aF6 => exact (fun k hk e => by have := Kd.R_lt (HR5.out.2.1) k e.symm; omega)); (case aO6 => exact HR5.out.2.2); (case aS6 => exact (below_size HB5.out)); (case aL6 => have := HLM.out; omega); intro vt6 w6 ho hb hg hat; have HR6 := Aside0.mk (show RfC w6 w.heap.size g v a b c l vl5 vt6 (L ++ [t0]) (T ++ [9]) from rf_app2 HR5.out hg ho hat); have HB6 := Aside0.mk hb; clear ho hb hg hat) | (go_at_call 31; (with_reducible refine (x_embed (rf_x HR6.out) HG0.out (rf_l HA0.out) (rf_r HA0.out) true 1).mono ?_); rintro e w8 ⟨v8, rfl, hS, hm⟩; have HR8 := Aside0.mk (show RfC w8 w.heap.size g v8 a (embB a b l true) c (embL a b l true 1) vl5 vt6 (L ++ [t0]) (T ++ [9]) from rf_stk HR6.out hS hm); have HB8 := Aside0.mk (HB6.out.trans (hm.below HR6.out.1)); clear hS hm))
        go_roundg (l0.length - (i + 1))
        case measure => have := HI.out; have := HLT.out; omega
        case rel => exact ⟨i + 1, ⟨a, (embB a b l true), c, (embL a b l true 1), (L ++ [t0]), (T ++ [9])⟩, v8, by first | rfl | go_num | rw [hw], ⟨by have := HLT.out; omega, rfl⟩, HR8, HBD', HB8, HGO'⟩
      rw [if_neg h17] at hs'
      by_cases h15 : l0.getD i 0 = 15
      · rw [if_pos h15] at hs'
        rw [h15] at hcell
        obtain rfl := Option.some.inj hs'
        clear hs'
        dsimp only at hgo' HBD'
        have HG1 := Aside0.mk (show Stk.Good l from HG0.out)
        obtain ⟨y0, hy0⟩ : ∃ z, over (topE l).ov 15 = z := ⟨_, rfl⟩
        have HGV := Aside0.mk (fun (W : World) (h : StkX W w.heap.size g v a b c l) => r_given h HG1.out 15)
        have HTP := Aside0.mk (fun (W : World) (v1 : Value) (h : StkX W w.heap.size g v1 a b c l) => x_top h HG1.out.1 (by have := HG1.out.len; omega))
        rw [hy0] at HGV
        obtain ⟨t0, ht0⟩ : ∃ z, (topE l).lv = z := ⟨_, rfl⟩
        obtain ⟨t1, ht1⟩ : ∃ z, (topE l).ov = z := ⟨_, rfl⟩
        obtain ⟨t2, ht2⟩ : ∃ z, (topE l).iso = z := ⟨_, rfl⟩
        rw [ht0, ht1, ht2] at HTP
        rw [ht0] at hgo' HBD'
        have HGO' := Aside0.mk hgo'
        have hfl : ∀ W : World, (Instr.field 46 (.agg #[.int .i64 t0, .int .i64 t1, .bool t2]) 0).run Try.prog W = .ok (.int .i64 t0) W := fun W => by kernel_rfl
        have HLF := Aside0.mk (show naskhref22_Left.f 15 = some true from by decide)
        have HLT := Aside0.mk hlt
        clear hy0 ht0 ht1 ht2 hgo' hlt hi2
        clear h16 h14 h17 h15
        go_wp2_with (first | (go_at_call 29; (with_reducible refine (HTP.out _ _ (rf_x HR0.out)).mono ?_); rintro e w2 ⟨rfl, hb⟩; have HR2 := Aside0.mk (show RfC w2 w.heap.size g v a b c l u7 u8 L T from rf_below HR0.out hb); have HB2 := Aside0.mk (below_step HB0.out hb); clear hb) | (go_at_call 30; (with_reducible refine (HGV.out _ (rf_x HR2.out)).mono ?_); rintro e w3 ⟨rfl, hb⟩; have HR3 := Aside0.mk (show RfC w3 w.heap.size g v a b c l u7 u8 L T from rf_below HR2.out hb); have HB3 := Aside0.mk (below_step HB2.out hb); clear hb) | (go_at_call 23; (with_reducible refine (naskhref22_Left.calls 15 true _ HLF.out).mono ?_); rintro e w4 ⟨rfl, hb⟩; have HR4 := Aside0.mk (show RfC w4 w.heap.size g v a b c l u7 u8 L T from rf_below HR3.out hb.below); have HB4 := Aside0.mk (below_step HB3.out hb.below); clear hb) | ((with_reducible refine gate_builtin (b := .append) (xs := #[.tmp 46, .tmp 48]) rfl ?_); (try (refine gate_guard (by rfl) ?_; dsimp only)); at_builtin; refine Kd.R_append kI (w0 := w) w.heap.size rfl (.tmp 46) (.tmp 48) 22 3 (.int .i64 0) 8 rfl Try.underlying22 infoI rfl (by decide) (by omega) u7 L t0 [.int .i64 t0] (fun k => some k ≠ (u8).ownBlock) (fun _ => False) rfl rfl ?aP5 (fun _ hk => hk.elim) ?aF5 ?aO5 ?aB5 ?aS5 ?aL5 ?_; (case aP5 => exact rfl); (case aB5 => exact HB4.out); (case aF5 => exact (fun k hk e => by have := Kd.R_lt (HR4.out.2.2) k e.symm; omega)); (case aO5 => exact HR4.out.2.1); (case aS5 => exact (below_size HB4.out)); (case aL5 => have := HLM.out; omega); intro vl5 w5 ho hb hg hat; have HR5 := Aside0.mk (show RfC w5 w.heap.size g v a b c l vl5 u8 (L ++ [t0]) T from rf_app1 HR4.out hg ho hat); have HB5 := Aside0.mk hb; clear ho hb hg hat) | ((with_reducible refine gate_builtin (b := .append) (xs := #[.tmp 50, .tmp 52]) rfl ?_); (try (refine gate_guard (by rfl) ?_; dsimp only)); at_builtin; refine Kd.R_append kI (w0 := w) w.heap.size rfl (.tmp 50) (.tmp 52) 22 3 (.int .i64 0) 8 rfl Try.underlying22 infoI rfl (by decide) (by omega) u8 T 9 [.int .i64 9] (fun k => some k ≠ (vl5).ownBlock) (fun _ => False) rfl rfl ?aP6 (fun _ hk => hk.elim) ?aF6 ?aO6 ?aB6 ?aS6 ?aL6 ?_; (case aP6 => exact rfl); (case aB6 => exact HB5.out); (case aF6 => exact (fun k hk e => by have := Kd.R_lt (HR5.out.2.1) k e.symm; omega)); (case aO6 => exact HR5.out.2.2); (case aS6 => exact (below_size HB5.out)); (case aL6 => have := HLM.out; omega); intro vt6 w6 ho hb hg hat; have HR6 := Aside0.mk (show RfC w6 w.heap.size g v a b c l vl5 vt6 (L ++ [t0]) (T ++ [9]) from rf_app2 HR5.out hg ho hat); have HB6 := Aside0.mk hb; clear ho hb hg hat) | (go_at_call 31; (with_reducible refine (x_embed (rf_x HR6.out) HG0.out (rf_l HA0.out) (rf_r HA0.out) false 0).mono ?_); rintro e w8 ⟨v8, rfl, hS, hm⟩; have HR8 := Aside0.mk (show RfC w8 w.heap.size g v8 a (embB a b l false) c (embL a b l false 0) vl5 vt6 (L ++ [t0]) (T ++ [9]) from rf_stk HR6.out hS hm); have HB8 := Aside0.mk (HB6.out.trans (hm.below HR6.out.1)); clear hS hm))
        go_roundg (l0.length - (i + 1))
        case measure => have := HI.out; have := HLT.out; omega
        case rel => exact ⟨i + 1, ⟨a, (embB a b l false), c, (embL a b l false 0), (L ++ [t0]), (T ++ [9])⟩, v8, by first | rfl | go_num | rw [hw], ⟨by have := HLT.out; omega, rfl⟩, HR8, HBD', HB8, HGO'⟩
      rw [if_neg h15] at hs'
      by_cases h20 : l0.getD i 0 = 20
      · rw [if_pos h20] at hs'
        rw [h20] at hcell
        obtain rfl := Option.some.inj hs'
        clear hs'
        dsimp only at hgo' HBD'
        have HG1 := Aside0.mk (show Stk.Good l from HG0.out)
        obtain ⟨y0, hy0⟩ : ∃ z, over (topE l).ov 20 = z := ⟨_, rfl⟩
        have HGV := Aside0.mk (fun (W : World) (h : StkX W w.heap.size g v a b c l) => r_given h HG1.out 20)
        have HTP := Aside0.mk (fun (W : World) (v1 : Value) (h : StkX W w.heap.size g v1 a b c l) => x_top h HG1.out.1 (by have := HG1.out.len; omega))
        rw [hy0] at HGV
        obtain ⟨t0, ht0⟩ : ∃ z, (topE l).lv = z := ⟨_, rfl⟩
        obtain ⟨t1, ht1⟩ : ∃ z, (topE l).ov = z := ⟨_, rfl⟩
        obtain ⟨t2, ht2⟩ : ∃ z, (topE l).iso = z := ⟨_, rfl⟩
        rw [ht0, ht1, ht2] at HTP
        rw [ht0] at hgo' HBD'
        rw [hy0] at hgo' HBD'
        have HGO' := Aside0.mk hgo'
        have hfl : ∀ W : World, (Instr.field 46 (.agg #[.int .i64 t0, .int .i64 t1, .bool t2]) 0).run Try.prog W = .ok (.int .i64 t0) W := fun W => by kernel_rfl
        have HLF := Aside0.mk (show naskhref22_Left.f 20 = some false from by decide)
        have HRT := Aside0.mk (show naskhref22_right.f k l0 (i : Int) = some true from by have z := naskhref22_Levels.right_lit k l0 i hlt (by rw [h20]; decide); rw [h20] at z; exact z)
        have HLT := Aside0.mk hlt
        clear hy0 ht0 ht1 ht2 hgo' hlt hi2
        clear h16 h14 h17 h15 h20
        go_wp2_with (first | (go_at_call 29; (with_reducible refine (HTP.out _ _ (rf_x HR0.out)).mono ?_); rintro e w2 ⟨rfl, hb⟩; have HR2 := Aside0.mk (show RfC w2 w.heap.size g v a b c l u7 u8 L T from rf_below HR0.out hb); have HB2 := Aside0.mk (below_step HB0.out hb); clear hb) | (go_at_call 30; (with_reducible refine (HGV.out _ (rf_x HR2.out)).mono ?_); rintro e w3 ⟨rfl, hb⟩; have HR3 := Aside0.mk (show RfC w3 w.heap.size g v a b c l u7 u8 L T from rf_below HR2.out hb); have HB3 := Aside0.mk (below_step HB2.out hb); clear hb) | (go_at_call 23; (with_reducible refine (naskhref22_Left.calls 20 false _ HLF.out).mono ?_); rintro e w4 ⟨rfl, hb⟩; have HR4 := Aside0.mk (show RfC w4 w.heap.size g v a b c l u7 u8 L T from rf_below HR3.out hb.below); have HB4 := Aside0.mk (below_step HB3.out hb.below); clear hb) | ((with_reducible refine gate_builtin (b := .append) (xs := #[.tmp 46, .tmp 48]) rfl ?_); (try (refine gate_guard (by rfl) ?_; dsimp only)); at_builtin; refine Kd.R_append kI (w0 := w) w.heap.size rfl (.tmp 46) (.tmp 48) 22 3 (.int .i64 0) 8 rfl Try.underlying22 infoI rfl (by decide) (by omega) u7 L t0 [.int .i64 t0] (fun k => some k ≠ (u8).ownBlock) (fun _ => False) rfl rfl ?aP5 (fun _ hk => hk.elim) ?aF5 ?aO5 ?aB5 ?aS5 ?aL5 ?_; (case aP5 => exact rfl); (case aB5 => exact HB4.out); (case aF5 => exact (fun k hk e => by have := Kd.R_lt (HR4.out.2.2) k e.symm; omega)); (case aO5 => exact HR4.out.2.1); (case aS5 => exact (below_size HB4.out)); (case aL5 => have := HLM.out; omega); intro vl5 w5 ho hb hg hat; have HR5 := Aside0.mk (show RfC w5 w.heap.size g v a b c l vl5 u8 (L ++ [t0]) T from rf_app1 HR4.out hg ho hat); have HB5 := Aside0.mk hb; clear ho hb hg hat) | ((with_reducible refine gate_builtin (b := .append) (xs := #[.tmp 50, .tmp 52]) rfl ?_); (try (refine gate_guard (by rfl) ?_; dsimp only)); at_builtin; refine Kd.R_append kI (w0 := w) w.heap.size rfl (.tmp 50) (.tmp 52) 22 3 (.int .i64 0) 8 rfl Try.underlying22 infoI rfl (by decide) (by omega) u8 T y0 [.int .i64 y0] (fun k => some k ≠ (vl5).ownBlock) (fun _ => False) rfl rfl ?aP6 (fun _ hk => hk.elim) ?aF6 ?aO6 ?aB6 ?aS6 ?aL6 ?_; (case aP6 => exact rfl); (case aB6 => exact HB5.out); (case aF6 => exact (fun k hk e => by have := Kd.R_lt (HR5.out.2.1) k e.symm; omega)); (case aO6 => exact HR5.out.2.2); (case aS6 => exact (below_size HB5.out)); (case aL6 => have := HLM.out; omega); intro vt6 w6 ho hb hg hat; have HR6 := Aside0.mk (show RfC w6 w.heap.size g v a b c l vl5 vt6 (L ++ [t0]) (T ++ [y0]) from rf_app2 HR5.out hg ho hat); have HB6 := Aside0.mk hb; clear ho hb hg hat) | (go_at_call 34; (with_reducible refine (naskhref22_right.calls k _ c0 l0 _ true _ (Kd.C_below HC.out HB6.out) HCC.out HRT.out).mono ?_); rintro e w7 ⟨rfl, hb⟩; have HR7 := Aside0.mk (show RfC w7 w.heap.size g v a b c l vl5 vt6 (L ++ [t0]) (T ++ [y0]) from rf_below HR6.out hb); have HB7 := Aside0.mk (below_step HB6.out hb); clear hb) | (go_at_call 33; (with_reducible refine (x_isolate (rf_x HR7.out) HG0.out (rf_l HA0.out) (rf_r HA0.out) true).mono ?_); rintro e w8 ⟨v8, rfl, hS, hm⟩; have HR8 := Aside0.mk (show RfC w8 w.heap.size g v8 (isoA a b l true) b (isoC a b c l true) (isoL a b l true) vl5 vt6 (L ++ [t0]) (T ++ [y0]) from rf_stk HR7.out hS hm); have HB8 := Aside0.mk (HB7.out.trans (hm.below HR7.out.1)); clear hS hm))
        go_roundg (l0.length - (i + 1))
        case measure => have := HI.out; have := HLT.out; omega
        case rel => exact ⟨i + 1, ⟨(isoA a b l true), b, (isoC a b c l true), (isoL a b l true), (L ++ [t0]), (T ++ [y0])⟩, v8, by first | rfl | go_num | rw [hw], ⟨by have := HLT.out; omega, rfl⟩, HR8, HBD', HB8, HGO'⟩
      rw [if_neg h20] at hs'
      by_cases h19 : l0.getD i 0 = 19
      · rw [if_pos h19] at hs'
        rw [h19] at hcell
        obtain rfl := Option.some.inj hs'
        clear hs'
        dsimp only at hgo' HBD'
        have HG1 := Aside0.mk (show Stk.Good l from HG0.out)
        obtain ⟨y0, hy0⟩ : ∃ z, over (topE l).ov 19 = z := ⟨_, rfl⟩
        have HGV := Aside0.mk (fun (W : World) (h : StkX W w.heap.size g v a b c l) => r_given h HG1.out 19)
        have HTP := Aside0.mk (fun (W : World) (v1 : Value) (h : StkX W w.heap.size g v1 a b c l) => x_top h HG1.out.1 (by have := HG1.out.len; omega))
        rw [hy0] at HGV
        obtain ⟨t0, ht0⟩ : ∃ z, (topE l).lv = z := ⟨_, rfl⟩
        obtain ⟨t1, ht1⟩ : ∃ z, (topE l).ov = z := ⟨_, rfl⟩
        obtain ⟨t2, ht2⟩ : ∃ z, (topE l).iso = z := ⟨_, rfl⟩
        rw [ht0, ht1, ht2] at HTP
        rw [ht0] at hgo' HBD'
        rw [hy0] at hgo' HBD'
        have HGO' := Aside0.mk hgo'
        have hfl : ∀ W : World, (Instr.field 46 (.agg #[.int .i64 t0, .int .i64 t1, .bool t2]) 0).run Try.prog W = .ok (.int .i64 t0) W := fun W => by kernel_rfl
        have HLF := Aside0.mk (show naskhref22_Left.f 19 = some false from by decide)
        have HRT := Aside0.mk (show naskhref22_right.f k l0 (i : Int) = some false from by have z := naskhref22_Levels.right_lit k l0 i hlt (by rw [h19]; decide); rw [h19] at z; exact z)
        have HLT := Aside0.mk hlt
        clear hy0 ht0 ht1 ht2 hgo' hlt hi2
        clear h16 h14 h17 h15 h20 h19
        go_wp2_with (first | (go_at_call 29; (with_reducible refine (HTP.out _ _ (rf_x HR0.out)).mono ?_); rintro e w2 ⟨rfl, hb⟩; have HR2 := Aside0.mk (show RfC w2 w.heap.size g v a b c l u7 u8 L T from rf_below HR0.out hb); have HB2 := Aside0.mk (below_step HB0.out hb); clear hb) | (go_at_call 30; (with_reducible refine (HGV.out _ (rf_x HR2.out)).mono ?_); rintro e w3 ⟨rfl, hb⟩; have HR3 := Aside0.mk (show RfC w3 w.heap.size g v a b c l u7 u8 L T from rf_below HR2.out hb); have HB3 := Aside0.mk (below_step HB2.out hb); clear hb) | (go_at_call 23; (with_reducible refine (naskhref22_Left.calls 19 false _ HLF.out).mono ?_); rintro e w4 ⟨rfl, hb⟩; have HR4 := Aside0.mk (show RfC w4 w.heap.size g v a b c l u7 u8 L T from rf_below HR3.out hb.below); have HB4 := Aside0.mk (below_step HB3.out hb.below); clear hb) | ((with_reducible refine gate_builtin (b := .append) (xs := #[.tmp 46, .tmp 48]) rfl ?_); (try (refine gate_guard (by rfl) ?_; dsimp only)); at_builtin; refine Kd.R_append kI (w0 := w) w.heap.size rfl (.tmp 46) (.tmp 48) 22 3 (.int .i64 0) 8 rfl Try.underlying22 infoI rfl (by decide) (by omega) u7 L t0 [.int .i64 t0] (fun k => some k ≠ (u8).ownBlock) (fun _ => False) rfl rfl ?aP5 (fun _ hk => hk.elim) ?aF5 ?aO5 ?aB5 ?aS5 ?aL5 ?_; (case aP5 => exact rfl); (case aB5 => exact HB4.out); (case aF5 => exact (fun k hk e => by have := Kd.R_lt (HR4.out.2.2) k e.symm; omega)); (case aO5 => exact HR4.out.2.1); (case aS5 => exact (below_size HB4.out)); (case aL5 => have := HLM.out; omega); intro vl5 w5 ho hb hg hat; have HR5 := Aside0.mk (show RfC w5 w.heap.size g v a b c l vl5 u8 (L ++ [t0]) T from rf_app1 HR4.out hg ho hat); have HB5 := Aside0.mk hb; clear ho hb hg hat) | ((with_reducible refine gate_builtin (b := .append) (xs := #[.tmp 50, .tmp 52]) rfl ?_); (try (refine gate_guard (by rfl) ?_; dsimp only)); at_builtin; refine Kd.R_append kI (w0 := w) w.heap.size rfl (.tmp 50) (.tmp 52) 22 3 (.int .i64 0) 8 rfl Try.underlying22 infoI rfl (by decide) (by omega) u8 T y0 [.int .i64 y0] (fun k => some k ≠ (vl5).ownBlock) (fun _ => False) rfl rfl ?aP6 (fun _ hk => hk.elim) ?aF6 ?aO6 ?aB6 ?aS6 ?aL6 ?_; (case aP6 => exact rfl); (case aB6 => exact HB5.out); (case aF6 => exact (fun k hk e => by have := Kd.R_lt (HR5.out.2.1) k e.symm; omega)); (case aO6 => exact HR5.out.2.2); (case aS6 => exact (below_size HB5.out)); (case aL6 => have := HLM.out; omega); intro vt6 w6 ho hb hg hat; have HR6 := Aside0.mk (show RfC w6 w.heap.size g v a b c l vl5 vt6 (L ++ [t0]) (T ++ [y0]) from rf_app2 HR5.out hg ho hat); have HB6 := Aside0.mk hb; clear ho hb hg hat) | (go_at_call 34; (with_reducible refine (naskhref22_right.calls k _ c0 l0 _ false _ (Kd.C_below HC.out HB6.out) HCC.out HRT.out).mono ?_); rintro e w7 ⟨rfl, hb⟩; have HR7 := Aside0.mk (show RfC w7 w.heap.size g v a b c l vl5 vt6 (L ++ [t0]) (T ++ [y0]) from rf_below HR6.out hb); have HB7 := Aside0.mk (below_step HB6.out hb); clear hb) | (go_at_call 33; (with_reducible refine (x_isolate (rf_x HR7.out) HG0.out (rf_l HA0.out) (rf_r HA0.out) false).mono ?_); rintro e w8 ⟨v8, rfl, hS, hm⟩; have HR8 := Aside0.mk (show RfC w8 w.heap.size g v8 (isoA a b l false) b (isoC a b c l false) (isoL a b l false) vl5 vt6 (L ++ [t0]) (T ++ [y0]) from rf_stk HR7.out hS hm); have HB8 := Aside0.mk (HB7.out.trans (hm.below HR7.out.1)); clear hS hm))
        go_roundg (l0.length - (i + 1))
        case measure => have := HI.out; have := HLT.out; omega
        case rel => exact ⟨i + 1, ⟨(isoA a b l false), b, (isoC a b c l false), (isoL a b l false), (L ++ [t0]), (T ++ [y0])⟩, v8, by first | rfl | go_num | rw [hw], ⟨by have := HLT.out; omega, rfl⟩, HR8, HBD', HB8, HGO'⟩
      rw [if_neg h19] at hs'
      by_cases h21 : l0.getD i 0 = 21
      · rw [if_pos h21] at hs'
        rw [h21] at hcell
        obtain ⟨r, hr, hs'⟩ := Option.bind_eq_some_iff.mp hs'
        obtain rfl := Option.some.inj hs'
        clear hs'
        dsimp only at hgo' HBD'
        have HG1 := Aside0.mk (show Stk.Good l from HG0.out)
        obtain ⟨y0, hy0⟩ : ∃ z, over (topE l).ov 21 = z := ⟨_, rfl⟩
        have HGV := Aside0.mk (fun (W : World) (h : StkX W w.heap.size g v a b c l) => r_given h HG1.out 21)
        have HTP := Aside0.mk (fun (W : World) (v1 : Value) (h : StkX W w.heap.size g v1 a b c l) => x_top h HG1.out.1 (by have := HG1.out.len; omega))
        rw [hy0] at HGV
        obtain ⟨t0, ht0⟩ : ∃ z, (topE l).lv = z := ⟨_, rfl⟩
        obtain ⟨t1, ht1⟩ : ∃ z, (topE l).ov = z := ⟨_, rfl⟩
        obtain ⟨t2, ht2⟩ : ∃ z, (topE l).iso = z := ⟨_, rfl⟩
        rw [ht0, ht1, ht2] at HTP
        rw [ht0] at hgo' HBD'
        rw [hy0] at hgo' HBD'
        have HGO' := Aside0.mk hgo'
        have hfl : ∀ W : World, (Instr.field 46 (.agg #[.int .i64 t0, .int .i64 t1, .bool t2]) 0).run Try.prog W = .ok (.int .i64 t0) W := fun W => by kernel_rfl
        have HLF := Aside0.mk (show naskhref22_Left.f 21 = some false from by decide)
        have HRT := Aside0.mk hr
        clear hr
        have HLT := Aside0.mk hlt
        clear hy0 ht0 ht1 ht2 hgo' hlt hi2
        clear h16 h14 h17 h15 h20 h19 h21
        go_wp2_with (first | (go_at_call 29; (with_reducible refine (HTP.out _ _ (rf_x HR0.out)).mono ?_); rintro e w2 ⟨rfl, hb⟩; have HR2 := Aside0.mk (show RfC w2 w.heap.size g v a b c l u7 u8 L T from rf_below HR0.out hb); have HB2 := Aside0.mk (below_step HB0.out hb); clear hb) | (go_at_call 30; (with_reducible refine (HGV.out _ (rf_x HR2.out)).mono ?_); rintro e w3 ⟨rfl, hb⟩; have HR3 := Aside0.mk (show RfC w3 w.heap.size g v a b c l u7 u8 L T from rf_below HR2.out hb); have HB3 := Aside0.mk (below_step HB2.out hb); clear hb) | (go_at_call 23; (with_reducible refine (naskhref22_Left.calls 21 false _ HLF.out).mono ?_); rintro e w4 ⟨rfl, hb⟩; have HR4 := Aside0.mk (show RfC w4 w.heap.size g v a b c l u7 u8 L T from rf_below HR3.out hb.below); have HB4 := Aside0.mk (below_step HB3.out hb.below); clear hb) | ((with_reducible refine gate_builtin (b := .append) (xs := #[.tmp 46, .tmp 48]) rfl ?_); (try (refine gate_guard (by rfl) ?_; dsimp only)); at_builtin; refine Kd.R_append kI (w0 := w) w.heap.size rfl (.tmp 46) (.tmp 48) 22 3 (.int .i64 0) 8 rfl Try.underlying22 infoI rfl (by decide) (by omega) u7 L t0 [.int .i64 t0] (fun k => some k ≠ (u8).ownBlock) (fun _ => False) rfl rfl ?aP5 (fun _ hk => hk.elim) ?aF5 ?aO5 ?aB5 ?aS5 ?aL5 ?_; (case aP5 => exact rfl); (case aB5 => exact HB4.out); (case aF5 => exact (fun k hk e => by have := Kd.R_lt (HR4.out.2.2) k e.symm; omega)); (case aO5 => exact HR4.out.2.1); (case aS5 => exact (below_size HB4.out)); (case aL5 => have := HLM.out; omega); intro vl5 w5 ho hb hg hat; have HR5 := Aside0.mk (show RfC w5 w.heap.size g v a b c l vl5 u8 (L ++ [t0]) T from rf_app1 HR4.out hg ho hat); have HB5 := Aside0.mk hb; clear ho hb hg hat) | ((with_reducible refine gate_builtin (b := .append) (xs := #[.tmp 50, .tmp 52]) rfl ?_); (try (refine gate_guard (by rfl) ?_; dsimp only)); at_builtin; refine Kd.R_append kI (w0 := w) w.heap.size rfl (.tmp 50) (.tmp 52) 22 3 (.int .i64 0) 8 rfl Try.underlying22 infoI rfl (by decide) (by omega) u8 T y0 [.int .i64 y0] (fun k => some k ≠ (vl5).ownBlock) (fun _ => False) rfl rfl ?aP6 (fun _ hk => hk.elim) ?aF6 ?aO6 ?aB6 ?aS6 ?aL6 ?_; (case aP6 => exact rfl); (case aB6 => exact HB5.out); (case aF6 => exact (fun k hk e => by have := Kd.R_lt (HR5.out.2.1) k e.symm; omega)); (case aO6 => exact HR5.out.2.2); (case aS6 => exact (below_size HB5.out)); (case aL6 => have := HLM.out; omega); intro vt6 w6 ho hb hg hat; have HR6 := Aside0.mk (show RfC w6 w.heap.size g v a b c l vl5 vt6 (L ++ [t0]) (T ++ [y0]) from rf_app2 HR5.out hg ho hat); have HB6 := Aside0.mk hb; clear ho hb hg hat) | (go_at_call 34; (with_reducible refine (naskhref22_right.calls k _ c0 l0 _ r _ (Kd.C_below HC.out HB6.out) HCC.out HRT.out).mono ?_); rintro e w7 ⟨rfl, hb⟩; have HR7 := Aside0.mk (show RfC w7 w.heap.size g v a b c l vl5 vt6 (L ++ [t0]) (T ++ [y0]) from rf_below HR6.out hb); have HB7 := Aside0.mk (below_step HB6.out hb); clear hb) | (go_at_call 33; (with_reducible refine (x_isolate (rf_x HR7.out) HG0.out (rf_l HA0.out) (rf_r HA0.out) r).mono ?_); rintro e w8 ⟨v8, rfl, hS, hm⟩; have HR8 := Aside0.mk (show RfC w8 w.heap.size g v8 (isoA a b l r) b (isoC a b c l r) (isoL a b l r) vl5 vt6 (L ++ [t0]) (T ++ [y0]) from rf_stk HR7.out hS hm); have HB8 := Aside0.mk (HB7.out.trans (hm.below HR7.out.1)); clear hS hm))
        go_roundg (l0.length - (i + 1))
        case measure => have := HI.out; have := HLT.out; omega
        case rel => exact ⟨i + 1, ⟨(isoA a b l r), b, (isoC a b c l r), (isoL a b l r), (L ++ [t0]), (T ++ [y0])⟩, v8, by first | rfl | go_num | rw [hw], ⟨by have := HLT.out; omega, rfl⟩, HR8, HBD', HB8, HGO'⟩
      rw [if_neg h21] at hs'
      by_cases h22 : l0.getD i 0 = 22
      · rw [if_pos h22] at hs'
        rw [h22] at hcell
        obtain rfl := Option.some.inj hs'
        clear hs'
        dsimp only at hgo' HBD'
        have HG1 := Aside0.mk (show Stk.Good (eiL a c l) from (Went.ei HG0.out).1)
        obtain ⟨y0, hy0⟩ : ∃ z, over (topE (eiL a c l)).ov 22 = z := ⟨_, rfl⟩
        have HGV := Aside0.mk (fun (W : World) (v1 : Value) (h : StkX W w.heap.size g v1 (eiA a) (eiB a b c) (eiC a c) (eiL a c l)) => r_given h HG1.out 22)
        have HTP := Aside0.mk (fun (W : World) (v1 : Value) (h : StkX W w.heap.size g v1 (eiA a) (eiB a b c) (eiC a c) (eiL a c l)) => x_top h HG1.out.1 (by have := HG1.out.len; omega))
        rw [hy0] at HGV
        obtain ⟨t0, ht0⟩ : ∃ z, (topE (eiL a c l)).lv = z := ⟨_, rfl⟩
        obtain ⟨t1, ht1⟩ : ∃ z, (topE (eiL a c l)).ov = z := ⟨_, rfl⟩
        obtain ⟨t2, ht2⟩ : ∃ z, (topE (eiL a c l)).iso = z := ⟨_, rfl⟩
        rw [ht0, ht1, ht2] at HTP
        rw [ht0] at hgo' HBD'
        rw [hy0] at hgo' HBD'
        have HGO' := Aside0.mk hgo'
        have hfl : ∀ W : World, (Instr.field 46 (.agg #[.int .i64 t0, .int .i64 t1, .bool t2]) 0).run Try.prog W = .ok (.int .i64 t0) W := fun W => by kernel_rfl
        have HLF := Aside0.mk (show naskhref22_Left.f 22 = some false from by decide)
        have HLT := Aside0.mk hlt
        clear hy0 ht0 ht1 ht2 hgo' hlt hi2
        clear h16 h14 h17 h15 h20 h19 h21 h22
        go_wp2_with (first | (go_at_call 28; (with_reducible refine (x_endiso (rf_x HR0.out) HG0.out).mono ?_); rintro e w1 ⟨v1, rfl, hS, hm⟩; have HR1 := Aside0.mk (show RfC w1 w.heap.size g v1 (eiA a) (eiB a b c) (eiC a c) (eiL a c l) u7 u8 L T from rf_stk HR0.out hS hm); have HB1 := Aside0.mk (HB0.out.trans (hm.below HR0.out.1)); clear hS hm) | (go_at_call 29; (with_reducible refine (HTP.out _ _ (rf_x HR1.out)).mono ?_); rintro e w2 ⟨rfl, hb⟩; have HR2 := Aside0.mk (show RfC w2 w.heap.size g v1 (eiA a) (eiB a b c) (eiC a c) (eiL a c l) u7 u8 L T from rf_below HR1.out hb); have HB2 := Aside0.mk (below_step HB1.out hb); clear hb) | (go_at_call 30; (with_reducible refine (HGV.out _ _ (rf_x HR2.out)).mono ?_); rintro e w3 ⟨rfl, hb⟩; have HR3 := Aside0.mk (show RfC w3 w.heap.size g v1 (eiA a) (eiB a b c) (eiC a c) (eiL a c l) u7 u8 L T from rf_below HR2.out hb); have HB3 := Aside0.mk (below_step HB2.out hb); clear hb) | (go_at_call 23; (with_reducible refine (naskhref22_Left.calls 22 false _ HLF.out).mono ?_); rintro e w4 ⟨rfl, hb⟩; have HR4 := Aside0.mk (show RfC w4 w.heap.size g v1 (eiA a) (eiB a b c) (eiC a c) (eiL a c l) u7 u8 L T from rf_below HR3.out hb.below); have HB4 := Aside0.mk (below_step HB3.out hb.below); clear hb) | ((with_reducible refine gate_builtin (b := .append) (xs := #[.tmp 46, .tmp 48]) rfl ?_); (try (refine gate_guard (by rfl) ?_; dsimp only)); at_builtin; refine Kd.R_append kI (w0 := w) w.heap.size rfl (.tmp 46) (.tmp 48) 22 3 (.int .i64 0) 8 rfl Try.underlying22 infoI rfl (by decide) (by omega) u7 L t0 [.int .i64 t0] (fun k => some k ≠ (u8).ownBlock) (fun _ => False) rfl rfl ?aP5 (fun _ hk => hk.elim) ?aF5 ?aO5 ?aB5 ?aS5 ?aL5 ?_; (case aP5 => exact rfl); (case aB5 => exact HB4.out); (case aF5 => exact (fun k hk e => by have := Kd.R_lt (HR4.out.2.2) k e.symm; omega)); (case aO5 => exact HR4.out.2.1); (case aS5 => exact (below_size HB4.out)); (case aL5 => have := HLM.out; omega); intro vl5 w5 ho hb hg hat; have HR5 := Aside0.mk (show RfC w5 w.heap.size g v1 (eiA a) (eiB a b c) (eiC a c) (eiL a c l) vl5 u8 (L ++ [t0]) T from rf_app1 HR4.out hg ho hat); have HB5 := Aside0.mk hb; clear ho hb hg hat) | ((with_reducible refine gate_builtin (b := .append) (xs := #[.tmp 50, .tmp 52]) rfl ?_); (try (refine gate_guard (by rfl) ?_; dsimp only)); at_builtin; refine Kd.R_append kI (w0 := w) w.heap.size rfl (.tmp 50) (.tmp 52) 22 3 (.int .i64 0) 8 rfl Try.underlying22 infoI rfl (by decide) (by omega) u8 T y0 [.int .i64 y0] (fun k => some k ≠ (vl5).ownBlock) (fun _ => False) rfl rfl ?aP6 (fun _ hk => hk.elim) ?aF6 ?aO6 ?aB6 ?aS6 ?aL6 ?_; (case aP6 => exact rfl); (case aB6 => exact HB5.out); (case aF6 => exact (fun k hk e => by have := Kd.R_lt (HR5.out.2.1) k e.symm; omega)); (case aO6 => exact HR5.out.2.2); (case aS6 => exact (below_size HB5.out)); (case aL6 => have := HLM.out; omega); intro vt6 w6 ho hb hg hat; have HR6 := Aside0.mk (show RfC w6 w.heap.size g v1 (eiA a) (eiB a b c) (eiC a c) (eiL a c l) vl5 vt6 (L ++ [t0]) (T ++ [y0]) from rf_app2 HR5.out hg ho hat); have HB6 := Aside0.mk hb; clear ho hb hg hat))
        go_roundg (l0.length - (i + 1))
        case measure => have := HI.out; have := HLT.out; omega
        case rel => exact ⟨i + 1, ⟨(eiA a), (eiB a b c), (eiC a c), (eiL a c l), (L ++ [t0]), (T ++ [y0])⟩, v1, by first | rfl | go_num | rw [hw], ⟨by have := HLT.out; omega, rfl⟩, HR6, HBD', HB6, HGO'⟩
      rw [if_neg h22] at hs'
      by_cases h18 : l0.getD i 0 = 18
      · rw [if_pos h18] at hs'
        rw [h18] at hcell
        obtain rfl := Option.some.inj hs'
        clear hs'
        dsimp only at hgo' HBD'
        have HG1 := Aside0.mk (show Stk.Good l from HG0.out)
        obtain ⟨y0, hy0⟩ : ∃ z, over (topE l).ov 18 = z := ⟨_, rfl⟩
        have HGV := Aside0.mk (fun (W : World) (h : StkX W w.heap.size g v a b c l) => r_given h HG1.out 18)
        have HTP := Aside0.mk (fun (W : World) (v1 : Value) (h : StkX W w.heap.size g v1 a b c l) => x_top h HG1.out.1 (by have := HG1.out.len; omega))
        rw [hy0] at HGV
        obtain ⟨t0, ht0⟩ : ∃ z, (topE l).lv = z := ⟨_, rfl⟩
        obtain ⟨t1, ht1⟩ : ∃ z, (topE l).ov = z := ⟨_, rfl⟩
        obtain ⟨t2, ht2⟩ : ∃ z, (topE l).iso = z := ⟨_, rfl⟩
        rw [ht0, ht1, ht2] at HTP
        rw [ht0] at hgo' HBD'
        have HGO' := Aside0.mk hgo'
        have hfl : ∀ W : World, (Instr.field 46 (.agg #[.int .i64 t0, .int .i64 t1, .bool t2]) 0).run Try.prog W = .ok (.int .i64 t0) W := fun W => by kernel_rfl
        have HLF := Aside0.mk (show naskhref22_Left.f 18 = some true from by decide)
        have HLT := Aside0.mk hlt
        clear hy0 ht0 ht1 ht2 hgo' hlt hi2
        clear h16 h14 h17 h15 h20 h19 h21 h22 h18
        go_wp2_with (first | (go_at_call 29; (with_reducible refine (HTP.out _ _ (rf_x HR0.out)).mono ?_); rintro e w2 ⟨rfl, hb⟩; have HR2 := Aside0.mk (show RfC w2 w.heap.size g v a b c l u7 u8 L T from rf_below HR0.out hb); have HB2 := Aside0.mk (below_step HB0.out hb); clear hb) | (go_at_call 30; (with_reducible refine (HGV.out _ (rf_x HR2.out)).mono ?_); rintro e w3 ⟨rfl, hb⟩; have HR3 := Aside0.mk (show RfC w3 w.heap.size g v a b c l u7 u8 L T from rf_below HR2.out hb); have HB3 := Aside0.mk (below_step HB2.out hb); clear hb) | (go_at_call 23; (with_reducible refine (naskhref22_Left.calls 18 true _ HLF.out).mono ?_); rintro e w4 ⟨rfl, hb⟩; have HR4 := Aside0.mk (show RfC w4 w.heap.size g v a b c l u7 u8 L T from rf_below HR3.out hb.below); have HB4 := Aside0.mk (below_step HB3.out hb.below); clear hb) | ((with_reducible refine gate_builtin (b := .append) (xs := #[.tmp 46, .tmp 48]) rfl ?_); (try (refine gate_guard (by rfl) ?_; dsimp only)); at_builtin; refine Kd.R_append kI (w0 := w) w.heap.size rfl (.tmp 46) (.tmp 48) 22 3 (.int .i64 0) 8 rfl Try.underlying22 infoI rfl (by decide) (by omega) u7 L t0 [.int .i64 t0] (fun k => some k ≠ (u8).ownBlock) (fun _ => False) rfl rfl ?aP5 (fun _ hk => hk.elim) ?aF5 ?aO5 ?aB5 ?aS5 ?aL5 ?_; (case aP5 => exact rfl); (case aB5 => exact HB4.out); (case aF5 => exact (fun k hk e => by have := Kd.R_lt (HR4.out.2.2) k e.symm; omega)); (case aO5 => exact HR4.out.2.1); (case aS5 => exact (below_size HB4.out)); (case aL5 => have := HLM.out; omega); intro vl5 w5 ho hb hg hat; have HR5 := Aside0.mk (show RfC w5 w.heap.size g v a b c l vl5 u8 (L ++ [t0]) T from rf_app1 HR4.out hg ho hat); have HB5 := Aside0.mk hb; clear ho hb hg hat) | ((with_reducible refine gate_builtin (b := .append) (xs := #[.tmp 50, .tmp 52]) rfl ?_); (try (refine gate_guard (by rfl) ?_; dsimp only)); at_builtin; refine Kd.R_append kI (w0 := w) w.heap.size rfl (.tmp 50) (.tmp 52) 22 3 (.int .i64 0) 8 rfl Try.underlying22 infoI rfl (by decide) (by omega) u8 T 9 [.int .i64 9] (fun k => some k ≠ (vl5).ownBlock) (fun _ => False) rfl rfl ?aP6 (fun _ hk => hk.elim) ?aF6 ?aO6 ?aB6 ?aS6 ?aL6 ?_; (case aP6 => exact rfl); (case aB6 => exact HB5.out); (case aF6 => exact (fun k hk e => by have := Kd.R_lt (HR5.out.2.1) k e.symm; omega)); (case aO6 => exact HR5.out.2.2); (case aS6 => exact (below_size HB5.out)); (case aL6 => have := HLM.out; omega); intro vt6 w6 ho hb hg hat; have HR6 := Aside0.mk (show RfC w6 w.heap.size g v a b c l vl5 vt6 (L ++ [t0]) (T ++ [9]) from rf_app2 HR5.out hg ho hat); have HB6 := Aside0.mk hb; clear ho hb hg hat) | (go_at_call 32; (with_reducible refine (x_endembed (rf_x HR6.out) HG0.out).mono ?_); rintro e w8 ⟨v8, rfl, hS, hm⟩; have HR8 := Aside0.mk (show RfC w8 w.heap.size g v8 a (eeB a b) c (eeL a b l) vl5 vt6 (L ++ [t0]) (T ++ [9]) from rf_stk HR6.out hS hm); have HB8 := Aside0.mk (HB6.out.trans (hm.below HR6.out.1)); clear hS hm))
        go_roundg (l0.length - (i + 1))
        case measure => have := HI.out; have := HLT.out; omega
        case rel => exact ⟨i + 1, ⟨a, (eeB a b), c, (eeL a b l), (L ++ [t0]), (T ++ [9])⟩, v8, by first | rfl | go_num | rw [hw], ⟨by have := HLT.out; omega, rfl⟩, HR8, HBD', HB8, HGO'⟩
      rw [if_neg h18] at hs'
      by_cases h9 : l0.getD i 0 = 9
      · rw [if_pos h9] at hs'
        rw [h9] at hcell
        obtain rfl := Option.some.inj hs'
        clear hs'
        dsimp only at hgo' HBD'
        have HG1 := Aside0.mk (show Stk.Good l from HG0.out)
        obtain ⟨y0, hy0⟩ : ∃ z, over (topE l).ov 9 = z := ⟨_, rfl⟩
        have HGV := Aside0.mk (fun (W : World) (h : StkX W w.heap.size g v a b c l) => r_given h HG1.out 9)
        have HTP := Aside0.mk (fun (W : World) (v1 : Value) (h : StkX W w.heap.size g v1 a b c l) => x_top h HG1.out.1 (by have := HG1.out.len; omega))
        rw [hy0] at HGV
        obtain ⟨t0, ht0⟩ : ∃ z, (topE l).lv = z := ⟨_, rfl⟩
        obtain ⟨t1, ht1⟩ : ∃ z, (topE l).ov = z := ⟨_, rfl⟩
        obtain ⟨t2, ht2⟩ : ∃ z, (topE l).iso = z := ⟨_, rfl⟩
        rw [ht0, ht1, ht2] at HTP
        rw [ht0] at hgo' HBD'
        have HGO' := Aside0.mk hgo'
        have hfl : ∀ W : World, (Instr.field 46 (.agg #[.int .i64 t0, .int .i64 t1, .bool t2]) 0).run Try.prog W = .ok (.int .i64 t0) W := fun W => by kernel_rfl
        have HLF := Aside0.mk (show naskhref22_Left.f 9 = some true from by decide)
        have HLT := Aside0.mk hlt
        clear hy0 ht0 ht1 ht2 hgo' hlt hi2
        clear h16 h14 h17 h15 h20 h19 h21 h22 h18 h9
        go_wp2_with (first | (go_at_call 29; (with_reducible refine (HTP.out _ _ (rf_x HR0.out)).mono ?_); rintro e w2 ⟨rfl, hb⟩; have HR2 := Aside0.mk (show RfC w2 w.heap.size g v a b c l u7 u8 L T from rf_below HR0.out hb); have HB2 := Aside0.mk (below_step HB0.out hb); clear hb) | (go_at_call 30; (with_reducible refine (HGV.out _ (rf_x HR2.out)).mono ?_); rintro e w3 ⟨rfl, hb⟩; have HR3 := Aside0.mk (show RfC w3 w.heap.size g v a b c l u7 u8 L T from rf_below HR2.out hb); have HB3 := Aside0.mk (below_step HB2.out hb); clear hb) | (go_at_call 23; (with_reducible refine (naskhref22_Left.calls 9 true _ HLF.out).mono ?_); rintro e w4 ⟨rfl, hb⟩; have HR4 := Aside0.mk (show RfC w4 w.heap.size g v a b c l u7 u8 L T from rf_below HR3.out hb.below); have HB4 := Aside0.mk (below_step HB3.out hb.below); clear hb) | ((with_reducible refine gate_builtin (b := .append) (xs := #[.tmp 46, .tmp 48]) rfl ?_); (try (refine gate_guard (by rfl) ?_; dsimp only)); at_builtin; refine Kd.R_append kI (w0 := w) w.heap.size rfl (.tmp 46) (.tmp 48) 22 3 (.int .i64 0) 8 rfl Try.underlying22 infoI rfl (by decide) (by omega) u7 L t0 [.int .i64 t0] (fun k => some k ≠ (u8).ownBlock) (fun _ => False) rfl rfl ?aP5 (fun _ hk => hk.elim) ?aF5 ?aO5 ?aB5 ?aS5 ?aL5 ?_; (case aP5 => exact rfl); (case aB5 => exact HB4.out); (case aF5 => exact (fun k hk e => by have := Kd.R_lt (HR4.out.2.2) k e.symm; omega)); (case aO5 => exact HR4.out.2.1); (case aS5 => exact (below_size HB4.out)); (case aL5 => have := HLM.out; omega); intro vl5 w5 ho hb hg hat; have HR5 := Aside0.mk (show RfC w5 w.heap.size g v a b c l vl5 u8 (L ++ [t0]) T from rf_app1 HR4.out hg ho hat); have HB5 := Aside0.mk hb; clear ho hb hg hat) | ((with_reducible refine gate_builtin (b := .append) (xs := #[.tmp 50, .tmp 52]) rfl ?_); (try (refine gate_guard (by rfl) ?_; dsimp only)); at_builtin; refine Kd.R_append kI (w0 := w) w.heap.size rfl (.tmp 50) (.tmp 52) 22 3 (.int .i64 0) 8 rfl Try.underlying22 infoI rfl (by decide) (by omega) u8 T 9 [.int .i64 9] (fun k => some k ≠ (vl5).ownBlock) (fun _ => False) rfl rfl ?aP6 (fun _ hk => hk.elim) ?aF6 ?aO6 ?aB6 ?aS6 ?aL6 ?_; (case aP6 => exact rfl); (case aB6 => exact HB5.out); (case aF6 => exact (fun k hk e => by have := Kd.R_lt (HR5.out.2.1) k e.symm; omega)); (case aO6 => exact HR5.out.2.2); (case aS6 => exact (below_size HB5.out)); (case aL6 => have := HLM.out; omega); intro vt6 w6 ho hb hg hat; have HR6 := Aside0.mk (show RfC w6 w.heap.size g v a b c l vl5 vt6 (L ++ [t0]) (T ++ [9]) from rf_app2 HR5.out hg ho hat); have HB6 := Aside0.mk hb; clear ho hb hg hat))
        go_roundg (l0.length - (i + 1))
        case measure => have := HI.out; have := HLT.out; omega
        case rel => exact ⟨i + 1, ⟨a, b, c, l, (L ++ [t0]), (T ++ [9])⟩, v, by first | rfl | go_num | rw [hw], ⟨by have := HLT.out; omega, rfl⟩, HR6, HBD', HB6, HGO'⟩
      rw [if_neg h9] at hs'
      by_cases h10 : l0.getD i 0 = 10
      · rw [if_pos h10] at hs'
        rw [h10] at hcell
        obtain rfl := Option.some.inj hs'
        clear hs'
        dsimp only at hgo' HBD'
        have HG1 := Aside0.mk (show Stk.Good l from HG0.out)
        obtain ⟨y0, hy0⟩ : ∃ z, over (topE l).ov 10 = z := ⟨_, rfl⟩
        have HGV := Aside0.mk (fun (W : World) (h : StkX W w.heap.size g v a b c l) => r_given h HG1.out 10)
        have HTP := Aside0.mk (fun (W : World) (v1 : Value) (h : StkX W w.heap.size g v1 a b c l) => x_top h HG1.out.1 (by have := HG1.out.len; omega))
        rw [hy0] at HGV
        obtain ⟨t0, ht0⟩ : ∃ z, (topE l).lv = z := ⟨_, rfl⟩
        obtain ⟨t1, ht1⟩ : ∃ z, (topE l).ov = z := ⟨_, rfl⟩
        obtain ⟨t2, ht2⟩ : ∃ z, (topE l).iso = z := ⟨_, rfl⟩
        rw [ht0, ht1, ht2] at HTP
        have HGO' := Aside0.mk hgo'
        have hfl : ∀ W : World, (Instr.field 46 (.agg #[.int .i64 t0, .int .i64 t1, .bool t2]) 0).run Try.prog W = .ok (.int .i64 t0) W := fun W => by kernel_rfl
        have HLT := Aside0.mk hlt
        clear hy0 ht0 ht1 ht2 hgo' hlt hi2
        clear h16 h14 h17 h15 h20 h19 h21 h22 h18 h9 h10
        go_wp2_with (first | (go_at_call 29; (with_reducible refine (HTP.out _ _ (rf_x HR0.out)).mono ?_); rintro e w2 ⟨rfl, hb⟩; have HR2 := Aside0.mk (show RfC w2 w.heap.size g v a b c l u7 u8 L T from rf_below HR0.out hb); have HB2 := Aside0.mk (below_step HB0.out hb); clear hb) | (go_at_call 30; (with_reducible refine (HGV.out _ (rf_x HR2.out)).mono ?_); rintro e w3 ⟨rfl, hb⟩; have HR3 := Aside0.mk (show RfC w3 w.heap.size g v a b c l u7 u8 L T from rf_below HR2.out hb); have HB3 := Aside0.mk (below_step HB2.out hb); clear hb) | ((with_reducible refine gate_builtin (b := .append) (xs := #[.tmp 46, .tmp 48]) rfl ?_); (try (refine gate_guard (by rfl) ?_; dsimp only)); at_builtin; refine Kd.R_append kI (w0 := w) w.heap.size rfl (.tmp 46) (.tmp 48) 22 3 (.int .i64 0) 8 rfl Try.underlying22 infoI rfl (by decide) (by omega) u7 L bs [.int .i64 bs] (fun k => some k ≠ (u8).ownBlock) (fun _ => False) rfl rfl ?aP5 (fun _ hk => hk.elim) ?aF5 ?aO5 ?aB5 ?aS5 ?aL5 ?_; (case aP5 => exact rfl); (case aB5 => exact HB3.out); (case aF5 => exact (fun k hk e => by have := Kd.R_lt (HR3.out.2.2) k e.symm; omega)); (case aO5 => exact HR3.out.2.1); (case aS5 => exact (below_size HB3.out)); (case aL5 => have := HLM.out; omega); intro vl5 w5 ho hb hg hat; have HR5 := Aside0.mk (show RfC w5 w.heap.size g v a b c l vl5 u8 (L ++ [bs]) T from rf_app1 HR3.out hg ho hat); have HB5 := Aside0.mk hb; clear ho hb hg hat) | ((with_reducible refine gate_builtin (b := .append) (xs := #[.tmp 50, .tmp 52]) rfl ?_); (try (refine gate_guard (by rfl) ?_; dsimp only)); at_builtin; refine Kd.R_append kI (w0 := w) w.heap.size rfl (.tmp 50) (.tmp 52) 22 3 (.int .i64 0) 8 rfl Try.underlying22 infoI rfl (by decide) (by omega) u8 T 10 [.int .i64 10] (fun k => some k ≠ (vl5).ownBlock) (fun _ => False) rfl rfl ?aP6 (fun _ hk => hk.elim) ?aF6 ?aO6 ?aB6 ?aS6 ?aL6 ?_; (case aP6 => exact rfl); (case aB6 => exact HB5.out); (case aF6 => exact (fun k hk e => by have := Kd.R_lt (HR5.out.2.1) k e.symm; omega)); (case aO6 => exact HR5.out.2.2); (case aS6 => exact (below_size HB5.out)); (case aL6 => have := HLM.out; omega); intro vt6 w6 ho hb hg hat; have HR6 := Aside0.mk (show RfC w6 w.heap.size g v a b c l vl5 vt6 (L ++ [bs]) (T ++ [10]) from rf_app2 HR5.out hg ho hat); have HB6 := Aside0.mk hb; clear ho hb hg hat))
        go_roundg (l0.length - (i + 1))
        case measure => have := HI.out; have := HLT.out; omega
        case rel => exact ⟨i + 1, ⟨a, b, c, l, (L ++ [bs]), (T ++ [10])⟩, v, by first | rfl | go_num | rw [hw], ⟨by have := HLT.out; omega, rfl⟩, HR6, HBD', HB6, HGO'⟩
      rw [if_neg h10] at hs'
      generalize l0.getD i 0 = y at hs' hcell h16 h14 h17 h15 h20 h19 h21 h22 h18 h9 h10
      obtain rfl := Option.some.inj hs'
      clear hs'
      dsimp only at hgo' HBD'
      have HG1 := Aside0.mk (show Stk.Good l from HG0.out)
      obtain ⟨y0, hy0⟩ : ∃ z, over (topE l).ov y = z := ⟨_, rfl⟩
      have HGV := Aside0.mk (fun (W : World) (h : StkX W w.heap.size g v a b c l) => r_given h HG1.out y)
      have HTP := Aside0.mk (fun (W : World) (v1 : Value) (h : StkX W w.heap.size g v1 a b c l) => x_top h HG1.out.1 (by have := HG1.out.len; omega))
      rw [hy0] at HGV
      obtain ⟨t0, ht0⟩ : ∃ z, (topE l).lv = z := ⟨_, rfl⟩
      obtain ⟨t1, ht1⟩ : ∃ z, (topE l).ov = z := ⟨_, rfl⟩
      obtain ⟨t2, ht2⟩ : ∃ z, (topE l).iso = z := ⟨_, rfl⟩
      rw [ht0, ht1, ht2] at HTP
      rw [ht0] at hgo' HBD'
      rw [hy0] at hgo' HBD'
      have HGO' := Aside0.mk hgo'
      have hfl : ∀ W : World, (Instr.field 46 (.agg #[.int .i64 t0, .int .i64 t1, .bool t2]) 0).run Try.prog W = .ok (.int .i64 t0) W := fun W => by kernel_rfl
      have HLF := Aside0.mk (show naskhref22_Left.f y = some false from (by unfold naskhref22_Left.f; (repeat' split) <;> first | omega | (congr 1; exact beq_eq_false_iff_ne.mpr h9)))
      have HLT := Aside0.mk hlt
      clear hy0 ht0 ht1 ht2 hgo' hlt hi2
      have e16 : (y == 16) = false := beq_eq_false_iff_ne.mpr h16
      have e14 : (y == 14) = false := beq_eq_false_iff_ne.mpr h14
      have e17 : (y == 17) = false := beq_eq_false_iff_ne.mpr h17
      have e15 : (y == 15) = false := beq_eq_false_iff_ne.mpr h15
      have e20 : (y == 20) = false := beq_eq_false_iff_ne.mpr h20
      have e19 : (y == 19) = false := beq_eq_false_iff_ne.mpr h19
      have e21 : (y == 21) = false := beq_eq_false_iff_ne.mpr h21
      have e22 : (y == 22) = false := beq_eq_false_iff_ne.mpr h22
      have e18 : (y == 18) = false := beq_eq_false_iff_ne.mpr h18
      have e9 : (y == 9) = false := beq_eq_false_iff_ne.mpr h9
      have e10 : (y == 10) = false := beq_eq_false_iff_ne.mpr h10
      clear h16 h14 h17 h15 h20 h19 h21 h22 h18 h9 h10
      go_wp2_with (first | (go_at_call 29; (with_reducible refine (HTP.out _ _ (rf_x HR0.out)).mono ?_); rintro e w2 ⟨rfl, hb⟩; have HR2 := Aside0.mk (show RfC w2 w.heap.size g v a b c l u7 u8 L T from rf_below HR0.out hb); have HB2 := Aside0.mk (below_step HB0.out hb); clear hb) | (go_at_call 30; (with_reducible refine (HGV.out _ (rf_x HR2.out)).mono ?_); rintro e w3 ⟨rfl, hb⟩; have HR3 := Aside0.mk (show RfC w3 w.heap.size g v a b c l u7 u8 L T from rf_below HR2.out hb); have HB3 := Aside0.mk (below_step HB2.out hb); clear hb) | (go_at_call 23; (with_reducible refine (naskhref22_Left.calls y false _ HLF.out).mono ?_); rintro e w4 ⟨rfl, hb⟩; have HR4 := Aside0.mk (show RfC w4 w.heap.size g v a b c l u7 u8 L T from rf_below HR3.out hb.below); have HB4 := Aside0.mk (below_step HB3.out hb.below); clear hb) | ((with_reducible refine gate_builtin (b := .append) (xs := #[.tmp 46, .tmp 48]) rfl ?_); (try (refine gate_guard (by rfl) ?_; dsimp only)); at_builtin; refine Kd.R_append kI (w0 := w) w.heap.size rfl (.tmp 46) (.tmp 48) 22 3 (.int .i64 0) 8 rfl Try.underlying22 infoI rfl (by decide) (by omega) u7 L t0 [.int .i64 t0] (fun k => some k ≠ (u8).ownBlock) (fun _ => False) rfl rfl ?aP5 (fun _ hk => hk.elim) ?aF5 ?aO5 ?aB5 ?aS5 ?aL5 ?_; (case aP5 => exact rfl); (case aB5 => exact HB4.out); (case aF5 => exact (fun k hk e => by have := Kd.R_lt (HR4.out.2.2) k e.symm; omega)); (case aO5 => exact HR4.out.2.1); (case aS5 => exact (below_size HB4.out)); (case aL5 => have := HLM.out; omega); intro vl5 w5 ho hb hg hat; have HR5 := Aside0.mk (show RfC w5 w.heap.size g v a b c l vl5 u8 (L ++ [t0]) T from rf_app1 HR4.out hg ho hat); have HB5 := Aside0.mk hb; clear ho hb hg hat) | ((with_reducible refine gate_builtin (b := .append) (xs := #[.tmp 50, .tmp 52]) rfl ?_); (try (refine gate_guard (by rfl) ?_; dsimp only)); at_builtin; refine Kd.R_append kI (w0 := w) w.heap.size rfl (.tmp 50) (.tmp 52) 22 3 (.int .i64 0) 8 rfl Try.underlying22 infoI rfl (by decide) (by omega) u8 T y0 [.int .i64 y0] (fun k => some k ≠ (vl5).ownBlock) (fun _ => False) rfl rfl ?aP6 (fun _ hk => hk.elim) ?aF6 ?aO6 ?aB6 ?aS6 ?aL6 ?_; (case aP6 => exact rfl); (case aB6 => exact HB5.out); (case aF6 => exact (fun k hk e => by have := Kd.R_lt (HR5.out.2.1) k e.symm; omega)); (case aO6 => exact HR5.out.2.2); (case aS6 => exact (below_size HB5.out)); (case aL6 => have := HLM.out; omega); intro vt6 w6 ho hb hg hat; have HR6 := Aside0.mk (show RfC w6 w.heap.size g v a b c l vl5 vt6 (L ++ [t0]) (T ++ [y0]) from rf_app2 HR5.out hg ho hat); have HB6 := Aside0.mk hb; clear ho hb hg hat))
      go_roundg (l0.length - (i + 1))
      case measure => have := HI.out; have := HLT.out; omega
      case rel => exact ⟨i + 1, ⟨a, b, c, l, (L ++ [t0]), (T ++ [y0])⟩, v, by first | rfl | go_num | rw [hw], ⟨by have := HLT.out; omega, rfl⟩, HR6, HBD', HB6, HGO'⟩
    · have b0 : decide ((i : Int) < (l0.length : Int)) = false := decide_eq_false (by omega)
      have b1 : decide (i < l0.length) = false := decide_eq_false hlt
      have HE := Aside0.mk (show s = sF from by have z := HGO.out; rw [show l0.length - i = 0 by omega, naskhref22_Levels.go] at z; exact Option.some.inj z)
      clear hlt
      go_wp2
      go_ret2
      exact ⟨_, _, by first | rfl | simp, by rw [← HE.out]; exact HR0.out.2.1, by rw [← HE.out]; exact HR0.out.2.2, HB0.out⟩
end

/-! ### slices_Equal_int_int: function 19 -/
def slices_Equal_int_int.l0 : Nat → List Int → List Int → Int → Int → Option (Bool)
  | 0, _, _, _, _ => none
  | k + 1, x0, x1, x12, x13 => if x13 < x12 then (if 0 ≤ x13 then (if x13 < (x0.length : Int) then (if x13 < (x1.length : Int) then (if (rd x0 x13) = (rd x1 x13) then (slices_Equal_int_int.l0 k x0 x1 x12 (wrap64 (x13 + 1))) else (some false)) else (none)) else (none)) else (none)) else (some true)
def slices_Equal_int_int.f (k : Nat) (l0 : List Int) (l1 : List Int) : Option (Bool) := if (l0.length : Int) = (l1.length : Int) then (slices_Equal_int_int.l0 k l0 l1 (l0.length : Int) 0) else (some false)
theorem slices_Equal_int_int.mono_l : ∀ k, (∀ y0 y1 y2 y3, LeO (slices_Equal_int_int.l0 k y0 y1 y2 y3) (slices_Equal_int_int.l0 (k + 1) y0 y1 y2 y3))
  | 0 => fun _ _ _ _ r h => by simp [slices_Equal_int_int.l0] at h
  | k + 1 => by
    have ih0 := slices_Equal_int_int.mono_l k
    · intro y0 y1 y2 y3
      unfold slices_Equal_int_int.l0
      repeat' first
      | (with_reducible exact ih0 _ _ _ _)
      | (with_reducible exact LeO.refl _)
      | (with_reducible exact LeO.none _)
      | (with_reducible refine LeO.ite ?_ ?_)
      | (with_reducible refine LeO.bind ?_ (fun _ => ?_))
      | exact ih0 _ _ _ _
      | exact LeO.none _
      | refine LeO.ite ?_ ?_
      | refine LeO.bind ?_ (fun _ => ?_)
theorem slices_Equal_int_int.mono : ∀ a0 a1 k, LeO (slices_Equal_int_int.f k a0 a1) (slices_Equal_int_int.f (k + 1) a0 a1) := by
  intro a0 a1 k
  have ih0 := slices_Equal_int_int.mono_l k
  unfold slices_Equal_int_int.f
  repeat' first
      | (with_reducible exact ih0 _ _ _ _)
      | (with_reducible exact LeO.refl _)
      | (with_reducible exact LeO.none _)
      | (with_reducible refine LeO.ite ?_ ?_)
      | (with_reducible refine LeO.bind ?_ (fun _ => ?_))
      | exact ih0 _ _ _ _
      | exact LeO.none _
      | refine LeO.ite ?_ ?_
      | refine LeO.bind ?_ (fun _ => ?_)
set_option maxHeartbeats 8000000 in
set_option maxRecDepth 100000 in
theorem slices_Equal_int_int.calls (k : Nat) (A0 : Option Addr) (c0 : Nat) (l0 : List Int) (A1 : Option Addr) (c1 : Nat) (l1 : List Int) (r : Bool) (w : World) (hr0 : Kd.C (Kd.int .i64) w A0 l0.length l0) (hc0 : l0.length ≤ c0) (hr1 : Kd.C (Kd.int .i64) w A1 l1.length l1) (hc1 : l1.length ≤ c1) (h : slices_Equal_int_int.f k l0 l1 = some r) :
    Calls Try.prog 19 #[.slice A0 l0.length c0, .slice A1 l1.length c1] w fun e w' => e = .returned (.bool r) ∧ Drawn0 w w' := by
  have HR0 := Aside0.mk hr0
  have HC0 := Aside0.mk hc0
  clear hr0 hc0
  have HR1 := Aside0.mk hr1
  have HC1 := Aside0.mk hc1
  clear hr1 hc1
  have H : (if (l0.length : Int) = (l1.length : Int) then (slices_Equal_int_int.l0 k l0 l1 (l0.length : Int) 0) else (some false)) = some r := h
  clear h
  by_cases c3 : (l0.length : Int) = (l1.length : Int)
  · rw [if_pos c3] at H
    have c3b0 : ((l0.length : Int) == (l1.length : Int)) = true := beq_iff_eq.mpr c3
    have c3b1 : ((l0.length : Int) != (l1.length : Int)) = false := bne_eq_false_iff_eq.mpr c3
    have c3b2 : (l0.length == l1.length) = true := by first | simpa using c3 | (simp at c3 ⊢; omega)
    clear c3
    have H' := Aside0.mk H
    clear H
    go_enter Try.func19, Try.ntmps19
    go_wp2
    repeat (go_quiet (fail); try go_wp2)
    go_loopg [13] k (fun kq v13 w' => ∃ (x13_1 : Int), v13 = .int .i64 x13_1 ∧ Aside0 (slices_Equal_int_int.l0 kq l0 l1 (l0.length : Int) x13_1 = some r) ∧ Aside0 (kq ≤ k) ∧ Drawn0 w w')
    case atStart => exact ⟨(0), (by first | rfl | (simp; done) | (simp [*]; done)), H', ⟨Nat.le_refl _⟩, by repeat (first | exact Drawn0.refl _ | apply Drawn0.step)⟩
    case round =>
      clear H'
      try clear c1
      try clear p2
      try clear c3
      try clear c3b0
      try clear c3b1
      try clear c3b2
      obtain ⟨x13_1, rfl, HA, HK1, ⟨m1, rfl⟩⟩ := hrel
      cases gk with
      | zero => exact absurd HA.out (by simp [slices_Equal_int_int.l0])
      | succ k1 =>
        have H := HA.out
        clear HA
        simp only [slices_Equal_int_int.l0] at H
        by_cases c4 : x13_1 < (l0.length : Int)
        · rw [if_pos c4] at H
          have c4b0 : decide (x13_1 < (l0.length : Int)) = true := decide_eq_true c4
          clear c4
          by_cases c5 : 0 ≤ x13_1
          · rw [if_pos c5] at H
            have c5b0 : decide (0 ≤ x13_1) = true := decide_eq_true c5
            clear c5
            by_cases c6 : x13_1 < (l0.length : Int)
            · rw [if_pos c6] at H
              have c6b0 : decide (x13_1 < (l0.length : Int)) = true := decide_eq_true c6
              clear c6
              by_cases c7 : x13_1 < (l1.length : Int)
              · rw [if_pos c7] at H
                have c7b0 : decide (x13_1 < (l1.length : Int)) = true := decide_eq_true c7
                clear c7
                by_cases c8 : (rd l0 x13_1) = (rd l1 x13_1)
                · rw [if_pos c8] at H
                  have c8b0 : ((rd l0 x13_1) == (rd l1 x13_1)) = true := beq_iff_eq.mpr c8
                  have c8b1 : ((rd l0 x13_1) != (rd l1 x13_1)) = false := bne_eq_false_iff_eq.mpr c8
                  clear c8
                  have H' := Aside0.mk H
                  clear H
                  have p139 : 0 ≤ (x13_1 : Int) := of_decide_eq_true (by first | (with_reducible assumption) | assumption)
                  have q139 : x13_1 < (l0.length : Int) := of_decide_eq_true (by first | (with_reducible assumption) | assumption)
                  obtain ⟨ad139, e139, hx139_0⟩ := Kd.at_int HR0.out x13_1 p139 q139
                  cases e139
                  replace p139 := eq_true p139
                  replace q139 := eq_true q139
                  have p140 : 0 ≤ (x13_1 : Int) := of_decide_eq_true (by first | (with_reducible assumption) | assumption)
                  have q140 : x13_1 < (l1.length : Int) := of_decide_eq_true (by first | (with_reducible assumption) | assumption)
                  obtain ⟨ad140, e140, hx140_0⟩ := Kd.at_int HR1.out x13_1 p140 q140
                  cases e140
                  replace p140 := eq_true p140
                  replace q140 := eq_true q140
                  go_wp2
                  repeat (go_quiet (fail); try go_wp2)
                  go_roundg k1
                  case measure => have := HK1.out; omega
                  case rel => exact ⟨(wrap64 (x13_1 + 1)), (by first | rfl | (simp; done) | (simp [*]; done)), H', ⟨by have := HK1.out; omega⟩, by repeat (first | exact Drawn0.refl _ | apply Drawn0.step)⟩
                · rw [if_neg c8] at H
                  have c8b0 : ((rd l0 x13_1) == (rd l1 x13_1)) = false := beq_eq_false_iff_ne.mpr c8
                  have c8b1 : ((rd l0 x13_1) != (rd l1 x13_1)) = true := bne_iff_ne.mpr c8
                  obtain rfl := Option.some.inj H
                  have p139 : 0 ≤ (x13_1 : Int) := of_decide_eq_true (by first | (with_reducible assumption) | assumption)
                  have q139 : x13_1 < (l0.length : Int) := of_decide_eq_true (by first | (with_reducible assumption) | assumption)
                  obtain ⟨ad139, e139, hx139_0⟩ := Kd.at_int HR0.out x13_1 p139 q139
                  cases e139
                  replace p139 := eq_true p139
                  replace q139 := eq_true q139
                  have p140 : 0 ≤ (x13_1 : Int) := of_decide_eq_true (by first | (with_reducible assumption) | assumption)
                  have q140 : x13_1 < (l1.length : Int) := of_decide_eq_true (by first | (with_reducible assumption) | assumption)
                  obtain ⟨ad140, e140, hx140_0⟩ := Kd.at_int HR1.out x13_1 p140 q140
                  cases e140
                  replace p140 := eq_true p140
                  replace q140 := eq_true q140
                  go_wp2
                  repeat (go_quiet (fail); try go_wp2)
                  go_ret
                  exact ⟨by first | rfl | (simp; done) | (simp [*]; done), by repeat (first | exact Drawn0.refl _ | apply Drawn0.step)⟩
              · rw [if_neg c7] at H
                exact absurd H (by simp)
            · rw [if_neg c6] at H
              exact absurd H (by simp)
          · rw [if_neg c5] at H
            exact absurd H (by simp)
        · rw [if_neg c4] at H
          have c4b0 : decide (x13_1 < (l0.length : Int)) = false := decide_eq_false c4
          clear c4
          obtain rfl := Option.some.inj H
          go_wp2
          repeat (go_quiet (fail); try go_wp2)
          go_ret
          exact ⟨by first | rfl | (simp; done) | (simp [*]; done), by repeat (first | exact Drawn0.refl _ | apply Drawn0.step)⟩
  · rw [if_neg c3] at H
    have c3b0 : ((l0.length : Int) == (l1.length : Int)) = false := beq_eq_false_iff_ne.mpr c3
    have c3b1 : ((l0.length : Int) != (l1.length : Int)) = true := bne_iff_ne.mpr c3
    have c3b2 : (l0.length == l1.length) = false := by first | simpa using c3 | (simp at c3 ⊢; omega)
    obtain rfl := Option.some.inj H
    go_enter Try.func19, Try.ntmps19
    go_wp2
    repeat (go_quiet (fail); try go_wp2)
    go_ret
    exact ⟨by first | rfl | (simp; done) | (simp [*]; done), by repeat (first | exact Drawn0.refl _ | apply Drawn0.step)⟩

-- NOT PRINTED: function 44 (stack_New)

/-! ### bits_Mul32: function 74 -/
def bits_Mul32.f (a0 : Int) (a1 : Int) : Option (Int × Int) := some (((IntKind.u64.wrap ((IntKind.u64.wrap (a0)) * (IntKind.u64.wrap (a1)))) / 4294967296) % 4294967296, (IntKind.u64.wrap ((IntKind.u64.wrap (a0)) * (IntKind.u64.wrap (a1)))) % 4294967296)
set_option maxHeartbeats 8000000 in
set_option maxRecDepth 100000 in
theorem bits_Mul32.calls (a0 : Int) (a1 : Int) (r1 : Int) (r2 : Int) (w : World) (h : bits_Mul32.f a0 a1 = some (r1, r2)) :
    Calls Try.prog 74 #[.int .u32 a0, .int .u32 a1] w fun e w' => e = .returned (.tuple #[.int .u32 r1, .int .u32 r2]) ∧ Drawn0 w w' := by
  have H : (some (((IntKind.u64.wrap ((IntKind.u64.wrap (a0)) * (IntKind.u64.wrap (a1)))) / 4294967296) % 4294967296, (IntKind.u64.wrap ((IntKind.u64.wrap (a0)) * (IntKind.u64.wrap (a1)))) % 4294967296)) = some (r1, r2) := h
  clear h
  simp only [Option.some.injEq, Prod.mk.injEq] at H
  obtain ⟨rfl, rfl⟩ := H
  go_enter Try.func74, Try.ntmps74
  go_wp2
  go_ret2
  exact ⟨by first | rfl | (simp; done) | (simp [*]; done), by repeat (first | exact Drawn0.refl _ | apply Drawn0.step)⟩

/-! ### bits_Mul64: function 75 -/
def bits_Mul64.f (a0 : Int) (a1 : Int) : Option (Int × Int) := some (IntKind.u64.wrap ((IntKind.u64.wrap ((IntKind.u64.wrap ((a0 / 4294967296) * (a1 / 4294967296))) + ((IntKind.u64.wrap ((IntKind.u64.wrap ((a0 / 4294967296) * (Go.bits .and .u64 a1 4294967295))) + ((IntKind.u64.wrap ((Go.bits .and .u64 a0 4294967295) * (Go.bits .and .u64 a1 4294967295))) / 4294967296))) / 4294967296))) + ((IntKind.u64.wrap ((Go.bits .and .u64 (IntKind.u64.wrap ((IntKind.u64.wrap ((a0 / 4294967296) * (Go.bits .and .u64 a1 4294967295))) + ((IntKind.u64.wrap ((Go.bits .and .u64 a0 4294967295) * (Go.bits .and .u64 a1 4294967295))) / 4294967296))) 4294967295) + (IntKind.u64.wrap ((Go.bits .and .u64 a0 4294967295) * (a1 / 4294967296))))) / 4294967296)), IntKind.u64.wrap (a0 * a1))
set_option maxHeartbeats 8000000 in
set_option maxRecDepth 100000 in
theorem bits_Mul64.calls (a0 : Int) (a1 : Int) (r1 : Int) (r2 : Int) (w : World) (h : bits_Mul64.f a0 a1 = some (r1, r2)) :
    Calls Try.prog 75 #[.int .u64 a0, .int .u64 a1] w fun e w' => e = .returned (.tuple #[.int .u64 r1, .int .u64 r2]) ∧ Drawn0 w w' := by
  have H : (some (IntKind.u64.wrap ((IntKind.u64.wrap ((IntKind.u64.wrap ((a0 / 4294967296) * (a1 / 4294967296))) + ((IntKind.u64.wrap ((IntKind.u64.wrap ((a0 / 4294967296) * (Go.bits .and .u64 a1 4294967295))) + ((IntKind.u64.wrap ((Go.bits .and .u64 a0 4294967295) * (Go.bits .and .u64 a1 4294967295))) / 4294967296))) / 4294967296))) + ((IntKind.u64.wrap ((Go.bits .and .u64 (IntKind.u64.wrap ((IntKind.u64.wrap ((a0 / 4294967296) * (Go.bits .and .u64 a1 4294967295))) + ((IntKind.u64.wrap ((Go.bits .and .u64 a0 4294967295) * (Go.bits .and .u64 a1 4294967295))) / 4294967296))) 4294967295) + (IntKind.u64.wrap ((Go.bits .and .u64 a0 4294967295) * (a1 / 4294967296))))) / 4294967296)), IntKind.u64.wrap (a0 * a1))) = some (r1, r2) := h
  clear h
  simp only [Option.some.injEq, Prod.mk.injEq] at H
  obtain ⟨rfl, rfl⟩ := H
  go_enter Try.func75, Try.ntmps75
  go_wp2
  go_ret2
  exact ⟨by first | rfl | (simp; done) | (simp [*]; done), by repeat (first | exact Drawn0.refl _ | apply Drawn0.step)⟩

/-! ### bits_Mul: function 66 -/
def bits_Mul.f (a0 : Int) (a1 : Int) : Option (Int × Int) := (bits_Mul64.f a0 a1).bind fun bt146 => (some (bt146.1, bt146.2))
set_option maxHeartbeats 8000000 in
set_option maxRecDepth 100000 in
theorem bits_Mul.calls (a0 : Int) (a1 : Int) (r1 : Int) (r2 : Int) (w : World) (h : bits_Mul.f a0 a1 = some (r1, r2)) :
    Calls Try.prog 66 #[.int .u64 a0, .int .u64 a1] w fun e w' => e = .returned (.tuple #[.int .u64 r1, .int .u64 r2]) ∧ Drawn0 w w' := by
  have H : ((bits_Mul64.f a0 a1).bind fun bt146 => (some (bt146.1, bt146.2))) = some (r1, r2) := h
  clear h
  replace H := Option.bind_eq_some_iff.mp H
  obtain ⟨⟨t146, t147⟩, A30, H⟩ := H
  replace H : (some (t146, t147)) = some (r1, r2) := H
  have A3 := Aside0.mk A30
  clear A30
  simp only [Option.some.injEq, Prod.mk.injEq] at H
  obtain ⟨rfl, rfl⟩ := H
  go_enter Try.func66, Try.ntmps66
  go_wp2_with (first | ((with_reducible refine gate_callee (f := 75) rfl ?_); refine goesL_ (some 25) rfl rfl Try.func75 (by kernel_rfl) rfl #[.int .u64 a0, .int .u64 a1] rfl (by (try simp only [List.map_toArray, List.map_cons, List.map_nil]); first | done | rfl | (simp only [List.length_drop, List.length_take]; rfl)) ?_; (with_reducible refine (bits_Mul64.calls a0 a1 t146 t147 _ A3.out).mono ?_); rintro e w' ⟨rfl, ⟨nd, rfl⟩⟩; refine ⟨_, rfl, ?_⟩))
  go_ret2
  exact ⟨by first | rfl | (simp; done) | (simp [*]; done), by repeat (first | exact Drawn0.refl _ | apply Drawn0.step)⟩

end Go.Proofs.Ytbkdaafphcfpdaa.PExplicitLevels
