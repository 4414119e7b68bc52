import Derived.Test.YtbkdaafphcfpdaaExP2
namespace Go.Proofs.Ytbkdaafphcfpdaa.Stk
open Go.RowKit Go.Proofs.YtbkdaafphcfpdaaW.PrintWords Go.Proofs.YtbkdaafphcfpdaaW.PrintLast Go.Proofs.YtbkdaafphcfpdaaW.PrintMore
attribute [local go_sem] max2_int min2_int max_two min_two max_three min_three max_four min_four   -- for this text's walks alone
set_option linter.unusedVariables false
set_option linter.unusedSimpArgs false
set_option maxHeartbeats 8000000 in
set_option maxRecDepth 100000 in
theorem w_first {w : World} {base gw g nc cc : Nat} {Ac : Option Addr} {vm v vl vt : Value} {bs a b c : Int} {l : List Ent} {L T M : List Int} (h : WkC w base gw g Ac nc cc vm bs v a b c l vl vt vl vt L T M) (i : Nat) (hi : i < M.length) (hi2 : (i : Int) + 1 ≤ 9223372036854775807) (r : Int)
    (HF0 : ∀ W : World, Below w.heap.size w W → Calls Try.prog 70 #[.slice Ac nc cc, .agg #[.int .i64 ((i : Int) + 1), .int .i64 (M.getD i 0)]] W fun e w' => e = .returned (.int .i64 r) ∧ Below W.heap.size W w') :
    Calls Try.prog 60 #[.pointer (some ⟨gw, 0, none⟩), .int .i64 (i : Int)] w fun e w' => e = .returned (.bool (r == 1)) ∧ Below w.heap.size w w' := by
  have hk := Try.underlying67
  obtain ⟨Am, cm, hvm, hcm, hCm⟩ := Kd.R_reads h.2.2.2.2.1
  obtain ⟨am, ham, hmi⟩ := at_I hCm i hi
  subst ham
  have HS0 := Aside0.mk (show w.drew.cell? ⟨gw, 1, none⟩ = some (.slice Ac nc cc) ∧ w.drew.cell? ⟨gw, 2, none⟩ = some (.slice (some am) M.length cm) ∧ w.drew.cell? (am.add i) = some (.int .i64 (M.getD i 0)) from ⟨(blk_cell h.1 1).trans rfl, ((blk_cell h.1 2).trans rfl).trans (congrArg some hvm), hmi⟩)
  have HF := Aside0.mk HF0
  have HBD := Aside0.mk (show Below w.heap.size w w.drew from below_drew (Below.refl _ _))
  have HW1 := Aside0.mk (show IntKind.i64.wrap ((i : Int) + 1) = (i : Int) + 1 from (i64_w _).trans (by unfold wrap64; omega))
  have HW2 := Aside0.mk (show wrap64 ((i : Int) + 1) = (i : Int) + 1 by unfold wrap64; omega)
  have p0 : ((0 : Int) ≤ (i : Int)) = True := eq_true (by omega)
  have p1 : ((i : Int) < (M.length : Int)) = True := eq_true (by omega)
  have p2 : (i < M.length) = True := eq_true hi
  generalize M.getD i 0 = mi at HS0 HF
  clear h HF0 hi hi2 hcm hCm hvm hmi
  generalize M.length = nm at HS0 p1 p2
  go_enter Try.func60, Try.ntmps60
  go_wp2
  refine start_ (n := 17) (S := fun w' => w'.cell? ⟨gw, 1, none⟩ = some (.slice Ac nc cc) ∧ w'.cell? ⟨gw, 2, none⟩ = some (.slice (some am) nm cm) ∧ w'.cell? (am.add i) = some (.int .i64 mi)) (ds := []) #[false, false, false, false, false, false, false, false, false, false, false, false, false, false, false, false, false] (by kernel_rfl) rfl rfl HS0.out (fun hHeld => ?_)
  generalize w.drew = w1 at HS0 HBD hHeld ⊢
  refine pure_ (i := 0) (N := some 5) (v := ?_) (a' := ?_) #[true, false, false, false, false, false, false, false, false, false, false, false, false, false, false, false, false] rfl rfl (by kernel_rfl) (fun _ _ _ h => h) (Or.inl ⟨by rfl, ?_⟩) ?_ ?_
  rotate_left
  · intro w'
    go_simp
    with_reducible rfl
  rotate_left
  · simp only [Act.put, List.setIfInBounds_toArray, List.set_cons_zero, List.set_cons_succ, i64_w, i32_w]
    rfl
  refine pure_ (i := 1) (N := some 6) (v := ?_) (a' := ?_) #[true, true, false, false, false, false, false, false, false, false, false, false, false, false, false, false, false] rfl rfl (by kernel_rfl) (fun _ _ _ h => h) (Or.inl ⟨by rfl, ?_⟩) ?_ ?_
  rotate_left
  · intro w'
    go_simp
    with_reducible rfl
  rotate_left
  · simp only [Act.put, List.setIfInBounds_toArray, List.set_cons_zero, List.set_cons_succ, i64_w, i32_w]
    rfl
  refine pure_ (i := 2) (N := some 7) (v := ?_) (a' := ?_) #[true, true, true, false, false, false, false, false, false, false, false, false, false, false, false, false, false] rfl rfl (by kernel_rfl) (fun _ _ _ h => h) (Or.inl ⟨by rfl, ?_⟩) ?_ ?_
  rotate_left
  · intro w'
    go_simp
    with_reducible rfl
  rotate_left
  · simp only [Act.put, List.setIfInBounds_toArray, List.set_cons_zero, List.set_cons_succ, i64_w, i32_w]
    rfl
  refine take_ (i := 3) (N := some 8) (v := ?_) (a' := ?_) #[true, true, true, true, false, false, false, false, false, false, false, false, false, false, false, false, false] rfl rfl (by kernel_rfl) (fun _ _ _ h => h) (Or.inl ⟨by rfl, ?_⟩) hHeld ?_ ?_
  rotate_left
  · rintro w' ⟨s0, s1, s2⟩
    go_simp
    with_reducible rfl
  rotate_left
  · simp only [Act.put, List.setIfInBounds_toArray, List.set_cons_zero, List.set_cons_succ, i64_w, i32_w]
    rfl
  refine pure_ (i := 4) (N := some 9) (v := ?_) (a' := ?_) #[true, true, true, true, true, false, false, false, false, false, false, false, false, false, false, false, false] rfl rfl (by kernel_rfl) (fun _ _ _ h => h) (Or.inl ⟨by rfl, ?_⟩) ?_ ?_
  rotate_left
  · intro w'
    go_simp
    with_reducible rfl
  rotate_left
  · simp only [Act.put, List.setIfInBounds_toArray, List.set_cons_zero, List.set_cons_succ, i64_w, i32_w]
    rfl
  refine pure_ (i := 5) (N := some 10) (v := .int .i64 ((i : Int) + 1)) (a' := ?_) #[true, true, true, true, true, true, false, false, false, false, false, false, false, false, false, false, false] rfl rfl (by kernel_rfl) (fun _ _ _ h => h) (Or.inl ⟨by rfl, ?_⟩) ?_ ?_
  · intro w'
    go_simp
    first | done | (with_reducible rfl) | exact HW1.out | (rw [HW1.out]; done) | (rw [HW2.out]; done)
  rotate_left
  · simp only [Act.put, List.setIfInBounds_toArray, List.set_cons_zero, List.set_cons_succ, i64_w, i32_w]
    rfl
  refine pure_ (i := 6) (N := some 11) (v := ?_) (a' := ?_) #[true, true, true, true, true, true, true, false, false, false, false, false, false, false, false, false, false] rfl rfl (by kernel_rfl) (fun _ _ _ h => h) (Or.inl ⟨by rfl, ?_⟩) ?_ ?_
  rotate_left
  · intro w'
    go_simp
    with_reducible rfl
  rotate_left
  · simp only [Act.put, List.setIfInBounds_toArray, List.set_cons_zero, List.set_cons_succ, i64_w, i32_w]
    rfl
  refine pure_ (i := 7) (N := some 12) (v := ?_) (a' := ?_) #[true, true, true, true, true, true, true, true, false, false, false, false, false, false, false, false, false] rfl rfl (by kernel_rfl) (fun _ _ _ h => h) (Or.inl ⟨by rfl, ?_⟩) ?_ ?_
  rotate_left
  · intro w'
    go_simp
    with_reducible rfl
  rotate_left
  · simp only [Act.put, List.setIfInBounds_toArray, List.set_cons_zero, List.set_cons_succ, i64_w, i32_w]
    rfl
  refine pure_ (i := 8) (N := some 13) (v := ?_) (a' := ?_) #[true, true, true, true, true, true, true, true, true, false, false, false, false, false, false, false, false] rfl rfl (by kernel_rfl) (fun _ _ _ h => h) (Or.inl ⟨by rfl, ?_⟩) ?_ ?_
  rotate_left
  · intro w'
    go_simp
    with_reducible rfl
  rotate_left
  · simp only [Act.put, List.setIfInBounds_toArray, List.set_cons_zero, List.set_cons_succ, i64_w, i32_w]
    rfl
  refine take_ (i := 9) (N := some 14) (v := ?_) (a' := ?_) #[true, true, true, true, true, true, true, true, true, true, false, false, false, false, false, false, false] rfl rfl (by kernel_rfl) (fun _ _ _ h => h) (Or.inl ⟨by rfl, ?_⟩) hHeld ?_ ?_
  rotate_left
  · rintro w' ⟨s0, s1, s2⟩
    go_simp
    with_reducible rfl
  rotate_left
  · simp only [Act.put, List.setIfInBounds_toArray, List.set_cons_zero, List.set_cons_succ, i64_w, i32_w]
    rfl
  refine pure_ (i := 10) (N := some 15) (v := ?_) (a' := ?_) #[true, true, true, true, true, true, true, true, true, true, true, false, false, false, false, false, false] rfl rfl (by kernel_rfl) (fun _ _ _ h => h) (Or.inl ⟨by rfl, ?_⟩) ?_ ?_
  rotate_left
  · intro w'
    go_simp
    with_reducible rfl
  rotate_left
  · simp only [Act.put, List.setIfInBounds_toArray, List.set_cons_zero, List.set_cons_succ, i64_w, i32_w]
    rfl
  refine pure_ (i := 11) (N := some 16) (v := ?_) (a' := ?_) #[true, true, true, true, true, true, true, true, true, true, true, true, false, false, false, false, false] rfl rfl (by kernel_rfl) (fun _ _ _ h => h) (Or.inl ⟨by rfl, ?_⟩) ?_ ?_
  rotate_left
  · intro w'
    go_simp
    first | with_reducible rfl | rfl
  rotate_left
  · simp only [Act.put, List.setIfInBounds_toArray, List.set_cons_zero, List.set_cons_succ, i64_w, i32_w]
    rfl
  refine take_ (i := 12) (N := some 17) (v := ?_) (a' := ?_) #[true, true, true, true, true, true, true, true, true, true, true, true, true, false, false, false, false] rfl rfl (by kernel_rfl) (fun _ _ _ h => h) (Or.inl ⟨by rfl, ?_⟩) hHeld ?_ ?_
  rotate_left
  · rintro w' ⟨s0, s1, s2⟩
    go_simp
    with_reducible rfl
  rotate_left
  · simp only [Act.put, List.setIfInBounds_toArray, List.set_cons_zero, List.set_cons_succ, i64_w, i32_w]
    rfl
  refine pure_ (i := 13) (N := some 18) (v := ?_) (a' := ?_) #[true, true, true, true, true, true, true, true, true, true, true, true, true, true, false, false, false] rfl rfl (by kernel_rfl) (fun _ _ _ h => h) (Or.inl ⟨by rfl, ?_⟩) ?_ ?_
  rotate_left
  · intro w'
    go_simp
    with_reducible rfl
  rotate_left
  · simp only [Act.put, List.setIfInBounds_toArray, List.set_cons_zero, List.set_cons_succ, i64_w, i32_w]
    rfl
  refine one_ (i := 14) (N := some 19) #[true, true, true, true, true, true, true, true, true, true, true, true, true, true, true, false, false] rfl rfl (by kernel_rfl) (by decide) (fun K hK => ?_)
  refine (goes_ Try.func70 (by kernel_rfl) rfl #[.slice Ac nc cc, .agg #[.int .i64 ((i : Int) + 1), .int .i64 mi]] (by rfl) rfl rfl (by (try simp only [List.map_toArray, List.map_cons, List.map_nil]); first | done | rfl) ?_)
  (with_reducible refine (HF.out _ HBD.out).mono ?_)
  rintro e w5 ⟨rfl, hb⟩
  refine ⟨_, rfl, ?_⟩
  have HB5 := Aside0.mk (below_step HBD.out hb)
  refine hK.out _ _ ⟨pw_cell_below hb hHeld.1, pw_cell_below hb hHeld.2.1, pw_cell_below hb hHeld.2.2⟩ (fun hHeld => ?_)
  clear hK K hb
  refine norm_ (a' := ?_) ?_ ?_
  rotate_left
  · show Act.put _ (some 19) _ = _
    simp only [Act.put, List.setIfInBounds_toArray, List.set_cons_zero, List.set_cons_succ, i64_w, i32_w]
    rfl
  refine pure_ (i := 15) (N := some 20) (v := ?_) (a' := ?_) #[true, true, true, true, true, true, true, true, true, true, true, true, true, true, true, true, false] rfl rfl (by kernel_rfl) (fun _ _ _ h => h) (Or.inl ⟨by rfl, ?_⟩) ?_ ?_
  rotate_left
  · intro w'
    go_simp
    with_reducible rfl
  rotate_left
  · simp only [Act.put, List.setIfInBounds_toArray, List.set_cons_zero, List.set_cons_succ, i64_w, i32_w]
    rfl
  refine pure_ (i := 16) (N := some 4) (v := ?_) (a' := ?_) #[true, true, true, true, true, true, true, true, true, true, true, true, true, true, true, true, true] rfl rfl (by kernel_rfl) (fun _ _ _ h => h) (Or.inl ⟨by rfl, ?_⟩) ?_ ?_
  rotate_left
  · intro w'
    go_simp
    with_reducible rfl
  rotate_left
  · simp only [Act.put, List.setIfInBounds_toArray, List.set_cons_zero, List.set_cons_succ, i64_w, i32_w]
    rfl
  refine done_ (by kernel_rfl) ?_
  go_wp2
  go_ret
  exact ⟨by first | rfl | simp [*], HB5.out⟩
theorem wkR_from {base gw g nc cc : Nat} {Ac : Option Addr} {vm : Value} {bs a b c : Int} {l : List Ent} {L T M : List Int} {w w1 : World} {e : Ending} {w' : World} (h : WkR base gw g Ac nc cc vm bs a b c l L T M w1 e w') (hb : Below base w w1) : WkR base gw g Ac nc cc vm bs a b c l L T M w e w' := by
  obtain ⟨v, vl, vt, he, hk, hb2⟩ := h
  exact ⟨v, vl, vt, he, hk, hb.trans hb2⟩
set_option maxHeartbeats 8000000 in
set_option maxRecDepth 100000 in
theorem w_step_e16 {w : World} {base gw g nc cc : Nat} {Ac : Option Addr} {vm v vl vt : Value} {bs a b c : Int} {l : List Ent} {L T M : List Int} (h : WkC w base gw g Ac nc cc vm bs v a b c l vl vt vl vt L T M) (hL : L.length ≤ 17592186044000 ∧ T.length ≤ 17592186044000) (hG : Good l) (hi : ∃ ad, Ac = some ad ∧ w.cell? (ad.add L.length) = some (.int .i64 (16))) (hn : L.length < nc) :
    Calls Try.prog 46 #[.pointer (some ⟨gw, 0, none⟩), .int .i64 (L.length : Int)] w (WkR base gw g Ac nc cc vm bs a (embB a b l true) c (embL a b l true 13) (L ++ [(topE l).lv]) (T ++ [9]) M w) := by
  have hk := Try.underlying67
  obtain ⟨ad, rfl, hi⟩ := hi
  have hcl := (blk_cell h.1 1).trans rfl
  have HE := Aside0.mk (w_embed h hL hG true 13)
  have p0 : ((0 : Int) ≤ (L.length : Int)) = True := eq_true (by omega)
  have p1 : ((L.length : Int) < (nc : Int)) = True := eq_true (by omega)
  have p2 : (L.length < nc) = True := eq_true hn
  clear h hL hG hn
  generalize hLl : L.length = i at *
  clear hLl
  go_enter Try.func46, Try.ntmps46
  go_wp2_with (first | (go_at_call 58; (with_reducible refine (HE.out).mono ?_); rintro e w5 ⟨v5, vl5, vt5, rfl, hk5, hb5⟩; have HK5 := Aside0.mk hk5; have HB5 := Aside0.mk hb5; clear hk5 hb5))
  first | go_end0 | ((try simp only [Exit.inBlock, Exit.then]); refine bodyPost_ret (results_none rfl _ _ _) rfl ?_)
  unfold WkR
  exact ⟨v5, vl5, vt5, by first | rfl | simp [*], HK5.out, HB5.out⟩
set_option maxHeartbeats 8000000 in
set_option maxRecDepth 100000 in
theorem w_step_e14 {w : World} {base gw g nc cc : Nat} {Ac : Option Addr} {vm v vl vt : Value} {bs a b c : Int} {l : List Ent} {L T M : List Int} (h : WkC w base gw g Ac nc cc vm bs v a b c l vl vt vl vt L T M) (hL : L.length ≤ 17592186044000 ∧ T.length ≤ 17592186044000) (hG : Good l) (hi : ∃ ad, Ac = some ad ∧ w.cell? (ad.add L.length) = some (.int .i64 (14))) (hn : L.length < nc) :
    Calls Try.prog 46 #[.pointer (some ⟨gw, 0, none⟩), .int .i64 (L.length : Int)] w (WkR base gw g Ac nc cc vm bs a (embB a b l false) c (embL a b l false 13) (L ++ [(topE l).lv]) (T ++ [9]) M w) := by
  have hk := Try.underlying67
  obtain ⟨ad, rfl, hi⟩ := hi
  have hcl := (blk_cell h.1 1).trans rfl
  have HE := Aside0.mk (w_embed h hL hG false 13)
  have p0 : ((0 : Int) ≤ (L.length : Int)) = True := eq_true (by omega)
  have p1 : ((L.length : Int) < (nc : Int)) = True := eq_true (by omega)
  have p2 : (L.length < nc) = True := eq_true hn
  clear h hL hG hn
  generalize hLl : L.length = i at *
  clear hLl
  go_enter Try.func46, Try.ntmps46
  go_wp2_with (first | (go_at_call 58; (with_reducible refine (HE.out).mono ?_); rintro e w5 ⟨v5, vl5, vt5, rfl, hk5, hb5⟩; have HK5 := Aside0.mk hk5; have HB5 := Aside0.mk hb5; clear hk5 hb5))
  first | go_end0 | ((try simp only [Exit.inBlock, Exit.then]); refine bodyPost_ret (results_none rfl _ _ _) rfl ?_)
  unfold WkR
  exact ⟨v5, vl5, vt5, by first | rfl | simp [*], HK5.out, HB5.out⟩
set_option maxHeartbeats 8000000 in
set_option maxRecDepth 100000 in
theorem w_step_e17 {w : World} {base gw g nc cc : Nat} {Ac : Option Addr} {vm v vl vt : Value} {bs a b c : Int} {l : List Ent} {L T M : List Int} (h : WkC w base gw g Ac nc cc vm bs v a b c l vl vt vl vt L T M) (hL : L.length ≤ 17592186044000 ∧ T.length ≤ 17592186044000) (hG : Good l) (hi : ∃ ad, Ac = some ad ∧ w.cell? (ad.add L.length) = some (.int .i64 (17))) (hn : L.length < nc) :
    Calls Try.prog 46 #[.pointer (some ⟨gw, 0, none⟩), .int .i64 (L.length : Int)] w (WkR base gw g Ac nc cc vm bs a (embB a b l true) c (embL a b l true 1) (L ++ [(topE l).lv]) (T ++ [9]) M w) := by
  have hk := Try.underlying67
  obtain ⟨ad, rfl, hi⟩ := hi
  have hcl := (blk_cell h.1 1).trans rfl
  have HE := Aside0.mk (w_embed h hL hG true 1)
  have p0 : ((0 : Int) ≤ (L.length : Int)) = True := eq_true (by omega)
  have p1 : ((L.length : Int) < (nc : Int)) = True := eq_true (by omega)
  have p2 : (L.length < nc) = True := eq_true hn
  clear h hL hG hn
  generalize hLl : L.length = i at *
  clear hLl
  go_enter Try.func46, Try.ntmps46
  go_wp2_with (first | (go_at_call 58; (with_reducible refine (HE.out).mono ?_); rintro e w5 ⟨v5, vl5, vt5, rfl, hk5, hb5⟩; have HK5 := Aside0.mk hk5; have HB5 := Aside0.mk hb5; clear hk5 hb5))
  first | go_end0 | ((try simp only [Exit.inBlock, Exit.then]); refine bodyPost_ret (results_none rfl _ _ _) rfl ?_)
  unfold WkR
  exact ⟨v5, vl5, vt5, by first | rfl | simp [*], HK5.out, HB5.out⟩
set_option maxHeartbeats 8000000 in
set_option maxRecDepth 100000 in
theorem w_step_e15 {w : World} {base gw g nc cc : Nat} {Ac : Option Addr} {vm v vl vt : Value} {bs a b c : Int} {l : List Ent} {L T M : List Int} (h : WkC w base gw g Ac nc cc vm bs v a b c l vl vt vl vt L T M) (hL : L.length ≤ 17592186044000 ∧ T.length ≤ 17592186044000) (hG : Good l) (hi : ∃ ad, Ac = some ad ∧ w.cell? (ad.add L.length) = some (.int .i64 (15))) (hn : L.length < nc) :
    Calls Try.prog 46 #[.pointer (some ⟨gw, 0, none⟩), .int .i64 (L.length : Int)] w (WkR base gw g Ac nc cc vm bs a (embB a b l false) c (embL a b l false 0) (L ++ [(topE l).lv]) (T ++ [9]) M w) := by
  have hk := Try.underlying67
  obtain ⟨ad, rfl, hi⟩ := hi
  have hcl := (blk_cell h.1 1).trans rfl
  have HE := Aside0.mk (w_embed h hL hG false 0)
  have p0 : ((0 : Int) ≤ (L.length : Int)) = True := eq_true (by omega)
  have p1 : ((L.length : Int) < (nc : Int)) = True := eq_true (by omega)
  have p2 : (L.length < nc) = True := eq_true hn
  clear h hL hG hn
  generalize hLl : L.length = i at *
  clear hLl
  go_enter Try.func46, Try.ntmps46
  go_wp2_with (first | (go_at_call 58; (with_reducible refine (HE.out).mono ?_); rintro e w5 ⟨v5, vl5, vt5, rfl, hk5, hb5⟩; have HK5 := Aside0.mk hk5; have HB5 := Aside0.mk hb5; clear hk5 hb5))
  first | go_end0 | ((try simp only [Exit.inBlock, Exit.then]); refine bodyPost_ret (results_none rfl _ _ _) rfl ?_)
  unfold WkR
  exact ⟨v5, vl5, vt5, by first | rfl | simp [*], HK5.out, HB5.out⟩
set_option maxHeartbeats 8000000 in
set_option maxRecDepth 100000 in
theorem w_step_i20 {w : World} {base gw g nc cc : Nat} {Ac : Option Addr} {vm v vl vt : Value} {bs a b c : Int} {l : List Ent} {L T M : List Int} (h : WkC w base gw g Ac nc cc vm bs v a b c l vl vt vl vt L T M) (hL : L.length ≤ 17592186044000 ∧ T.length ≤ 17592186044000) (hG : Good l) (hi : ∃ ad, Ac = some ad ∧ w.cell? (ad.add L.length) = some (.int .i64 (20))) (hn : L.length < nc) :
    Calls Try.prog 46 #[.pointer (some ⟨gw, 0, none⟩), .int .i64 (L.length : Int)] w (WkR base gw g Ac nc cc vm bs (isoA a b l true) b (isoC a b c l true) (isoL a b l true) (L ++ [(topE l).lv]) (T ++ [over (topE l).ov 20]) M w) := by
  have hk := Try.underlying67
  obtain ⟨ad, rfl, hi⟩ := hi
  have hcl := (blk_cell h.1 1).trans rfl
  have HE := Aside0.mk (w_isolate h hL hG true 20 ⟨ad, rfl, hi⟩ hn)
  have p0 : ((0 : Int) ≤ (L.length : Int)) = True := eq_true (by omega)
  have p1 : ((L.length : Int) < (nc : Int)) = True := eq_true (by omega)
  have p2 : (L.length < nc) = True := eq_true hn
  clear h hL hG hn
  generalize hLl : L.length = i at *
  clear hLl
  go_enter Try.func46, Try.ntmps46
  go_wp2_with (first | (go_at_call 59; (with_reducible refine (HE.out).mono ?_); rintro e w5 ⟨v5, vl5, vt5, rfl, hk5, hb5⟩; have HK5 := Aside0.mk hk5; have HB5 := Aside0.mk hb5; clear hk5 hb5))
  first | go_end0 | ((try simp only [Exit.inBlock, Exit.then]); refine bodyPost_ret (results_none rfl _ _ _) rfl ?_)
  unfold WkR
  exact ⟨v5, vl5, vt5, by first | rfl | simp [*], HK5.out, HB5.out⟩
set_option maxHeartbeats 8000000 in
set_option maxRecDepth 100000 in
theorem w_step_i19 {w : World} {base gw g nc cc : Nat} {Ac : Option Addr} {vm v vl vt : Value} {bs a b c : Int} {l : List Ent} {L T M : List Int} (h : WkC w base gw g Ac nc cc vm bs v a b c l vl vt vl vt L T M) (hL : L.length ≤ 17592186044000 ∧ T.length ≤ 17592186044000) (hG : Good l) (hi : ∃ ad, Ac = some ad ∧ w.cell? (ad.add L.length) = some (.int .i64 (19))) (hn : L.length < nc) :
    Calls Try.prog 46 #[.pointer (some ⟨gw, 0, none⟩), .int .i64 (L.length : Int)] w (WkR base gw g Ac nc cc vm bs (isoA a b l false) b (isoC a b c l false) (isoL a b l false) (L ++ [(topE l).lv]) (T ++ [over (topE l).ov 19]) M w) := by
  have hk := Try.underlying67
  obtain ⟨ad, rfl, hi⟩ := hi
  have hcl := (blk_cell h.1 1).trans rfl
  have HE := Aside0.mk (w_isolate h hL hG false 19 ⟨ad, rfl, hi⟩ hn)
  have p0 : ((0 : Int) ≤ (L.length : Int)) = True := eq_true (by omega)
  have p1 : ((L.length : Int) < (nc : Int)) = True := eq_true (by omega)
  have p2 : (L.length < nc) = True := eq_true hn
  clear h hL hG hn
  generalize hLl : L.length = i at *
  clear hLl
  go_enter Try.func46, Try.ntmps46
  go_wp2_with (first | (go_at_call 59; (with_reducible refine (HE.out).mono ?_); rintro e w5 ⟨v5, vl5, vt5, rfl, hk5, hb5⟩; have HK5 := Aside0.mk hk5; have HB5 := Aside0.mk hb5; clear hk5 hb5))
  first | go_end0 | ((try simp only [Exit.inBlock, Exit.then]); refine bodyPost_ret (results_none rfl _ _ _) rfl ?_)
  unfold WkR
  exact ⟨v5, vl5, vt5, by first | rfl | simp [*], HK5.out, HB5.out⟩
set_option maxHeartbeats 8000000 in
set_option maxRecDepth 100000 in
theorem w_step_i21 {w : World} {base gw g nc cc : Nat} {Ac : Option Addr} {vm v vl vt : Value} {bs a b c : Int} {l : List Ent} {L T M : List Int} (h : WkC w base gw g Ac nc cc vm bs v a b c l vl vt vl vt L T M) (hL : L.length ≤ 17592186044000 ∧ T.length ≤ 17592186044000) (hG : Good l) (hi : ∃ ad, Ac = some ad ∧ w.cell? (ad.add L.length) = some (.int .i64 (21))) (hn : L.length < nc) (hi1 : L.length < M.length) (hi2 : (L.length : Int) + 1 ≤ 9223372036854775807) (r : Int) (HF0 : ∀ W : World, Below w.heap.size w W → Calls Try.prog 70 #[.slice Ac nc cc, .agg #[.int .i64 ((L.length : Int) + 1), .int .i64 (M.getD L.length 0)]] W fun e w' => e = .returned (.int .i64 r) ∧ Below W.heap.size W w') :
    Calls Try.prog 46 #[.pointer (some ⟨gw, 0, none⟩), .int .i64 (L.length : Int)] w (WkR base gw g Ac nc cc vm bs (isoA a b l (r == 1)) b (isoC a b c l (r == 1)) (isoL a b l (r == 1)) (L ++ [(topE l).lv]) (T ++ [over (topE l).ov 21]) M w) := by
  have hk := Try.underlying67
  obtain ⟨ad, rfl, hi⟩ := hi
  have hcl := (blk_cell h.1 1).trans rfl
  have HF := Aside0.mk (w_first h L.length hi1 hi2 r HF0)
  have HE := Aside0.mk (fun (W : World) (hb : Below w.heap.size w W) => w_isolate (wk_below h hb) hL hG (r == 1) 21 ⟨ad, rfl, pw_cell_below hb hi⟩ hn)
  clear HF0
  have HBS := Aside0.mk (wk_base h)
  have p0 : ((0 : Int) ≤ (L.length : Int)) = True := eq_true (by omega)
  have p1 : ((L.length : Int) < (nc : Int)) = True := eq_true (by omega)
  have p2 : (L.length < nc) = True := eq_true hn
  clear h hL hG hn
  generalize hLl : L.length = i at *
  clear hLl
  go_enter Try.func46, Try.ntmps46
  go_wp2_with (first | (go_at_call 60; (with_reducible refine (HF.out).mono ?_); rintro e w2 ⟨rfl, hb⟩; have HB2 := Aside0.mk hb; clear hb) | (go_at_call 59; (with_reducible refine (HE.out _ HB2.out).mono ?_); rintro e w5 ⟨v5, vl5, vt5, rfl, hk5, hb5⟩; have HK5 := Aside0.mk hk5; have HB5 := Aside0.mk ((below_weak HBS.out HB2.out).trans hb5); clear hk5 hb5))
  first | go_end0 | ((try simp only [Exit.inBlock, Exit.then]); refine bodyPost_ret (results_none rfl _ _ _) rfl ?_)
  unfold WkR
  exact ⟨v5, vl5, vt5, by first | rfl | simp [*], HK5.out, HB5.out⟩
set_option maxHeartbeats 8000000 in
set_option maxRecDepth 100000 in
theorem w_step_pdi {w : World} {base gw g nc cc : Nat} {Ac : Option Addr} {vm v vl vt : Value} {bs a b c : Int} {l : List Ent} {L T M : List Int} (h : WkC w base gw g Ac nc cc vm bs v a b c l vl vt vl vt L T M) (hL : L.length ≤ 17592186044000 ∧ T.length ≤ 17592186044000) (hG : Good l) (hi : ∃ ad, Ac = some ad ∧ w.cell? (ad.add L.length) = some (.int .i64 (22))) (hn : L.length < nc) :
    Calls Try.prog 46 #[.pointer (some ⟨gw, 0, none⟩), .int .i64 (L.length : Int)] w (WkR base gw g Ac nc cc vm bs (eiA a) (eiB a b c) (eiC a c) (eiL a c l) (L ++ [(topE (eiL a c l)).lv]) (T ++ [over (topE (eiL a c l)).ov 22]) M w) := by
  have hk := Try.underlying67
  obtain ⟨ad, rfl, hi⟩ := hi
  have hcl := (blk_cell h.1 1).trans rfl
  have HE := Aside0.mk (p_endiso h.2.1 hG)
  have HW := Aside0.mk h
  have HGV := Aside0.mk (fun (W : World) (v_ : Value) (h_ : WkC W base gw g (some ad) nc cc vm bs v_ (eiA a) (eiB a b c) (eiC a c) (eiL a c l) vl vt vl vt L T M) => w_given h_ hL (Went.ei hG).1 22)
  have hc := (blk_cell h.1 0).trans rfl
  have HSS := Aside0.mk (show StkP w base g v a b c l from h.2.1)
  have p0 : ((0 : Int) ≤ (L.length : Int)) = True := eq_true (by omega)
  have p1 : ((L.length : Int) < (nc : Int)) = True := eq_true (by omega)
  have p2 : (L.length < nc) = True := eq_true hn
  clear h hL hG hn
  generalize hLl : L.length = i at *
  clear hLl
  go_enter Try.func46, Try.ntmps46
  go_wp2_with (first | (go_at_call 61; (with_reducible refine (HE.out).mono ?_); rintro e w2 ⟨v2, rfl, hS, hM⟩; have HW2 := Aside0.mk (wk_stk HW.out hS hM); have HB2 := Aside0.mk (hM.below HSS.out); clear hS hM) | (go_at_call 62; (with_reducible refine (HGV.out _ _ HW2.out).mono ?_); rintro e w5 ⟨v5, vl5, vt5, rfl, hk5, hb5⟩; have HK5 := Aside0.mk hk5; have HB5 := Aside0.mk (HB2.out.trans hb5); clear hk5 hb5))
  first | go_end0 | ((try simp only [Exit.inBlock, Exit.then]); refine bodyPost_ret (results_none rfl _ _ _) rfl ?_)
  unfold WkR
  exact ⟨v5, vl5, vt5, by first | rfl | simp [*], HK5.out, HB5.out⟩
set_option maxHeartbeats 8000000 in
set_option maxRecDepth 100000 in
theorem w_step_pdf {w : World} {base gw g nc cc : Nat} {Ac : Option Addr} {vm v vl vt : Value} {bs a b c : Int} {l : List Ent} {L T M : List Int} (h : WkC w base gw g Ac nc cc vm bs v a b c l vl vt vl vt L T M) (hL : L.length ≤ 17592186044000 ∧ T.length ≤ 17592186044000) (hG : Good l) (hi : ∃ ad, Ac = some ad ∧ w.cell? (ad.add L.length) = some (.int .i64 (18))) (hn : L.length < nc) :
    Calls Try.prog 46 #[.pointer (some ⟨gw, 0, none⟩), .int .i64 (L.length : Int)] w (WkR base gw g Ac nc cc vm bs a (eeB a b) c (eeL a b l) (L ++ [(topE l).lv]) (T ++ [9]) M w) := by
  have hk := Try.underlying67
  obtain ⟨ad, rfl, hi⟩ := hi
  have hcl := (blk_cell h.1 1).trans rfl
  have HGO := Aside0.mk (w_gone h hL hG)
  have HE := Aside0.mk (fun (W : World) (v_ : Value) (h_ : StkP W base g v_ a b c l) => p_endembed h_ hG)
  have p0 : ((0 : Int) ≤ (L.length : Int)) = True := eq_true (by omega)
  have p1 : ((L.length : Int) < (nc : Int)) = True := eq_true (by omega)
  have p2 : (L.length < nc) = True := eq_true hn
  clear h hL hG hn
  generalize hLl : L.length = i at *
  clear hLl
  go_enter Try.func46, Try.ntmps46
  go_wp2_with (first | (go_at_call 63; (with_reducible refine (HGO.out).mono ?_); rintro e w2 ⟨v2, vl5, vt5, rfl, hk5, hb5⟩; have HK2 := Aside0.mk hk5; have HB2 := Aside0.mk hb5; have hc := (blk_cell HK2.out.1 0).trans rfl; have HSS := Aside0.mk (show StkP w2 base g v2 a b c l from HK2.out.2.1); clear hk5 hb5) | (go_at_call 64; (with_reducible refine (HE.out _ _ HSS.out).mono ?_); rintro e w5 ⟨v5, rfl, hS, hM⟩; have HK5 := Aside0.mk (wk_stk HK2.out hS hM); have HB5 := Aside0.mk (HB2.out.trans (hM.below HSS.out)); clear hS hM))
  first | go_end0 | ((try simp only [Exit.inBlock, Exit.then]); refine bodyPost_ret (results_none rfl _ _ _) rfl ?_)
  unfold WkR
  exact ⟨v5, vl5, vt5, by first | rfl | simp [*], HK5.out, HB5.out⟩
set_option maxHeartbeats 8000000 in
set_option maxRecDepth 100000 in
theorem w_step_bn {w : World} {base gw g nc cc : Nat} {Ac : Option Addr} {vm v vl vt : Value} {bs a b c : Int} {l : List Ent} {L T M : List Int} (h : WkC w base gw g Ac nc cc vm bs v a b c l vl vt vl vt L T M) (hL : L.length ≤ 17592186044000 ∧ T.length ≤ 17592186044000) (hG : Good l) (hi : ∃ ad, Ac = some ad ∧ w.cell? (ad.add L.length) = some (.int .i64 (9))) (hn : L.length < nc) :
    Calls Try.prog 46 #[.pointer (some ⟨gw, 0, none⟩), .int .i64 (L.length : Int)] w (WkR base gw g Ac nc cc vm bs a b c l (L ++ [(topE l).lv]) (T ++ [9]) M w) := by
  have hk := Try.underlying67
  obtain ⟨ad, rfl, hi⟩ := hi
  have hcl := (blk_cell h.1 1).trans rfl
  have HGO := Aside0.mk (w_gone h hL hG)
  have p0 : ((0 : Int) ≤ (L.length : Int)) = True := eq_true (by omega)
  have p1 : ((L.length : Int) < (nc : Int)) = True := eq_true (by omega)
  have p2 : (L.length < nc) = True := eq_true hn
  clear h hL hG hn
  generalize hLl : L.length = i at *
  clear hLl
  go_enter Try.func46, Try.ntmps46
  go_wp2_with (first | (go_at_call 63; (with_reducible refine (HGO.out).mono ?_); rintro e w5 ⟨v5, vl5, vt5, rfl, hk5, hb5⟩; have HK5 := Aside0.mk hk5; have HB5 := Aside0.mk hb5; clear hk5 hb5))
  first | go_end0 | ((try simp only [Exit.inBlock, Exit.then]); refine bodyPost_ret (results_none rfl _ _ _) rfl ?_)
  unfold WkR
  exact ⟨v5, vl5, vt5, by first | rfl | simp [*], HK5.out, HB5.out⟩
set_option maxHeartbeats 8000000 in
set_option maxRecDepth 100000 in
theorem w_step_b {w : World} {base gw g nc cc : Nat} {Ac : Option Addr} {vm v vl vt : Value} {bs a b c : Int} {l : List Ent} {L T M : List Int} (h : WkC w base gw g Ac nc cc vm bs v a b c l vl vt vl vt L T M) (hL : L.length ≤ 17592186044000 ∧ T.length ≤ 17592186044000) (hG : Good l) (hi : ∃ ad, Ac = some ad ∧ w.cell? (ad.add L.length) = some (.int .i64 (10))) (hn : L.length < nc) :
    Calls Try.prog 46 #[.pointer (some ⟨gw, 0, none⟩), .int .i64 (L.length : Int)] w (WkR base gw g Ac nc cc vm bs a b c l (L ++ [bs]) (T ++ [10]) M w) := by
  have hk := Try.underlying67
  obtain ⟨ad, rfl, hi⟩ := hi
  have hcl := (blk_cell h.1 1).trans rfl
  have HP := Aside0.mk (w_put h hL bs 10)
  have hc3 := (blk_cell h.1 3).trans rfl
  have p0 : ((0 : Int) ≤ (L.length : Int)) = True := eq_true (by omega)
  have p1 : ((L.length : Int) < (nc : Int)) = True := eq_true (by omega)
  have p2 : (L.length < nc) = True := eq_true hn
  clear h hL hG hn
  generalize hLl : L.length = i at *
  clear hLl
  go_enter Try.func46, Try.ntmps46
  go_wp2_with (first | (go_at_call 65; (with_reducible refine (HP.out).mono ?_); rintro e w5 ⟨vl5, vt5, rfl, hk5, hb5⟩; have HK5 := Aside0.mk hk5; have HB5 := Aside0.mk hb5; clear hk5 hb5))
  first | go_end0 | ((try simp only [Exit.inBlock, Exit.then]); refine bodyPost_ret (results_none rfl _ _ _) rfl ?_)
  unfold WkR
  exact ⟨v, vl5, vt5, by first | rfl | simp [*], HK5.out, HB5.out⟩
set_option maxHeartbeats 8000000 in
set_option maxRecDepth 100000 in
theorem w_step_other {y : Int} (hy : y ≠ 16 ∧ y ≠ 14 ∧ y ≠ 17 ∧ y ≠ 15 ∧ y ≠ 20 ∧ y ≠ 19 ∧ y ≠ 21 ∧ y ≠ 22 ∧ y ≠ 18 ∧ y ≠ 9 ∧ y ≠ 10) {w : World} {base gw g nc cc : Nat} {Ac : Option Addr} {vm v vl vt : Value} {bs a b c : Int} {l : List Ent} {L T M : List Int} (h : WkC w base gw g Ac nc cc vm bs v a b c l vl vt vl vt L T M) (hL : L.length ≤ 17592186044000 ∧ T.length ≤ 17592186044000) (hG : Good l) (hi : ∃ ad, Ac = some ad ∧ w.cell? (ad.add L.length) = some (.int .i64 (y))) (hn : L.length < nc) :
    Calls Try.prog 46 #[.pointer (some ⟨gw, 0, none⟩), .int .i64 (L.length : Int)] w (WkR base gw g Ac nc cc vm bs a b c l (L ++ [(topE l).lv]) (T ++ [over (topE l).ov y]) M w) := by
  have hk := Try.underlying67
  obtain ⟨ad, rfl, hi⟩ := hi
  have hcl := (blk_cell h.1 1).trans rfl
  have HGV := Aside0.mk (w_given h hL hG y)
  have e16 := beq_eq_false_iff_ne.mpr (hy.1)
  have e14 := beq_eq_false_iff_ne.mpr (hy.2.1)
  have e17 := beq_eq_false_iff_ne.mpr (hy.2.2.1)
  have e15 := beq_eq_false_iff_ne.mpr (hy.2.2.2.1)
  have e20 := beq_eq_false_iff_ne.mpr (hy.2.2.2.2.1)
  have e19 := beq_eq_false_iff_ne.mpr (hy.2.2.2.2.2.1)
  have e21 := beq_eq_false_iff_ne.mpr (hy.2.2.2.2.2.2.1)
  have e22 := beq_eq_false_iff_ne.mpr (hy.2.2.2.2.2.2.2.1)
  have e18 := beq_eq_false_iff_ne.mpr (hy.2.2.2.2.2.2.2.2.1)
  have e9 := beq_eq_false_iff_ne.mpr (hy.2.2.2.2.2.2.2.2.2.1)
  have e10 := beq_eq_false_iff_ne.mpr (hy.2.2.2.2.2.2.2.2.2.2)
  clear hy
  have p0 : ((0 : Int) ≤ (L.length : Int)) = True := eq_true (by omega)
  have p1 : ((L.length : Int) < (nc : Int)) = True := eq_true (by omega)
  have p2 : (L.length < nc) = True := eq_true hn
  clear h hL hG hn
  generalize hLl : L.length = i at *
  clear hLl
  go_enter Try.func46, Try.ntmps46
  go_wp2_with (first | (go_at_call 62; (with_reducible refine (HGV.out).mono ?_); rintro e w5 ⟨v5, vl5, vt5, rfl, hk5, hb5⟩; have HK5 := Aside0.mk hk5; have HB5 := Aside0.mk hb5; clear hk5 hb5))
  first | go_end0 | ((try simp only [Exit.inBlock, Exit.then]); refine bodyPost_ret (results_none rfl _ _ _) rfl ?_)
  unfold WkR
  exact ⟨v5, vl5, vt5, by first | rfl | simp [*], HK5.out, HB5.out⟩
end Go.Proofs.Ytbkdaafphcfpdaa.Stk
