import Derived.Test.YtbkdaafphcfpdaaExW
namespace Go.Proofs.Ytbkdaafphcfpdaa.Stk
open Go.RowKit Go.Proofs.YtbkdaafphcfpdaaW.PrintWords Go.Proofs.YtbkdaafphcfpdaaW.PrintLast Go.Proofs.YtbkdaafphcfpdaaW.PrintMore
attribute [local go_sem] max2_int min2_int max_two min_two max_three min_three max_four min_four   -- for this text's walks alone
set_option linter.unusedVariables false
set_option linter.unusedSimpArgs false
def PutR (base gw g : Nat) (Ac : Option Addr) (nc cc : Nat) (vm : Value) (bs : Int) (v : Value) (a b c : Int) (l : List Ent) (L T M : List Int) (w : World) (e : Ending) (w' : World) : Prop :=
  ∃ vl vt, e = .returned (.tuple #[]) ∧ WkC w' base gw g Ac nc cc vm bs v a b c l vl vt vl vt L T M ∧ Below base w w'
set_option maxHeartbeats 8000000 in
set_option maxRecDepth 100000 in
theorem w_put {w : World} {base gw g nc cc : Nat} {Ac : Option Addr} {vm v vl vt : Value} {bs a b c : Int} {l : List Ent} {L T M : List Int} (h : WkC w base gw g Ac nc cc vm bs v a b c l vl vt vl vt L T M) (hL : L.length ≤ 17592186044000 ∧ T.length ≤ 17592186044000) (x y : Int) :
    Calls Try.prog 65 #[.pointer (some ⟨gw, 0, none⟩), .int .i64 x, .int .i64 y] w (PutR base gw g Ac nc cc vm bs v a b c l (L ++ [x]) (T ++ [y]) M w) := by
  have hk := Try.underlying67
  have HW := Aside0.mk (show WkC w.drew base gw g Ac nc cc vm bs v a b c l vl vt vl vt L T M from wk_below h (below_drew (Below.refl _ _)))
  have HB := Aside0.mk (show Below base w w.drew from below_drew (Below.refl _ _))
  have HLM := Aside0.mk hL
  have HVL := Aside0.mk (Kd.R_val h.2.2.1)
  clear h hL
  go_enter Try.func65, Try.ntmps65
  go_wp2
  refine start_ (n := 22) (S := fun w' => w'.cell? ⟨gw, 4, none⟩ = some vl ∧ w'.cell? ⟨gw, 5, none⟩ = some vt) (ds := [18, 21]) #[false, false, false, false, false, false, false, false, false, false, false, false, false, false, false, false, false, false, false, false, false, false] (by kernel_rfl) rfl rfl ⟨(blk_cell HW.out.1 4).trans rfl, (blk_cell HW.out.1 5).trans rfl⟩ (fun hHeld => ?_)
  generalize w.drew = w1 at HW HB hHeld ⊢
  refine pure_ (i := 0) (N := some 6) (v := ?_) (a' := ?_) #[true, false, false, false, false, false, false, false, false, false, false, false, false, false, false, false, false, false, false, false, false, false] rfl rfl (by kernel_rfl) (fun _ _ _ h => h) (Or.inl ⟨by rfl, ?_⟩) ?_ ?_
  rotate_left
  · intro w'
    go_simp
    with_reducible rfl
  rotate_left
  · simp only [Act.put, List.setIfInBounds_toArray, List.set_cons_zero, List.set_cons_succ, i64_w, i32_w]
    rfl
  refine pure_ (i := 1) (N := some 7) (v := ?_) (a' := ?_) #[true, true, false, false, false, false, false, false, false, false, false, false, false, false, false, false, false, false, false, false, false, false] rfl rfl (by kernel_rfl) (fun _ _ _ h => h) (Or.inl ⟨by rfl, ?_⟩) ?_ ?_
  rotate_left
  · intro w'
    go_simp
    with_reducible rfl
  rotate_left
  · simp only [Act.put, List.setIfInBounds_toArray, List.set_cons_zero, List.set_cons_succ, i64_w, i32_w]
    rfl
  refine pure_ (i := 2) (N := some 8) (v := ?_) (a' := ?_) #[true, true, true, false, false, false, false, false, false, false, false, false, false, false, false, false, false, false, false, false, false, false] rfl rfl (by kernel_rfl) (fun _ _ _ h => h) (Or.inl ⟨by rfl, ?_⟩) ?_ ?_
  rotate_left
  · intro w'
    go_simp
    with_reducible rfl
  rotate_left
  · simp only [Act.put, List.setIfInBounds_toArray, List.set_cons_zero, List.set_cons_succ, i64_w, i32_w]
    rfl
  refine pure_ (i := 3) (N := some 9) (v := ?_) (a' := ?_) #[true, true, true, true, false, false, false, false, false, false, false, false, false, false, false, false, false, false, false, false, false, false] rfl rfl (by kernel_rfl) (fun _ _ _ h => h) (Or.inl ⟨by rfl, ?_⟩) ?_ ?_
  rotate_left
  · intro w'
    go_simp
    with_reducible rfl
  rotate_left
  · simp only [Act.put, List.setIfInBounds_toArray, List.set_cons_zero, List.set_cons_succ, i64_w, i32_w]
    rfl
  refine pure_ (i := 4) (N := some 10) (v := ?_) (a' := ?_) #[true, true, true, true, true, false, false, false, false, false, false, false, false, false, false, false, false, false, false, false, false, false] rfl rfl (by kernel_rfl) (fun _ _ _ h => h) (Or.inl ⟨by rfl, ?_⟩) ?_ ?_
  rotate_left
  · intro w'
    go_simp
    with_reducible rfl
  rotate_left
  · simp only [Act.put, List.setIfInBounds_toArray, List.set_cons_zero, List.set_cons_succ, i64_w, i32_w]
    rfl
  refine take_ (i := 5) (N := some 11) (v := ?_) (a' := ?_) #[true, true, true, true, true, true, false, false, false, false, false, false, false, false, false, false, false, false, false, false, false, false] rfl rfl (by kernel_rfl) (fun _ _ _ h => h) (Or.inl ⟨by rfl, ?_⟩) hHeld ?_ ?_
  rotate_left
  · rintro w' ⟨s0, s1⟩
    go_simp
    with_reducible rfl
  rotate_left
  · simp only [Act.put, List.setIfInBounds_toArray, List.set_cons_zero, List.set_cons_succ, i64_w, i32_w]
    rfl
  refine pure_ (i := 6) (N := some 12) (v := ?_) (a' := ?_) #[true, true, true, true, true, true, true, false, false, false, false, false, false, false, false, false, false, false, false, false, false, false] rfl rfl (by kernel_rfl) (fun _ _ _ h => h) (Or.inl ⟨by rfl, ?_⟩) ?_ ?_
  rotate_left
  · intro w'
    go_simp
    with_reducible rfl
  rotate_left
  · simp only [Act.put, List.setIfInBounds_toArray, List.set_cons_zero, List.set_cons_succ, i64_w, i32_w]
    rfl
  refine pure_ (i := 9) (N := some 15) (v := ?_) (a' := ?_) #[true, true, true, true, true, true, true, false, false, true, false, false, false, false, false, false, false, false, false, false, false, false] rfl rfl (by kernel_rfl) (fun _ _ _ h => h) (Or.inl ⟨by rfl, ?_⟩) ?_ ?_
  rotate_left
  · intro w'
    go_simp
    with_reducible rfl
  rotate_left
  · simp only [Act.put, List.setIfInBounds_toArray, List.set_cons_zero, List.set_cons_succ, i64_w, i32_w]
    rfl
  refine pure_ (i := 10) (N := some 16) (v := ?_) (a' := ?_) #[true, true, true, true, true, true, true, false, false, true, true, false, false, false, false, false, false, false, false, false, false, false] rfl rfl (by kernel_rfl) (fun _ _ _ h => h) (Or.inl ⟨by rfl, ?_⟩) ?_ ?_
  rotate_left
  · intro w'
    go_simp
    with_reducible rfl
  rotate_left
  · simp only [Act.put, List.setIfInBounds_toArray, List.set_cons_zero, List.set_cons_succ, i64_w, i32_w]
    rfl
  refine pure_ (i := 11) (N := some 17) (v := ?_) (a' := ?_) #[true, true, true, true, true, true, true, false, false, true, true, true, false, false, false, false, false, false, false, false, false, false] rfl rfl (by kernel_rfl) (fun _ _ _ h => h) (Or.inl ⟨by rfl, ?_⟩) ?_ ?_
  rotate_left
  · intro w'
    go_simp
    with_reducible rfl
  rotate_left
  · simp only [Act.put, List.setIfInBounds_toArray, List.set_cons_zero, List.set_cons_succ, i64_w, i32_w]
    rfl
  refine take_ (i := 12) (N := some 18) (v := ?_) (a' := ?_) #[true, true, true, true, true, true, true, false, false, true, true, true, true, false, false, false, false, false, false, false, false, false] rfl rfl (by kernel_rfl) (fun _ _ _ h => h) (Or.inl ⟨by rfl, ?_⟩) hHeld ?_ ?_
  rotate_left
  · rintro w' ⟨s0, s1⟩
    go_simp
    with_reducible rfl
  rotate_left
  · simp only [Act.put, List.setIfInBounds_toArray, List.set_cons_zero, List.set_cons_succ, i64_w, i32_w]
    rfl
  refine pure_ (i := 13) (N := some 19) (v := ?_) (a' := ?_) #[true, true, true, true, true, true, true, false, false, true, true, true, true, true, false, false, false, false, false, false, false, false] rfl rfl (by kernel_rfl) (fun _ _ _ h => h) (Or.inl ⟨by rfl, ?_⟩) ?_ ?_
  rotate_left
  · intro w'
    go_simp
    with_reducible rfl
  rotate_left
  · simp only [Act.put, List.setIfInBounds_toArray, List.set_cons_zero, List.set_cons_succ, i64_w, i32_w]
    rfl
  refine join_ (σ := Value × Value × Nat × Nat) 6 #[true, true, true, true, true, true, true, true, true, true, true, true, true, true, true, true, false, false, false, false, false, false] (fun s => [(13, .slice (some ⟨s.2.2.1, 0, none⟩) 1 1), (14, s.1), (20, .slice (some ⟨s.2.2.2, 0, none⟩) 1 1), (21, s.2.1)]) (fun s w' => WkC w' base gw g Ac nc cc vm bs v a b c l vl vt s.1 s.2.1 (L ++ [x]) (T ++ [y]) M ∧ Below base w w') ?_ (fun hc => ?_)
  rotate_left
  · refine two_ (i := 7) (j := 14) (Ni := some 13) (Nj := some 20) #[true, true, true, true, true, true, true, true, false, true, true, true, true, true, false, false, false, false, false, false, false, false] #[true, true, true, true, true, true, true, false, false, true, true, true, true, true, true, false, false, false, false, false, false, false] rfl rfl rfl rfl (by kernel_rfl) (by decide) (by decide) (fun K hK => ?_) (fun K hK => ?_)
    · refine value_ (w1 := ?_) (v := ?_) (by rfl) rfl ?_ ?_
      rotate_left 2
      · go_simp
        constructor
        · rfl
        · rfl
      have HB1 := Aside0.mk (show Below base w (w1.alloc (.cells #[.int .i64 x] 3)) from below_then HB.out (by have := (HW.out).2.2.2.2.2; have := blk_lt HW.out.1; omega) (below_alloc (Below.refl _ _) _))
      have HW1 := Aside0.mk (show WkC (w1.alloc (.cells #[.int .i64 x] 3)) base gw g Ac nc cc vm bs v a b c l vl vt vl vt L T M from wk_below HW.out (below_alloc (Below.refl _ _) (.cells #[.int .i64 x] 3)))
      have BN1_1 := Aside0.mk (blk_new w1 (.cells #[.int .i64 x] 3))
      refine hK.out _ _ ⟨(blk_cell HW1.out.1 4).trans rfl, (blk_cell HW1.out.1 5).trans rfl⟩ (fun hHeld => ?_)
      clear hK K
      simp only [Act.put, List.setIfInBounds_toArray, List.set_cons_zero, List.set_cons_succ, i64_w, i32_w]
      have HNB1_vl := Aside0.mk (show some w1.heap.size ≠ (vl).ownBlock from fun e => by have := Kd.R_lt (HW.out.2.2.1) _ e.symm; omega)
      have HNB1_vt := Aside0.mk (show some w1.heap.size ≠ (vt).ownBlock from fun e => by have := Kd.R_lt (HW.out.2.2.2.1) _ e.symm; omega)
      generalize w1.heap.size = g1_1 at BN1_1 HNB1_vl HNB1_vt ⊢
      generalize w1.alloc (.cells #[.int .i64 x] 3) = w11 at HW1 HB1 BN1_1 hHeld ⊢
      refine two_ (i := 8) (j := 14) (Ni := some 14) (Nj := some 20) #[true, true, true, true, true, true, true, true, true, true, true, true, true, true, false, false, false, false, false, false, false, false] #[true, true, true, true, true, true, true, true, false, true, true, true, true, true, true, false, false, false, false, false, false, false] rfl rfl rfl rfl (by kernel_rfl) (by decide) (by decide) (fun K hK => ?_) (fun K hK => ?_)
      · refine Kd.R_append_rows_step kI (Rr := kI.K w11) (w0 := w) base (by rfl) (.tmp 11) (.tmp 13) 22 3 (.int .i64 0) 8 rfl Try.underlying22 infoI rfl (by decide) (by omega) (vl) (L) [x] (some ⟨g1_1, 0, none⟩) 1 1 (fun k => some k ≠ (vt).ownBlock ∧ some k ≠ vm.ownBlock) (fun _ => False) rfl rfl ?aO2 ?aR2 ?aM2 (fun _ hk => hk.elim) ?aF2 ?aB2 ?aS2 ?aL2 ?_
        (case aO2 => exact HW1.out.2.2.1)
        (case aR2 => exact kI_C_one BN1_1.out)
        (case aM2 => exact (fun _ _ hK => hK))
        (case aF2 => exact (fun k hk => ⟨fun e => by have := Kd.R_lt (HW1.out.2.2.2.1) k e.symm; omega, fun e => by have := Kd.R_lt (HW1.out.2.2.2.2.1) k e.symm; omega⟩))
        (case aB2 => exact HB1.out)
        (case aS2 => exact (by have := HW1.out.2.2.2.2.2; have := blk_lt HW1.out.1; omega))
        (case aL2 => have := HLM.out; omega)
        intro vl_2 w12 ho hb hg_ hat
        have HW2 := Aside0.mk (show WkC w12 base gw g Ac nc cc vm bs v a b c l vl vt vl_2 vt (L ++ [x]) T M from wk_app1 HW1.out hg_ ho hat)
        have HB2 := Aside0.mk hb
        clear ho hb hg_ hat
        refine hK.out _ _ ⟨(blk_cell HW2.out.1 4).trans rfl, (blk_cell HW2.out.1 5).trans rfl⟩ (fun hHeld => ?_)
        clear hK K
        simp only [Act.put, List.setIfInBounds_toArray, List.set_cons_zero, List.set_cons_succ, i64_w, i32_w]
        refine one_ (i := 14) (N := some 20) #[true, true, true, true, true, true, true, true, true, true, true, true, true, true, true, false, false, false, false, false, false, false] rfl rfl (by kernel_rfl) (by decide) (fun K hK => ?_)
        refine value_ (w1 := ?_) (v := ?_) (by rfl) rfl ?_ ?_
        rotate_left 2
        · go_simp
          constructor
          · rfl
          · rfl
        have HB3 := Aside0.mk (show Below base w (w12.alloc (.cells #[.int .i64 y] 3)) from below_then HB2.out (by have := (HW2.out).2.2.2.2.2; have := blk_lt HW2.out.1; omega) (below_alloc (Below.refl _ _) _))
        have HW3 := Aside0.mk (show WkC (w12.alloc (.cells #[.int .i64 y] 3)) base gw g Ac nc cc vm bs v a b c l vl vt vl_2 vt (L ++ [x]) T M from wk_below HW2.out (below_alloc (Below.refl _ _) (.cells #[.int .i64 y] 3)))
        have BN2_3 := Aside0.mk (blk_new w12 (.cells #[.int .i64 y] 3))
        refine hK.out _ _ ⟨(blk_cell HW3.out.1 4).trans rfl, (blk_cell HW3.out.1 5).trans rfl⟩ (fun hHeld => ?_)
        clear hK K
        simp only [Act.put, List.setIfInBounds_toArray, List.set_cons_zero, List.set_cons_succ, i64_w, i32_w]
        have HNB2_vl := Aside0.mk (show some w12.heap.size ≠ (vl_2).ownBlock from fun e => by have := Kd.R_lt (HW2.out.2.2.1) _ e.symm; omega)
        have HNB2_vt := Aside0.mk (show some w12.heap.size ≠ (vt).ownBlock from fun e => by have := Kd.R_lt (HW2.out.2.2.2.1) _ e.symm; omega)
        generalize w12.heap.size = g2_3 at BN2_3 HNB2_vl HNB2_vt ⊢
        generalize w12.alloc (.cells #[.int .i64 y] 3) = w13 at HW3 HB3 BN2_3 hHeld ⊢
        refine one_ (i := 15) (N := some 21) #[true, true, true, true, true, true, true, true, true, true, true, true, true, true, true, true, false, false, false, false, false, false] rfl rfl (by kernel_rfl) (by decide) (fun K hK => ?_)
        refine Kd.R_append_rows_step kI (Rr := kI.K w13) (w0 := w) base (by rfl) (.tmp 18) (.tmp 20) 22 3 (.int .i64 0) 8 rfl Try.underlying22 infoI rfl (by decide) (by omega) (vt) (T) [y] (some ⟨g2_3, 0, none⟩) 1 1 (fun k => some k ≠ (vl_2).ownBlock ∧ some k ≠ vm.ownBlock) (fun _ => False) rfl rfl ?aO4 ?aR4 ?aM4 (fun _ hk => hk.elim) ?aF4 ?aB4 ?aS4 ?aL4 ?_
        (case aO4 => exact HW3.out.2.2.2.1)
        (case aR4 => exact kI_C_one BN2_3.out)
        (case aM4 => exact (fun _ _ hK => hK))
        (case aF4 => exact (fun k hk => ⟨fun e => by have := Kd.R_lt (HW3.out.2.2.1) k e.symm; omega, fun e => by have := Kd.R_lt (HW3.out.2.2.2.2.1) k e.symm; omega⟩))
        (case aB4 => exact HB3.out)
        (case aS4 => exact (by have := HW3.out.2.2.2.2.2; have := blk_lt HW3.out.1; omega))
        (case aL4 => have := HLM.out; omega)
        intro vt_4 w14 ho hb hg_ hat
        have HW4 := Aside0.mk (show WkC w14 base gw g Ac nc cc vm bs v a b c l vl vt vl_2 vt_4 (L ++ [x]) (T ++ [y]) M from wk_app2 HW3.out hg_ ho hat)
        have HB4 := Aside0.mk hb
        clear ho hb hg_ hat
        refine hK.out _ _ ⟨(blk_cell HW4.out.1 4).trans rfl, (blk_cell HW4.out.1 5).trans rfl⟩ (fun hHeld => ?_)
        clear hK K
        simp only [Act.put, List.setIfInBounds_toArray, List.set_cons_zero, List.set_cons_succ, i64_w, i32_w]
        exact hc (vl_2, vt_4, g1_1, g2_3) _ ⟨HW4.out, HB4.out⟩
      · refine value_ (w1 := ?_) (v := ?_) (by rfl) rfl ?_ ?_
        rotate_left 2
        · go_simp
          constructor
          · rfl
          · rfl
        have HB5 := Aside0.mk (show Below base w (w11.alloc (.cells #[.int .i64 y] 3)) from below_then HB1.out (by have := (HW1.out).2.2.2.2.2; have := blk_lt HW1.out.1; omega) (below_alloc (Below.refl _ _) _))
        have HW5 := Aside0.mk (show WkC (w11.alloc (.cells #[.int .i64 y] 3)) base gw g Ac nc cc vm bs v a b c l vl vt vl vt L T M from wk_below HW1.out (below_alloc (Below.refl _ _) (.cells #[.int .i64 y] 3)))
        have BN1_5 := Aside0.mk (blk_alloc BN1_1.out (.cells #[.int .i64 y] 3))
        have BN2_5 := Aside0.mk (blk_new w11 (.cells #[.int .i64 y] 3))
        refine hK.out _ _ ⟨(blk_cell HW5.out.1 4).trans rfl, (blk_cell HW5.out.1 5).trans rfl⟩ (fun hHeld => ?_)
        clear hK K
        simp only [Act.put, List.setIfInBounds_toArray, List.set_cons_zero, List.set_cons_succ, i64_w, i32_w]
        have HNB2_vl := Aside0.mk (show some w11.heap.size ≠ (vl).ownBlock from fun e => by have := Kd.R_lt (HW1.out.2.2.1) _ e.symm; omega)
        have HNB2_vt := Aside0.mk (show some w11.heap.size ≠ (vt).ownBlock from fun e => by have := Kd.R_lt (HW1.out.2.2.2.1) _ e.symm; omega)
        generalize w11.heap.size = g2_5 at BN2_5 HNB2_vl HNB2_vt ⊢
        generalize w11.alloc (.cells #[.int .i64 y] 3) = w15 at HW5 HB5 BN1_5 BN2_5 hHeld ⊢
        refine one_ (i := 8) (N := some 14) #[true, true, true, true, true, true, true, true, true, true, true, true, true, true, true, false, false, false, false, false, false, false] rfl rfl (by kernel_rfl) (by decide) (fun K hK => ?_)
        refine Kd.R_append_rows_step kI (Rr := kI.K w15) (w0 := w) base (by rfl) (.tmp 11) (.tmp 13) 22 3 (.int .i64 0) 8 rfl Try.underlying22 infoI rfl (by decide) (by omega) (vl) (L) [x] (some ⟨g1_1, 0, none⟩) 1 1 (fun k => some k ≠ (vt).ownBlock ∧ some k ≠ vm.ownBlock) (fun _ => False) rfl rfl ?aO6 ?aR6 ?aM6 (fun _ hk => hk.elim) ?aF6 ?aB6 ?aS6 ?aL6 ?_
        (case aO6 => exact HW5.out.2.2.1)
        (case aR6 => exact kI_C_one BN1_5.out)
        (case aM6 => exact (fun _ _ hK => hK))
        (case aF6 => exact (fun k hk => ⟨fun e => by have := Kd.R_lt (HW5.out.2.2.2.1) k e.symm; omega, fun e => by have := Kd.R_lt (HW5.out.2.2.2.2.1) k e.symm; omega⟩))
        (case aB6 => exact HB5.out)
        (case aS6 => exact (by have := HW5.out.2.2.2.2.2; have := blk_lt HW5.out.1; omega))
        (case aL6 => have := HLM.out; omega)
        intro vl_6 w16 ho hb hg_ hat
        have HW6 := Aside0.mk (show WkC w16 base gw g Ac nc cc vm bs v a b c l vl vt vl_6 vt (L ++ [x]) T M from wk_app1 HW5.out hg_ ho hat)
        have HB6 := Aside0.mk hb
        have BN2_6 := Aside0.mk (blk_grown BN2_5.out hg_ (fun e => HNB2_vl.out e))
        clear ho hb hg_ hat
        refine hK.out _ _ ⟨(blk_cell HW6.out.1 4).trans rfl, (blk_cell HW6.out.1 5).trans rfl⟩ (fun hHeld => ?_)
        clear hK K
        simp only [Act.put, List.setIfInBounds_toArray, List.set_cons_zero, List.set_cons_succ, i64_w, i32_w]
        refine one_ (i := 15) (N := some 21) #[true, true, true, true, true, true, true, true, true, true, true, true, true, true, true, true, false, false, false, false, false, false] rfl rfl (by kernel_rfl) (by decide) (fun K hK => ?_)
        refine Kd.R_append_rows_step kI (Rr := kI.K w16) (w0 := w) base (by rfl) (.tmp 18) (.tmp 20) 22 3 (.int .i64 0) 8 rfl Try.underlying22 infoI rfl (by decide) (by omega) (vt) (T) [y] (some ⟨g2_5, 0, none⟩) 1 1 (fun k => some k ≠ (vl_6).ownBlock ∧ some k ≠ vm.ownBlock) (fun _ => False) rfl rfl ?aO7 ?aR7 ?aM7 (fun _ hk => hk.elim) ?aF7 ?aB7 ?aS7 ?aL7 ?_
        (case aO7 => exact HW6.out.2.2.2.1)
        (case aR7 => exact kI_C_one BN2_6.out)
        (case aM7 => exact (fun _ _ hK => hK))
        (case aF7 => exact (fun k hk => ⟨fun e => by have := Kd.R_lt (HW6.out.2.2.1) k e.symm; omega, fun e => by have := Kd.R_lt (HW6.out.2.2.2.2.1) k e.symm; omega⟩))
        (case aB7 => exact HB6.out)
        (case aS7 => exact (by have := HW6.out.2.2.2.2.2; have := blk_lt HW6.out.1; omega))
        (case aL7 => have := HLM.out; omega)
        intro vt_7 w17 ho hb hg_ hat
        have HW7 := Aside0.mk (show WkC w17 base gw g Ac nc cc vm bs v a b c l vl vt vl_6 vt_7 (L ++ [x]) (T ++ [y]) M from wk_app2 HW6.out hg_ ho hat)
        have HB7 := Aside0.mk hb
        clear ho hb hg_ hat
        refine hK.out _ _ ⟨(blk_cell HW7.out.1 4).trans rfl, (blk_cell HW7.out.1 5).trans rfl⟩ (fun hHeld => ?_)
        clear hK K
        simp only [Act.put, List.setIfInBounds_toArray, List.set_cons_zero, List.set_cons_succ, i64_w, i32_w]
        exact hc (vl_6, vt_7, g1_1, g2_5) _ ⟨HW7.out, HB7.out⟩
    · refine value_ (w1 := ?_) (v := ?_) (by rfl) rfl ?_ ?_
      rotate_left 2
      · go_simp
        constructor
        · rfl
        · rfl
      have HB8 := Aside0.mk (show Below base w (w1.alloc (.cells #[.int .i64 y] 3)) from below_then HB.out (by have := (HW.out).2.2.2.2.2; have := blk_lt HW.out.1; omega) (below_alloc (Below.refl _ _) _))
      have HW8 := Aside0.mk (show WkC (w1.alloc (.cells #[.int .i64 y] 3)) base gw g Ac nc cc vm bs v a b c l vl vt vl vt L T M from wk_below HW.out (below_alloc (Below.refl _ _) (.cells #[.int .i64 y] 3)))
      have BN2_8 := Aside0.mk (blk_new w1 (.cells #[.int .i64 y] 3))
      refine hK.out _ _ ⟨(blk_cell HW8.out.1 4).trans rfl, (blk_cell HW8.out.1 5).trans rfl⟩ (fun hHeld => ?_)
      clear hK K
      simp only [Act.put, List.setIfInBounds_toArray, List.set_cons_zero, List.set_cons_succ, i64_w, i32_w]
      have HNB2_vl := Aside0.mk (show some w1.heap.size ≠ (vl).ownBlock from fun e => by have := Kd.R_lt (HW.out.2.2.1) _ e.symm; omega)
      have HNB2_vt := Aside0.mk (show some w1.heap.size ≠ (vt).ownBlock from fun e => by have := Kd.R_lt (HW.out.2.2.2.1) _ e.symm; omega)
      generalize w1.heap.size = g2_8 at BN2_8 HNB2_vl HNB2_vt ⊢
      generalize w1.alloc (.cells #[.int .i64 y] 3) = w18 at HW8 HB8 BN2_8 hHeld ⊢
      refine one_ (i := 7) (N := some 13) #[true, true, true, true, true, true, true, true, false, true, true, true, true, true, true, false, false, false, false, false, false, false] rfl rfl (by kernel_rfl) (by decide) (fun K hK => ?_)
      refine value_ (w1 := ?_) (v := ?_) (by rfl) rfl ?_ ?_
      rotate_left 2
      · go_simp
        constructor
        · rfl
        · rfl
      have HB9 := Aside0.mk (show Below base w (w18.alloc (.cells #[.int .i64 x] 3)) from below_then HB8.out (by have := (HW8.out).2.2.2.2.2; have := blk_lt HW8.out.1; omega) (below_alloc (Below.refl _ _) _))
      have HW9 := Aside0.mk (show WkC (w18.alloc (.cells #[.int .i64 x] 3)) base gw g Ac nc cc vm bs v a b c l vl vt vl vt L T M from wk_below HW8.out (below_alloc (Below.refl _ _) (.cells #[.int .i64 x] 3)))
      have BN2_9 := Aside0.mk (blk_alloc BN2_8.out (.cells #[.int .i64 x] 3))
      have BN1_9 := Aside0.mk (blk_new w18 (.cells #[.int .i64 x] 3))
      refine hK.out _ _ ⟨(blk_cell HW9.out.1 4).trans rfl, (blk_cell HW9.out.1 5).trans rfl⟩ (fun hHeld => ?_)
      clear hK K
      simp only [Act.put, List.setIfInBounds_toArray, List.set_cons_zero, List.set_cons_succ, i64_w, i32_w]
      have HNB1_vl := Aside0.mk (show some w18.heap.size ≠ (vl).ownBlock from fun e => by have := Kd.R_lt (HW8.out.2.2.1) _ e.symm; omega)
      have HNB1_vt := Aside0.mk (show some w18.heap.size ≠ (vt).ownBlock from fun e => by have := Kd.R_lt (HW8.out.2.2.2.1) _ e.symm; omega)
      generalize w18.heap.size = g1_9 at BN1_9 HNB1_vl HNB1_vt ⊢
      generalize w18.alloc (.cells #[.int .i64 x] 3) = w19 at HW9 HB9 BN1_9 BN2_9 hHeld ⊢
      refine one_ (i := 8) (N := some 14) #[true, true, true, true, true, true, true, true, true, true, true, true, true, true, true, false, false, false, false, false, false, false] rfl rfl (by kernel_rfl) (by decide) (fun K hK => ?_)
      refine Kd.R_append_rows_step kI (Rr := kI.K w19) (w0 := w) base (by rfl) (.tmp 11) (.tmp 13) 22 3 (.int .i64 0) 8 rfl Try.underlying22 infoI rfl (by decide) (by omega) (vl) (L) [x] (some ⟨g1_9, 0, none⟩) 1 1 (fun k => some k ≠ (vt).ownBlock ∧ some k ≠ vm.ownBlock) (fun _ => False) rfl rfl ?aO10 ?aR10 ?aM10 (fun _ hk => hk.elim) ?aF10 ?aB10 ?aS10 ?aL10 ?_
      (case aO10 => exact HW9.out.2.2.1)
      (case aR10 => exact kI_C_one BN1_9.out)
      (case aM10 => exact (fun _ _ hK => hK))
      (case aF10 => exact (fun k hk => ⟨fun e => by have := Kd.R_lt (HW9.out.2.2.2.1) k e.symm; omega, fun e => by have := Kd.R_lt (HW9.out.2.2.2.2.1) k e.symm; omega⟩))
      (case aB10 => exact HB9.out)
      (case aS10 => exact (by have := HW9.out.2.2.2.2.2; have := blk_lt HW9.out.1; omega))
      (case aL10 => have := HLM.out; omega)
      intro vl_10 w20 ho hb hg_ hat
      have HW10 := Aside0.mk (show WkC w20 base gw g Ac nc cc vm bs v a b c l vl vt vl_10 vt (L ++ [x]) T M from wk_app1 HW9.out hg_ ho hat)
      have HB10 := Aside0.mk hb
      have BN2_10 := Aside0.mk (blk_grown BN2_9.out hg_ (fun e => HNB2_vl.out e))
      clear ho hb hg_ hat
      refine hK.out _ _ ⟨(blk_cell HW10.out.1 4).trans rfl, (blk_cell HW10.out.1 5).trans rfl⟩ (fun hHeld => ?_)
      clear hK K
      simp only [Act.put, List.setIfInBounds_toArray, List.set_cons_zero, List.set_cons_succ, i64_w, i32_w]
      refine one_ (i := 15) (N := some 21) #[true, true, true, true, true, true, true, true, true, true, true, true, true, true, true, true, false, false, false, false, false, false] rfl rfl (by kernel_rfl) (by decide) (fun K hK => ?_)
      refine Kd.R_append_rows_step kI (Rr := kI.K w20) (w0 := w) base (by rfl) (.tmp 18) (.tmp 20) 22 3 (.int .i64 0) 8 rfl Try.underlying22 infoI rfl (by decide) (by omega) (vt) (T) [y] (some ⟨g2_8, 0, none⟩) 1 1 (fun k => some k ≠ (vl_10).ownBlock ∧ some k ≠ vm.ownBlock) (fun _ => False) rfl rfl ?aO11 ?aR11 ?aM11 (fun _ hk => hk.elim) ?aF11 ?aB11 ?aS11 ?aL11 ?_
      (case aO11 => exact HW10.out.2.2.2.1)
      (case aR11 => exact kI_C_one BN2_10.out)
      (case aM11 => exact (fun _ _ hK => hK))
      (case aF11 => exact (fun k hk => ⟨fun e => by have := Kd.R_lt (HW10.out.2.2.1) k e.symm; omega, fun e => by have := Kd.R_lt (HW10.out.2.2.2.2.1) k e.symm; omega⟩))
      (case aB11 => exact HB10.out)
      (case aS11 => exact (by have := HW10.out.2.2.2.2.2; have := blk_lt HW10.out.1; omega))
      (case aL11 => have := HLM.out; omega)
      intro vt_11 w21 ho hb hg_ hat
      have HW11 := Aside0.mk (show WkC w21 base gw g Ac nc cc vm bs v a b c l vl vt vl_10 vt_11 (L ++ [x]) (T ++ [y]) M from wk_app2 HW10.out hg_ ho hat)
      have HB11 := Aside0.mk hb
      clear ho hb hg_ hat
      refine hK.out _ _ ⟨(blk_cell HW11.out.1 4).trans rfl, (blk_cell HW11.out.1 5).trans rfl⟩ (fun hHeld => ?_)
      clear hK K
      simp only [Act.put, List.setIfInBounds_toArray, List.set_cons_zero, List.set_cons_succ, i64_w, i32_w]
      exact hc (vl_10, vt_11, g1_9, g2_8) _ ⟨HW11.out, HB11.out⟩
  rintro ⟨vl2, vt2, g5, g6⟩ w8 ⟨hwk, hbb⟩
  dsimp only at hwk
  obtain ⟨Al, cl, el⟩ := Kd.R_slice hwk.2.2.1
  obtain ⟨At, ct, et⟩ := Kd.R_slice hwk.2.2.2.1
  generalize (L ++ [x]).length = nl at el
  generalize (T ++ [y]).length = nt at et
  subst el et
  have HWE := Aside0.mk hwk
  have HBE := Aside0.mk hbb
  clear hwk hbb hHeld
  simp only [putAll, Act.put, List.setIfInBounds_toArray, List.set_cons_zero, List.set_cons_succ, i64_w, i32_w]
  refine pure_ (i := 16) (N := some 22) (v := ?_) (a' := ?_) #[true, true, true, true, true, true, true, true, true, true, true, true, true, true, true, true, true, false, false, false, false, false] rfl rfl (by kernel_rfl) (fun _ _ _ h => h) (Or.inl ⟨by rfl, ?_⟩) ?_ ?_
  rotate_left
  · intro w'
    go_simp
    with_reducible rfl
  rotate_left
  · simp only [Act.put, List.setIfInBounds_toArray, List.set_cons_zero, List.set_cons_succ, i64_w, i32_w]
    rfl
  refine pure_ (i := 17) (N := some 23) (v := ?_) (a' := ?_) #[true, true, true, true, true, true, true, true, true, true, true, true, true, true, true, true, true, true, false, false, false, false] rfl rfl (by kernel_rfl) (fun _ _ _ h => h) (Or.inl ⟨by rfl, ?_⟩) ?_ ?_
  rotate_left
  · intro w'
    go_simp
    with_reducible rfl
  rotate_left
  · simp only [Act.put, List.setIfInBounds_toArray, List.set_cons_zero, List.set_cons_succ, i64_w, i32_w]
    rfl
  refine last_ (i := 18) (N := none) #[true, true, true, true, true, true, true, true, true, true, true, true, true, true, true, true, true, true, true, false, false, false] rfl rfl (by kernel_rfl) (by decide) (fun K hK => ?_)
  have hs4 := (blk_cell HWE.out.1 4).trans rfl
  have hf4 := blk_frozen HWE.out.1 4
  refine skip_ (w1 := w8.setCell ⟨gw, 4, none⟩ (.slice Al nl cl)) (by rfl) rfl ?_ ?_
  · first | (go_simp; done) | (go_simp; rfl)
  have HW4 := Aside0.mk (show WkC (w8.setCell ⟨gw, 4, none⟩ (.slice Al nl cl)) base gw g Ac nc cc vm bs v a b c l (.slice Al nl cl) vt (.slice Al nl cl) (.slice At nt ct) (L ++ [x]) (T ++ [y]) M from wk_set HWE.out 4 _ rfl)
  have HB4 := Aside0.mk (show Below base w (w8.setCell ⟨gw, 4, none⟩ (.slice Al nl cl)) from HBE.out.setCell (by have := HWE.out.2.2.2.2.2; exact this) _)
  refine hK.out _ _ ?_
  clear hK K hs4 hf4
  generalize w8.setCell ⟨gw, 4, none⟩ (.slice Al nl cl) = w9 at HW4 HB4 ⊢
  refine pure_ (i := 19) (N := some 24) (v := ?_) (a' := ?_) #[true, true, true, true, true, true, true, true, true, true, true, true, true, true, true, true, true, true, true, true, false, false] rfl rfl (by kernel_rfl) (fun _ _ _ h => h) (Or.inl ⟨by rfl, ?_⟩) ?_ ?_
  rotate_left
  · intro w'
    go_simp
    with_reducible rfl
  rotate_left
  · simp only [Act.put, List.setIfInBounds_toArray, List.set_cons_zero, List.set_cons_succ, i64_w, i32_w]
    rfl
  refine pure_ (i := 20) (N := some 25) (v := ?_) (a' := ?_) #[true, true, true, true, true, true, true, true, true, true, true, true, true, true, true, true, true, true, true, true, true, false] rfl rfl (by kernel_rfl) (fun _ _ _ h => h) (Or.inl ⟨by rfl, ?_⟩) ?_ ?_
  rotate_left
  · intro w'
    go_simp
    with_reducible rfl
  rotate_left
  · simp only [Act.put, List.setIfInBounds_toArray, List.set_cons_zero, List.set_cons_succ, i64_w, i32_w]
    rfl
  refine last_ (i := 21) (N := none) #[true, true, true, true, true, true, true, true, true, true, true, true, true, true, true, true, true, true, true, true, true, true] rfl rfl (by kernel_rfl) (by decide) (fun K hK => ?_)
  have hs5 := (blk_cell HW4.out.1 5).trans rfl
  have hf5 := blk_frozen HW4.out.1 5
  refine skip_ (w1 := w9.setCell ⟨gw, 5, none⟩ (.slice At nt ct)) (by rfl) rfl ?_ ?_
  · first | (go_simp; done) | (go_simp; rfl)
  have HW5 := Aside0.mk (show WkC (w9.setCell ⟨gw, 5, none⟩ (.slice At nt ct)) base gw g Ac nc cc vm bs v a b c l (.slice Al nl cl) (.slice At nt ct) (.slice Al nl cl) (.slice At nt ct) (L ++ [x]) (T ++ [y]) M from wk_set HW4.out 5 _ rfl)
  have HB5 := Aside0.mk (show Below base w (w9.setCell ⟨gw, 5, none⟩ (.slice At nt ct)) from HB4.out.setCell (by have := HW4.out.2.2.2.2.2; exact this) _)
  refine hK.out _ _ ?_
  clear hK K hs5 hf5
  generalize w9.setCell ⟨gw, 5, none⟩ (.slice At nt ct) = w10_ at HW5 HB5 ⊢
  refine done_ (by kernel_rfl) ?_
  go_wp2
  first | go_end0 | ((try simp only [Exit.inBlock, Exit.then]); refine bodyPost_ret (results_none rfl _ _ _) rfl ?_)
  unfold PutR
  exact ⟨_, _, by first | rfl | simp [*], HW5.out, HB5.out⟩
end Go.Proofs.Ytbkdaafphcfpdaa.Stk
