import Derived.Test.YtbkdaafphcfpdaaSqP1
namespace Go.Proofs.Ytbkdaafphcfpdaa.Stk
open Go.RowKit Go.Proofs.YtbkdaafphcfpdaaW.PrintWords Go.Proofs.YtbkdaafphcfpdaaW.PrintLast Go.Proofs.YtbkdaafphcfpdaaW.PrintMore
attribute [local go_sem] max2_int min2_int max_two min_two max_three min_three max_four min_four   -- for this text's walks alone
set_option linter.unusedVariables false
set_option linter.unusedSimpArgs false
theorem add0 (a : Addr) : a.add 0 = a := by simp [Addr.add]
theorem b_step {w W w2 : World} {r : Nat} (hr : w.heap.size = r) (h : Below r w W) (k : Below W.heap.size W w2) : Below r w w2 := by
  subst hr; exact below_step h k
theorem b_cell {w W : World} {r : Nat} {a : Addr} {v : Value} (hr : w.heap.size = r) (h : Below r w W) (hc : w.cell? a = some v) : W.cell? a = some v := by
  subst hr; exact (h.cell (World.block_lt_of_cell? w _ hc)).trans hc
theorem b_set {w W : World} {r q j : Nat} {v : Value} (hr : w.heap.size = r) (h : Below r w W) (hq : r ≤ q) : Below r w (W.setCell ⟨q, j, none⟩ v) := by
  subst hr; exact below_set h hq
theorem b_near {w : World} {g rb : Nat} {L B M K : List Int} {bs : Int} {f : Int → Option Value} (h : Tx w g rb L B M K bs f) (i y r v : Int) (hi : (Lit.int .i64 i).wf = true) (hf : (f i).getD (.int .i64 0) = .int .i64 r) (hv : nearF L K bs (wrap64 (r + y)) = some v) :
    Calls Try.prog 54 #[.pointer (some ⟨g, 0, none⟩), .int .i64 i, .int .i64 y] w fun e w' => e = .returned (.int .i64 v) ∧ Below w.heap.size w w' :=
  (p_near h i y r v hi hf hv).mono fun _ _ ⟨a, n, e⟩ => ⟨a, by rw [e]; exact pw_below_drewN (Below.refl _ _) n⟩
theorem b_iso {w : World} {g rb : Nat} {L B M K : List Int} {bs : Int} {f : Int → Option Value} (h : Tx w g rb L B M K bs f) (i : Int) (h0 : 0 ≤ i) (h1 : i < (B.length : Int)) (h2 : i < (M.length : Int)) :
    Calls Try.prog 36 #[.pointer (some ⟨g, 0, none⟩), .int .i64 i] w fun e w' => e = .returned (.tuple #[.int .i64 (if isoB (rd B i) = true then rd M i else 0), .bool (isoB (rd B i))]) ∧ Below w.heap.size w w' :=
  (p_iso h i h0 h1 h2).mono fun _ _ ⟨a, n, e⟩ => ⟨a, by rw [e]; exact pw_below_drewN (Below.refl _ _) n⟩
theorem b_dir (a b : Int) (w : World) : Calls Try.prog 53 #[.int .i64 a, .int .i64 b] w fun e w' => e = .returned (.int .i64 (dirF a b)) ∧ Below w.heap.size w w' :=
  (p_dir a b w).mono fun _ _ ⟨a, n, e⟩ => ⟨a, by rw [e]; exact pw_below_drewN (Below.refl _ _) n⟩
set_option maxHeartbeats 8000000 in
set_option maxRecDepth 100000 in
theorem p_seq_no {w : World} {g rb : Nat} {L B M K at_ : List Int} {bs : Int} {f : Int → Option Value} (h : Tx w g rb L B M K bs f) {A : Option Addr} {c : Nat} (hA : Kd.C (Kd.int .i64) w A at_.length at_) (x y z r1 r2 v1 v2 : Int) (hz : wrap64 ((at_.length : Int) - 1) = z) (hz0 : 0 ≤ z) (hz1 : z < (at_.length : Int)) (hx : rd at_ 0 = x) (hy : rd at_ z = y)
    (hx0 : 0 ≤ x) (hx1 : x < (L.length : Int)) (hy0 : 0 ≤ y) (hy1 : y < (L.length : Int)) (hy2 : y < (B.length : Int)) (hy3 : y < (M.length : Int)) (wx : (Lit.int .i64 x).wf = true) (wy : (Lit.int .i64 y).wf = true)
    (hf1 : (f x).getD (.int .i64 0) = .int .i64 r1) (hf2 : (f y).getD (.int .i64 0) = .int .i64 r2) (hv1 : nearF L K bs (wrap64 (r1 + -1)) = some v1) (hv2 : nearF L K bs (wrap64 (r2 + 1)) = some v2) (hi : isoB (rd B y) = false) :
    Calls Try.prog 37 #[.pointer (some ⟨g, 0, none⟩), .slice A at_.length c] w fun e w' => e = .returned (.agg #[.slice A at_.length c, .int .i64 (rd L x), .int .i64 (dirF (rd L x) v1), .int .i64 (dirF (rd L y) v2)]) ∧ Below w.heap.size w w' := by
  have HT := Aside0.mk h
  have HA := Aside0.mk hA
  have hl0 : 0 < (at_.length : Int) := by omega
  obtain ⟨aa, e, xa0⟩ := Kd.at_int hA 0 (by omega) hl0
  cases e
  obtain ⟨_, e, xa1⟩ := Kd.at_int hA z hz0 hz1
  cases e
  rw [hx] at xa0
  rw [hy] at xa1
  have HN1 := Aside0.mk (fun (W : World) (hb : Below w.heap.size w W) => b_near (tx_below h hb) x (-1) r1 v1 wx hf1 hv1)
  have HN2 := Aside0.mk (fun (W : World) (hb : Below w.heap.size w W) => b_near (tx_below h hb) y 1 r2 v2 wy hf2 hv2)
  have HI := Aside0.mk (fun (W : World) (hb : Below w.heap.size w W) => (show Calls Try.prog 36 #[.pointer (some ⟨g, 0, none⟩), .int .i64 y] W (fun e w' => e = .returned (.tuple #[.int .i64 0, .bool false]) ∧ Below W.heap.size W w') from by
    have h1 := b_iso (tx_below h hb) y hy0 hy2 hy3
    rw [hi] at h1
    simpa using h1))
  obtain ⟨Al, cl, Ab, cb, Am, cm, Ak, ck, n, hG, hl, hb, hm, hk, hM⟩ := h
  have k0 := (blk_cell hG 0).trans rfl
  have k1 := (blk_cell hG 1).trans rfl
  have k5 := (blk_cell hG 5).trans rfl
  obtain ⟨al, e, xl⟩ := Kd.at_int hl.2 x hx0 hx1
  cases e
  obtain ⟨_, e, yl⟩ := Kd.at_int hl.2 y hy0 hy1
  cases e
  have HX := Aside0.mk (show w.cell? ⟨g, 0, none⟩ = some (.slice (some al) L.length cl) ∧ w.cell? ⟨g, 1, none⟩ = some (.slice Ab B.length cb) ∧ w.cell? ⟨g, 5, none⟩ = some (.int .i64 bs) ∧ w.cell? (al.add x.toNat) = some (.int .i64 (rd L x)) ∧ w.cell? (al.add y.toNat) = some (.int .i64 (rd L y)) ∧ w.cell? aa = some (.int .i64 x) ∧ w.cell? (aa.add z.toNat) = some (.int .i64 y) from ⟨k0, k1, k5, xl, yl, (congrArg w.cell? (add0 aa)).symm.trans xa0, xa1⟩)
  clear hl hb hm hk hM hG k0 k1 k5 xl yl xa0 xa1 hA
  have hzw : IntKind.i64.wrap ((at_.length : Int) - 1) = z := (i64_w _).trans hz
  have d0 : decide (0 < (at_.length : Int)) = true := decide_eq_true hl0
  have d1 : decide (0 ≤ z) = true := decide_eq_true hz0
  have d2 : decide (z < (at_.length : Int)) = true := decide_eq_true hz1
  have d3 : decide (0 ≤ x) = true := decide_eq_true hx0
  have d4 : decide (x < (L.length : Int)) = true := decide_eq_true hx1
  have d5 : decide (0 ≤ y) = true := decide_eq_true hy0
  have d6 : decide (y < (L.length : Int)) = true := decide_eq_true hy1
  have hl1 : (0 < at_.length) = True := eq_true (by omega)
  replace hl0 := eq_true hl0
  replace hz0 := eq_true hz0
  replace hz1 := eq_true hz1
  replace hx0 := eq_true hx0
  replace hx1 := eq_true hx1
  replace hy0 := eq_true hy0
  replace hy1 := eq_true hy1
  clear hz hx hy hf1 hf2 hv1 hv2 wx wy hy2 hy3
  go_enter Try.func37, Try.ntmps37
  go_wp2
  have HB1 := Aside0.mk (below_alloc (Below.refl w.heap.size w) (.cells #[.slice none 0 0, .int .i64 0, .int .i64 0, .int .i64 0] 42))
  have BR := Aside0.mk (blk_new w (.cells #[.slice none 0 0, .int .i64 0, .int .i64 0, .int .i64 0] 42))
  have hq0 : (w.alloc (.cells #[.slice none 0 0, .int .i64 0, .int .i64 0, .int .i64 0] 42)).cell? aa = some (.int .i64 x) := (HB1.out.cell (World.block_lt_of_cell? w _ HX.out.2.2.2.2.2.1)).trans HX.out.2.2.2.2.2.1
  have hq1 : (w.alloc (.cells #[.slice none 0 0, .int .i64 0, .int .i64 0, .int .i64 0] 42)).cell? (aa.add z.toNat) = some (.int .i64 y) := (HB1.out.cell (World.block_lt_of_cell? w _ HX.out.2.2.2.2.2.2)).trans HX.out.2.2.2.2.2.2
  generalize hr : w.heap.size = r at HB1 BR HN1 HN2 HI ⊢
  generalize hw1 : w.alloc (.cells #[.slice none 0 0, .int .i64 0, .int .i64 0, .int .i64 0] 42) = w1 at HB1 BR hq0 hq1 ⊢
  go_quiet (first | done)
  have HB2 := Aside0.mk (show Below r w (w1.drewN nq) from pw_below_drewN HB1.out nq)
  have BR2 := Aside0.mk (blk_below BR.out (pw_below_drewN (Below.refl _ w1) nq))
  clear hq0 hq1 hw1 HB1 BR
  generalize w1.drewN nq = w2 at HB2 BR2 ⊢
  have l0 := (HB2.out.cell (hr ▸ World.block_lt_of_cell? w _ HX.out.1)).trans HX.out.1
  have l1 := (HB2.out.cell (hr ▸ World.block_lt_of_cell? w _ HX.out.2.2.2.1)).trans HX.out.2.2.2.1
  go_wp2
  have HB3 := Aside0.mk (b_step hr HB2.out (below_alloc (Below.refl _ w2) (.cells #[.slice (some aa) at_.length c, .int .i64 (rd L x), .int .i64 0, .int .i64 0] 42)))
  have BQ3 := Aside0.mk (blk_new w2 (.cells #[.slice (some aa) at_.length c, .int .i64 (rd L x), .int .i64 0, .int .i64 0] 42))
  have BR3 := Aside0.mk (blk_alloc BR2.out (.cells #[.slice (some aa) at_.length c, .int .i64 (rd L x), .int .i64 0, .int .i64 0] 42))
  have HQR := Aside0.mk (show r < w2.heap.size from blk_lt BR2.out)
  clear HB2 BR2 l0 l1
  generalize hq : w2.heap.size = q at BQ3 HQR ⊢
  generalize hw3 : w2.alloc (.cells #[.slice (some aa) at_.length c, .int .i64 (rd L x), .int .i64 0, .int .i64 0] 42) = w3 at BQ3 BR3 HB3 ⊢
  clear hw3 hq
  replace HB3 := Aside0.mk (below_drew1 HB3.out)
  replace BQ3 := Aside0.mk (blk_below BQ3.out (below_drew (Below.refl _ _)))
  replace BR3 := Aside0.mk (blk_below BR3.out (below_drew (Below.refl _ _)))
  have HS3 := Aside0.mk (show w3.drew.cell? ⟨q, 1, none⟩ = some (.int .i64 (rd L x)) from (blk_cell BQ3.out 1).trans rfl)
  refine start_ (n := 8) (S := fun w' => w'.cell? ⟨q, 1, none⟩ = some (.int .i64 (rd L x))) (ds := [7]) #[false, false, false, false, false, false, false, false] (by kernel_rfl) rfl rfl HS3.out (fun hHeld => ?_)
  generalize w3.drew = w3d at HB3 BQ3 BR3 HS3 hHeld ⊢
  refine pure_ (i := 0) (N := some 29) (v := ?_) (a' := ?_) #[true, false, false, false, false, false, false, false] rfl rfl (by kernel_rfl) (fun _ _ _ h => h) (Or.inl ⟨by rfl, ?_⟩) ?_ ?_
  rotate_left
  · intro w'
    go_simp
    with_reducible rfl
  rotate_left
  · simp only [Act.put, List.setIfInBounds_toArray, List.set_cons_zero, List.set_cons_succ, i64_w, i32_w]
    rfl
  refine take_ (i := 1) (N := some 30) (v := ?_) (a' := ?_) #[true, true, false, false, false, false, false, false] rfl rfl (by kernel_rfl) (fun _ _ _ h => h) (Or.inl ⟨by rfl, ?_⟩) hHeld ?_ ?_
  rotate_left
  · rintro w' s0
    go_simp
    with_reducible rfl
  rotate_left
  · simp only [Act.put, List.setIfInBounds_toArray, List.set_cons_zero, List.set_cons_succ, i64_w, i32_w]
    rfl
  refine pure_ (i := 2) (N := some 31) (v := ?_) (a' := ?_) #[true, true, true, false, false, false, false, false] rfl rfl (by kernel_rfl) (fun _ _ _ h => h) (Or.inl ⟨by rfl, ?_⟩) ?_ ?_
  rotate_left
  · intro w'
    go_simp
    with_reducible rfl
  rotate_left
  · simp only [Act.put, List.setIfInBounds_toArray, List.set_cons_zero, List.set_cons_succ, i64_w, i32_w]
    rfl
  refine pure_ (i := 3) (N := some 32) (v := ?_) (a' := ?_) #[true, true, true, true, false, false, false, false] rfl rfl (by kernel_rfl) (fun _ _ _ h => h) (Or.inl ⟨by rfl, ?_⟩) ?_ ?_
  rotate_left
  · intro w'
    go_simp
    with_reducible rfl
  rotate_left
  · simp only [Act.put, List.setIfInBounds_toArray, List.set_cons_zero, List.set_cons_succ, i64_w, i32_w]
    rfl
  refine one_ (i := 4) (N := some 33) #[true, true, true, true, true, false, false, false] rfl rfl (by kernel_rfl) (by decide) (fun K hK => ?_)
  refine (goes_ Try.func54 (by kernel_rfl) rfl #[.pointer (some ⟨g, 0, none⟩), .int .i64 x, .int .i64 (-1)] (by rfl) rfl rfl (by (try simp only [List.map_toArray, List.map_cons, List.map_nil]); first | done | rfl) ?_)
  (with_reducible refine (HN1.out _ HB3.out).mono ?_)
  rintro e w4 ⟨rfl, hb⟩
  refine ⟨_, rfl, ?_⟩
  have HB4 := Aside0.mk (b_step hr HB3.out hb)
  have BQ4 := Aside0.mk (blk_below BQ3.out hb)
  have BR4 := Aside0.mk (blk_below BR3.out hb)
  clear hb
  refine hK.out _ _ ((blk_cell BQ4.out 1).trans rfl) (fun hHeld => ?_)
  clear hK K
  refine norm_ (a' := ?_) ?_ ?_
  rotate_left
  · show Act.put _ (some 33) _ = _
    simp only [Act.put, List.setIfInBounds_toArray, List.set_cons_zero, List.set_cons_succ, i64_w, i32_w]
    rfl
  refine one_ (i := 5) (N := some 34) #[true, true, true, true, true, true, false, false] rfl rfl (by kernel_rfl) (by decide) (fun K hK => ?_)
  refine (goes_ Try.func53 (by kernel_rfl) rfl #[.int .i64 (rd L x), .int .i64 v1] (by rfl) rfl rfl (by (try simp only [List.map_toArray, List.map_cons, List.map_nil]); first | done | rfl) ?_)
  (with_reducible refine (b_dir _ _ _).mono ?_)
  rintro e w5 ⟨rfl, hb⟩
  refine ⟨_, rfl, ?_⟩
  have HB5 := Aside0.mk (b_step hr HB4.out hb)
  have BQ5 := Aside0.mk (blk_below BQ4.out hb)
  have BR5 := Aside0.mk (blk_below BR4.out hb)
  clear hb
  refine hK.out _ _ ((blk_cell BQ5.out 1).trans rfl) (fun hHeld => ?_)
  clear hK K
  refine norm_ (a' := ?_) ?_ ?_
  rotate_left
  · show Act.put _ (some 34) _ = _
    simp only [Act.put, List.setIfInBounds_toArray, List.set_cons_zero, List.set_cons_succ, i64_w, i32_w]
    rfl
  refine pure_ (i := 6) (N := some 35) (v := ?_) (a' := ?_) #[true, true, true, true, true, true, true, false] rfl rfl (by kernel_rfl) (fun _ _ _ h => h) (Or.inl ⟨by rfl, ?_⟩) ?_ ?_
  rotate_left
  · intro w'
    go_simp
    with_reducible rfl
  rotate_left
  · simp only [Act.put, List.setIfInBounds_toArray, List.set_cons_zero, List.set_cons_succ, i64_w, i32_w]
    rfl
  refine last_ (i := 7) (N := none) #[true, true, true, true, true, true, true, true] rfl rfl (by kernel_rfl) (by decide) (fun K hK => ?_)
  have hs := (blk_cell BQ5.out 2).trans rfl
  have hf := blk_frozen BQ5.out 2
  refine skip_ (w1 := w5.setCell ⟨q, 2, none⟩ (.int .i64 (dirF (rd L x) v1))) (by rfl) rfl ?_ ?_
  · first | (go_simp; done) | (go_simp; rfl)
  refine hK.out _ _ ?_
  clear hK K hs hf
  refine done_ (by kernel_rfl) ?_
  have HB6 := Aside0.mk (b_set (j := 2) (v := .int .i64 (dirF (rd L x) v1)) hr HB5.out (Nat.le_of_lt HQR.out))
  have BQ6 := Aside0.mk (blk_put BQ5.out 2 (.int .i64 (dirF (rd L x) v1)) rfl)
  have BR6 := Aside0.mk (blk_far (p := ⟨q, 2, none⟩) BR5.out (Nat.ne_of_lt HQR.out) (.int .i64 (dirF (rd L x) v1)))
  clear HB5 BQ5 BR5 HB4 BQ4 BR4 HB3 BQ3 BR3 HS3
  generalize w5.setCell ⟨q, 2, none⟩ (.int .i64 (dirF (rd L x) v1)) = w6 at HB6 BQ6 BR6 ⊢
  go_wp2_with (first | (go_at_call 54; (with_reducible refine (HN2.out _ HB6.out).mono ?_); rintro e w7 ⟨rfl, hb⟩; have HB7 := Aside0.mk (b_step hr HB6.out hb); have BQ7 := Aside0.mk (blk_below BQ6.out hb); have BR7 := Aside0.mk (blk_below BR6.out hb); clear hb) | (go_at_call 36; (with_reducible refine (HI.out _ HB7.out).mono ?_); rintro e w8 ⟨rfl, hb⟩; have HB8 := Aside0.mk (b_step hr HB7.out hb); have BQ8 := Aside0.mk (blk_below BQ7.out hb); have BR8 := Aside0.mk (blk_below BR7.out hb); clear hb; have l0 := b_cell hr HB8.out HX.out.1; have l1 := b_cell hr HB8.out HX.out.2.1; have l5 := b_cell hr HB8.out HX.out.2.2.1; have ly := b_cell hr HB8.out HX.out.2.2.2.2.1) | (go_at_call 53; (with_reducible refine (b_dir _ _ _).mono ?_); rintro e w9 ⟨rfl, hb⟩; have HB9 := Aside0.mk (b_step hr HB8.out hb); have BQ9 := Aside0.mk (blk_below BQ8.out hb); have BR9 := Aside0.mk (blk_below BR8.out hb); clear hb l0 l1 l5 ly; have q3 := (blk_cell BQ9.out 3).trans rfl; have g3 := blk_frozen BQ9.out 3) | ((with_reducible refine gate_store (t := 3) (p := 68) rfl ?_); refine store_event (t := 3) (p := 68) (v := .tmp 67) (w1 := w9.setCell ⟨q, 3, none⟩ (.int .i64 (dirF (rd L y) v2))) ?hg ?ho ?hn ?hr ?_; (case ho => rfl); (case hg => rfl); (case hn => rfl); (case hr => first | (go_simp; done) | (go_simp; rfl)); intro w10 hw; have HB10 := Aside0.mk (show Below r w w10 by rw [hw]; exact b_set hr HB9.out (Nat.le_of_lt HQR.out)); have bq := (show w10.heap[q]? = some (.cells #[.slice (some aa) at_.length c, .int .i64 (rd L x), .int .i64 (dirF (rd L x) v1), .int .i64 (dirF (rd L y) v2)] 42 (0, 0)) by rw [hw]; exact blk_put BQ9.out 3 (.int .i64 (dirF (rd L y) v2)) rfl); have b0 := (show w10.heap[r]? = some (.cells #[.slice none 0 0, .int .i64 0, .int .i64 0, .int .i64 0] 42 (0, 0)) by rw [hw]; exact blk_far (p := ⟨q, 3, none⟩) BR9.out (Nat.ne_of_lt HQR.out) _); clear hw q3 g3; have q0 := (blk_cell bq 0).trans rfl; have q1 := (blk_cell bq 1).trans rfl; have q2 := (blk_cell bq 2).trans rfl; have q3 := (blk_cell bq 3).trans rfl; have c0 := (blk_cell b0 0).trans rfl; have f0 := blk_frozen b0 0; have b1 := blk_put b0 0 (.slice (some aa) at_.length c) rfl; have c1 := (blk_cell b1 1).trans rfl; have f1 := blk_frozen b1 1; have b2 := blk_put b1 1 (.int .i64 (rd L x)) rfl; have c2 := (blk_cell b2 2).trans rfl; have f2 := blk_frozen b2 2; have b3 := blk_put b2 2 (.int .i64 (dirF (rd L x) v1)) rfl; have c3 := (blk_cell b3 3).trans rfl; have f3 := blk_frozen b3 3; have b4 := blk_put b3 3 (.int .i64 (dirF (rd L y) v2)) rfl; have HBE := Aside0.mk (b_set (j := 3) (v := .int .i64 (dirF (rd L y) v2)) hr (b_set (j := 2) (v := .int .i64 (dirF (rd L x) v1)) hr (b_set (j := 1) (v := .int .i64 (rd L x)) hr (b_set (j := 0) (v := .slice (some aa) at_.length c) hr HB10.out (Nat.le_refl r)) (Nat.le_refl r)) (Nat.le_refl r)) (Nat.le_refl r)); have B4 := Aside0.mk b4; clear bq b0 b1 b2 b3 b4))
  (try simp only [Exit.inBlock, Exit.then])
  refine bodyPost_ret (results_single rfl (Vals.cell r 42 _ (0, 0) _ rfl B4.out Try.underlying42 rfl (by kernel_rfl) .nil)) rfl ?_
  exact ⟨by first | rfl | simp [*], by rw [hr]; exact HBE.out⟩
set_option maxHeartbeats 8000000 in
set_option maxRecDepth 100000 in
theorem p_seq_mid {w : World} {g rb : Nat} {L B M K at_ : List Int} {bs : Int} {f : Int → Option Value} (h : Tx w g rb L B M K bs f) {A : Option Addr} {c : Nat} (hA : Kd.C (Kd.int .i64) w A at_.length at_) (x y z r1 r2 v1 v2 : Int) (hz : wrap64 ((at_.length : Int) - 1) = z) (hz0 : 0 ≤ z) (hz1 : z < (at_.length : Int)) (hx : rd at_ 0 = x) (hy : rd at_ z = y)
    (hx0 : 0 ≤ x) (hx1 : x < (L.length : Int)) (hy0 : 0 ≤ y) (hy1 : y < (L.length : Int)) (hy2 : y < (B.length : Int)) (hy3 : y < (M.length : Int)) (wx : (Lit.int .i64 x).wf = true) (wy : (Lit.int .i64 y).wf = true)
    (hf1 : (f x).getD (.int .i64 0) = .int .i64 r1) (hf2 : (f y).getD (.int .i64 0) = .int .i64 r2) (hv1 : nearF L K bs (wrap64 (r1 + -1)) = some v1) (hv2 : nearF L K bs (wrap64 (r2 + 1)) = some v2) (hi : isoB (rd B y) = true) (hmm : ¬ rd M y = (B.length : Int)) :
    Calls Try.prog 37 #[.pointer (some ⟨g, 0, none⟩), .slice A at_.length c] w fun e w' => e = .returned (.agg #[.slice A at_.length c, .int .i64 (rd L x), .int .i64 (dirF (rd L x) v1), .int .i64 (dirF (rd L y) v2)]) ∧ Below w.heap.size w w' := by
  have HT := Aside0.mk h
  have HA := Aside0.mk hA
  have hl0 : 0 < (at_.length : Int) := by omega
  obtain ⟨aa, e, xa0⟩ := Kd.at_int hA 0 (by omega) hl0
  cases e
  obtain ⟨_, e, xa1⟩ := Kd.at_int hA z hz0 hz1
  cases e
  rw [hx] at xa0
  rw [hy] at xa1
  have HN1 := Aside0.mk (fun (W : World) (hb : Below w.heap.size w W) => b_near (tx_below h hb) x (-1) r1 v1 wx hf1 hv1)
  have HN2 := Aside0.mk (fun (W : World) (hb : Below w.heap.size w W) => b_near (tx_below h hb) y 1 r2 v2 wy hf2 hv2)
  have HI := Aside0.mk (fun (W : World) (hb : Below w.heap.size w W) => (show Calls Try.prog 36 #[.pointer (some ⟨g, 0, none⟩), .int .i64 y] W (fun e w' => e = .returned (.tuple #[.int .i64 (rd M y), .bool true]) ∧ Below W.heap.size W w') from by
    have h1 := b_iso (tx_below h hb) y hy0 hy2 hy3
    rw [hi] at h1
    simpa using h1))
  have m0 : (rd M y == (B.length : Int)) = false := beq_eq_false_iff_ne.mpr hmm
  clear hmm
  obtain ⟨Al, cl, Ab, cb, Am, cm, Ak, ck, n, hG, hl, hb, hm, hk, hM⟩ := h
  have k0 := (blk_cell hG 0).trans rfl
  have k1 := (blk_cell hG 1).trans rfl
  have k5 := (blk_cell hG 5).trans rfl
  obtain ⟨al, e, xl⟩ := Kd.at_int hl.2 x hx0 hx1
  cases e
  obtain ⟨_, e, yl⟩ := Kd.at_int hl.2 y hy0 hy1
  cases e
  have HX := Aside0.mk (show w.cell? ⟨g, 0, none⟩ = some (.slice (some al) L.length cl) ∧ w.cell? ⟨g, 1, none⟩ = some (.slice Ab B.length cb) ∧ w.cell? ⟨g, 5, none⟩ = some (.int .i64 bs) ∧ w.cell? (al.add x.toNat) = some (.int .i64 (rd L x)) ∧ w.cell? (al.add y.toNat) = some (.int .i64 (rd L y)) ∧ w.cell? aa = some (.int .i64 x) ∧ w.cell? (aa.add z.toNat) = some (.int .i64 y) from ⟨k0, k1, k5, xl, yl, (congrArg w.cell? (add0 aa)).symm.trans xa0, xa1⟩)
  clear hl hb hm hk hM hG k0 k1 k5 xl yl xa0 xa1 hA
  have hzw : IntKind.i64.wrap ((at_.length : Int) - 1) = z := (i64_w _).trans hz
  have d0 : decide (0 < (at_.length : Int)) = true := decide_eq_true hl0
  have d1 : decide (0 ≤ z) = true := decide_eq_true hz0
  have d2 : decide (z < (at_.length : Int)) = true := decide_eq_true hz1
  have d3 : decide (0 ≤ x) = true := decide_eq_true hx0
  have d4 : decide (x < (L.length : Int)) = true := decide_eq_true hx1
  have d5 : decide (0 ≤ y) = true := decide_eq_true hy0
  have d6 : decide (y < (L.length : Int)) = true := decide_eq_true hy1
  have hl1 : (0 < at_.length) = True := eq_true (by omega)
  replace hl0 := eq_true hl0
  replace hz0 := eq_true hz0
  replace hz1 := eq_true hz1
  replace hx0 := eq_true hx0
  replace hx1 := eq_true hx1
  replace hy0 := eq_true hy0
  replace hy1 := eq_true hy1
  clear hz hx hy hf1 hf2 hv1 hv2 wx wy hy2 hy3
  go_enter Try.func37, Try.ntmps37
  go_wp2
  have HB1 := Aside0.mk (below_alloc (Below.refl w.heap.size w) (.cells #[.slice none 0 0, .int .i64 0, .int .i64 0, .int .i64 0] 42))
  have BR := Aside0.mk (blk_new w (.cells #[.slice none 0 0, .int .i64 0, .int .i64 0, .int .i64 0] 42))
  have hq0 : (w.alloc (.cells #[.slice none 0 0, .int .i64 0, .int .i64 0, .int .i64 0] 42)).cell? aa = some (.int .i64 x) := (HB1.out.cell (World.block_lt_of_cell? w _ HX.out.2.2.2.2.2.1)).trans HX.out.2.2.2.2.2.1
  have hq1 : (w.alloc (.cells #[.slice none 0 0, .int .i64 0, .int .i64 0, .int .i64 0] 42)).cell? (aa.add z.toNat) = some (.int .i64 y) := (HB1.out.cell (World.block_lt_of_cell? w _ HX.out.2.2.2.2.2.2)).trans HX.out.2.2.2.2.2.2
  generalize hr : w.heap.size = r at HB1 BR HN1 HN2 HI ⊢
  generalize hw1 : w.alloc (.cells #[.slice none 0 0, .int .i64 0, .int .i64 0, .int .i64 0] 42) = w1 at HB1 BR hq0 hq1 ⊢
  go_quiet (first | done)
  have HB2 := Aside0.mk (show Below r w (w1.drewN nq) from pw_below_drewN HB1.out nq)
  have BR2 := Aside0.mk (blk_below BR.out (pw_below_drewN (Below.refl _ w1) nq))
  clear hq0 hq1 hw1 HB1 BR
  generalize w1.drewN nq = w2 at HB2 BR2 ⊢
  have l0 := (HB2.out.cell (hr ▸ World.block_lt_of_cell? w _ HX.out.1)).trans HX.out.1
  have l1 := (HB2.out.cell (hr ▸ World.block_lt_of_cell? w _ HX.out.2.2.2.1)).trans HX.out.2.2.2.1
  go_wp2
  have HB3 := Aside0.mk (b_step hr HB2.out (below_alloc (Below.refl _ w2) (.cells #[.slice (some aa) at_.length c, .int .i64 (rd L x), .int .i64 0, .int .i64 0] 42)))
  have BQ3 := Aside0.mk (blk_new w2 (.cells #[.slice (some aa) at_.length c, .int .i64 (rd L x), .int .i64 0, .int .i64 0] 42))
  have BR3 := Aside0.mk (blk_alloc BR2.out (.cells #[.slice (some aa) at_.length c, .int .i64 (rd L x), .int .i64 0, .int .i64 0] 42))
  have HQR := Aside0.mk (show r < w2.heap.size from blk_lt BR2.out)
  clear HB2 BR2 l0 l1
  generalize hq : w2.heap.size = q at BQ3 HQR ⊢
  generalize hw3 : w2.alloc (.cells #[.slice (some aa) at_.length c, .int .i64 (rd L x), .int .i64 0, .int .i64 0] 42) = w3 at BQ3 BR3 HB3 ⊢
  clear hw3 hq
  replace HB3 := Aside0.mk (below_drew1 HB3.out)
  replace BQ3 := Aside0.mk (blk_below BQ3.out (below_drew (Below.refl _ _)))
  replace BR3 := Aside0.mk (blk_below BR3.out (below_drew (Below.refl _ _)))
  have HS3 := Aside0.mk (show w3.drew.cell? ⟨q, 1, none⟩ = some (.int .i64 (rd L x)) from (blk_cell BQ3.out 1).trans rfl)
  refine start_ (n := 8) (S := fun w' => w'.cell? ⟨q, 1, none⟩ = some (.int .i64 (rd L x))) (ds := [7]) #[false, false, false, false, false, false, false, false] (by kernel_rfl) rfl rfl HS3.out (fun hHeld => ?_)
  generalize w3.drew = w3d at HB3 BQ3 BR3 HS3 hHeld ⊢
  refine pure_ (i := 0) (N := some 29) (v := ?_) (a' := ?_) #[true, false, false, false, false, false, false, false] rfl rfl (by kernel_rfl) (fun _ _ _ h => h) (Or.inl ⟨by rfl, ?_⟩) ?_ ?_
  rotate_left
  · intro w'
    go_simp
    with_reducible rfl
  rotate_left
  · simp only [Act.put, List.setIfInBounds_toArray, List.set_cons_zero, List.set_cons_succ, i64_w, i32_w]
    rfl
  refine take_ (i := 1) (N := some 30) (v := ?_) (a' := ?_) #[true, true, false, false, false, false, false, false] rfl rfl (by kernel_rfl) (fun _ _ _ h => h) (Or.inl ⟨by rfl, ?_⟩) hHeld ?_ ?_
  rotate_left
  · rintro w' s0
    go_simp
    with_reducible rfl
  rotate_left
  · simp only [Act.put, List.setIfInBounds_toArray, List.set_cons_zero, List.set_cons_succ, i64_w, i32_w]
    rfl
  refine pure_ (i := 2) (N := some 31) (v := ?_) (a' := ?_) #[true, true, true, false, false, false, false, false] rfl rfl (by kernel_rfl) (fun _ _ _ h => h) (Or.inl ⟨by rfl, ?_⟩) ?_ ?_
  rotate_left
  · intro w'
    go_simp
    with_reducible rfl
  rotate_left
  · simp only [Act.put, List.setIfInBounds_toArray, List.set_cons_zero, List.set_cons_succ, i64_w, i32_w]
    rfl
  refine pure_ (i := 3) (N := some 32) (v := ?_) (a' := ?_) #[true, true, true, true, false, false, false, false] rfl rfl (by kernel_rfl) (fun _ _ _ h => h) (Or.inl ⟨by rfl, ?_⟩) ?_ ?_
  rotate_left
  · intro w'
    go_simp
    with_reducible rfl
  rotate_left
  · simp only [Act.put, List.setIfInBounds_toArray, List.set_cons_zero, List.set_cons_succ, i64_w, i32_w]
    rfl
  refine one_ (i := 4) (N := some 33) #[true, true, true, true, true, false, false, false] rfl rfl (by kernel_rfl) (by decide) (fun K hK => ?_)
  refine (goes_ Try.func54 (by kernel_rfl) rfl #[.pointer (some ⟨g, 0, none⟩), .int .i64 x, .int .i64 (-1)] (by rfl) rfl rfl (by (try simp only [List.map_toArray, List.map_cons, List.map_nil]); first | done | rfl) ?_)
  (with_reducible refine (HN1.out _ HB3.out).mono ?_)
  rintro e w4 ⟨rfl, hb⟩
  refine ⟨_, rfl, ?_⟩
  have HB4 := Aside0.mk (b_step hr HB3.out hb)
  have BQ4 := Aside0.mk (blk_below BQ3.out hb)
  have BR4 := Aside0.mk (blk_below BR3.out hb)
  clear hb
  refine hK.out _ _ ((blk_cell BQ4.out 1).trans rfl) (fun hHeld => ?_)
  clear hK K
  refine norm_ (a' := ?_) ?_ ?_
  rotate_left
  · show Act.put _ (some 33) _ = _
    simp only [Act.put, List.setIfInBounds_toArray, List.set_cons_zero, List.set_cons_succ, i64_w, i32_w]
    rfl
  refine one_ (i := 5) (N := some 34) #[true, true, true, true, true, true, false, false] rfl rfl (by kernel_rfl) (by decide) (fun K hK => ?_)
  refine (goes_ Try.func53 (by kernel_rfl) rfl #[.int .i64 (rd L x), .int .i64 v1] (by rfl) rfl rfl (by (try simp only [List.map_toArray, List.map_cons, List.map_nil]); first | done | rfl) ?_)
  (with_reducible refine (b_dir _ _ _).mono ?_)
  rintro e w5 ⟨rfl, hb⟩
  refine ⟨_, rfl, ?_⟩
  have HB5 := Aside0.mk (b_step hr HB4.out hb)
  have BQ5 := Aside0.mk (blk_below BQ4.out hb)
  have BR5 := Aside0.mk (blk_below BR4.out hb)
  clear hb
  refine hK.out _ _ ((blk_cell BQ5.out 1).trans rfl) (fun hHeld => ?_)
  clear hK K
  refine norm_ (a' := ?_) ?_ ?_
  rotate_left
  · show Act.put _ (some 34) _ = _
    simp only [Act.put, List.setIfInBounds_toArray, List.set_cons_zero, List.set_cons_succ, i64_w, i32_w]
    rfl
  refine pure_ (i := 6) (N := some 35) (v := ?_) (a' := ?_) #[true, true, true, true, true, true, true, false] rfl rfl (by kernel_rfl) (fun _ _ _ h => h) (Or.inl ⟨by rfl, ?_⟩) ?_ ?_
  rotate_left
  · intro w'
    go_simp
    with_reducible rfl
  rotate_left
  · simp only [Act.put, List.setIfInBounds_toArray, List.set_cons_zero, List.set_cons_succ, i64_w, i32_w]
    rfl
  refine last_ (i := 7) (N := none) #[true, true, true, true, true, true, true, true] rfl rfl (by kernel_rfl) (by decide) (fun K hK => ?_)
  have hs := (blk_cell BQ5.out 2).trans rfl
  have hf := blk_frozen BQ5.out 2
  refine skip_ (w1 := w5.setCell ⟨q, 2, none⟩ (.int .i64 (dirF (rd L x) v1))) (by rfl) rfl ?_ ?_
  · first | (go_simp; done) | (go_simp; rfl)
  refine hK.out _ _ ?_
  clear hK K hs hf
  refine done_ (by kernel_rfl) ?_
  have HB6 := Aside0.mk (b_set (j := 2) (v := .int .i64 (dirF (rd L x) v1)) hr HB5.out (Nat.le_of_lt HQR.out))
  have BQ6 := Aside0.mk (blk_put BQ5.out 2 (.int .i64 (dirF (rd L x) v1)) rfl)
  have BR6 := Aside0.mk (blk_far (p := ⟨q, 2, none⟩) BR5.out (Nat.ne_of_lt HQR.out) (.int .i64 (dirF (rd L x) v1)))
  clear HB5 BQ5 BR5 HB4 BQ4 BR4 HB3 BQ3 BR3 HS3
  generalize w5.setCell ⟨q, 2, none⟩ (.int .i64 (dirF (rd L x) v1)) = w6 at HB6 BQ6 BR6 ⊢
  go_wp2_with (first | (go_at_call 54; (with_reducible refine (HN2.out _ HB6.out).mono ?_); rintro e w7 ⟨rfl, hb⟩; have HB7 := Aside0.mk (b_step hr HB6.out hb); have BQ7 := Aside0.mk (blk_below BQ6.out hb); have BR7 := Aside0.mk (blk_below BR6.out hb); clear hb) | (go_at_call 36; (with_reducible refine (HI.out _ HB7.out).mono ?_); rintro e w8 ⟨rfl, hb⟩; have HB8 := Aside0.mk (b_step hr HB7.out hb); have BQ8 := Aside0.mk (blk_below BQ7.out hb); have BR8 := Aside0.mk (blk_below BR7.out hb); clear hb; have l0 := b_cell hr HB8.out HX.out.1; have l1 := b_cell hr HB8.out HX.out.2.1; have l5 := b_cell hr HB8.out HX.out.2.2.1; have ly := b_cell hr HB8.out HX.out.2.2.2.2.1) | (go_at_call 53; (with_reducible refine (b_dir _ _ _).mono ?_); rintro e w9 ⟨rfl, hb⟩; have HB9 := Aside0.mk (b_step hr HB8.out hb); have BQ9 := Aside0.mk (blk_below BQ8.out hb); have BR9 := Aside0.mk (blk_below BR8.out hb); clear hb l0 l1 l5 ly; have q3 := (blk_cell BQ9.out 3).trans rfl; have g3 := blk_frozen BQ9.out 3) | ((with_reducible refine gate_store (t := 3) (p := 68) rfl ?_); refine store_event (t := 3) (p := 68) (v := .tmp 67) (w1 := w9.setCell ⟨q, 3, none⟩ (.int .i64 (dirF (rd L y) v2))) ?hg ?ho ?hn ?hr ?_; (case ho => rfl); (case hg => rfl); (case hn => rfl); (case hr => first | (go_simp; done) | (go_simp; rfl)); intro w10 hw; have HB10 := Aside0.mk (show Below r w w10 by rw [hw]; exact b_set hr HB9.out (Nat.le_of_lt HQR.out)); have bq := (show w10.heap[q]? = some (.cells #[.slice (some aa) at_.length c, .int .i64 (rd L x), .int .i64 (dirF (rd L x) v1), .int .i64 (dirF (rd L y) v2)] 42 (0, 0)) by rw [hw]; exact blk_put BQ9.out 3 (.int .i64 (dirF (rd L y) v2)) rfl); have b0 := (show w10.heap[r]? = some (.cells #[.slice none 0 0, .int .i64 0, .int .i64 0, .int .i64 0] 42 (0, 0)) by rw [hw]; exact blk_far (p := ⟨q, 3, none⟩) BR9.out (Nat.ne_of_lt HQR.out) _); clear hw q3 g3; have q0 := (blk_cell bq 0).trans rfl; have q1 := (blk_cell bq 1).trans rfl; have q2 := (blk_cell bq 2).trans rfl; have q3 := (blk_cell bq 3).trans rfl; have c0 := (blk_cell b0 0).trans rfl; have f0 := blk_frozen b0 0; have b1 := blk_put b0 0 (.slice (some aa) at_.length c) rfl; have c1 := (blk_cell b1 1).trans rfl; have f1 := blk_frozen b1 1; have b2 := blk_put b1 1 (.int .i64 (rd L x)) rfl; have c2 := (blk_cell b2 2).trans rfl; have f2 := blk_frozen b2 2; have b3 := blk_put b2 2 (.int .i64 (dirF (rd L x) v1)) rfl; have c3 := (blk_cell b3 3).trans rfl; have f3 := blk_frozen b3 3; have b4 := blk_put b3 3 (.int .i64 (dirF (rd L y) v2)) rfl; have HBE := Aside0.mk (b_set (j := 3) (v := .int .i64 (dirF (rd L y) v2)) hr (b_set (j := 2) (v := .int .i64 (dirF (rd L x) v1)) hr (b_set (j := 1) (v := .int .i64 (rd L x)) hr (b_set (j := 0) (v := .slice (some aa) at_.length c) hr HB10.out (Nat.le_refl r)) (Nat.le_refl r)) (Nat.le_refl r)) (Nat.le_refl r)); have B4 := Aside0.mk b4; clear bq b0 b1 b2 b3 b4))
  (try simp only [Exit.inBlock, Exit.then])
  refine bodyPost_ret (results_single rfl (Vals.cell r 42 _ (0, 0) _ rfl B4.out Try.underlying42 rfl (by kernel_rfl) .nil)) rfl ?_
  exact ⟨by first | rfl | simp [*], by rw [hr]; exact HBE.out⟩
set_option maxHeartbeats 8000000 in
set_option maxRecDepth 100000 in
theorem p_seq_end {w : World} {g rb : Nat} {L B M K at_ : List Int} {bs : Int} {f : Int → Option Value} (h : Tx w g rb L B M K bs f) {A : Option Addr} {c : Nat} (hA : Kd.C (Kd.int .i64) w A at_.length at_) (x y z r1 r2 v1 v2 : Int) (hz : wrap64 ((at_.length : Int) - 1) = z) (hz0 : 0 ≤ z) (hz1 : z < (at_.length : Int)) (hx : rd at_ 0 = x) (hy : rd at_ z = y)
    (hx0 : 0 ≤ x) (hx1 : x < (L.length : Int)) (hy0 : 0 ≤ y) (hy1 : y < (L.length : Int)) (hy2 : y < (B.length : Int)) (hy3 : y < (M.length : Int)) (wx : (Lit.int .i64 x).wf = true) (wy : (Lit.int .i64 y).wf = true)
    (hf1 : (f x).getD (.int .i64 0) = .int .i64 r1) (hf2 : (f y).getD (.int .i64 0) = .int .i64 r2) (hv1 : nearF L K bs (wrap64 (r1 + -1)) = some v1) (hv2 : nearF L K bs (wrap64 (r2 + 1)) = some v2) (hi : isoB (rd B y) = true) (hmm : rd M y = (B.length : Int)) :
    Calls Try.prog 37 #[.pointer (some ⟨g, 0, none⟩), .slice A at_.length c] w fun e w' => e = .returned (.agg #[.slice A at_.length c, .int .i64 (rd L x), .int .i64 (dirF (rd L x) v1), .int .i64 (dirF (rd L y) bs)]) ∧ Below w.heap.size w w' := by
  have HT := Aside0.mk h
  have HA := Aside0.mk hA
  have hl0 : 0 < (at_.length : Int) := by omega
  obtain ⟨aa, e, xa0⟩ := Kd.at_int hA 0 (by omega) hl0
  cases e
  obtain ⟨_, e, xa1⟩ := Kd.at_int hA z hz0 hz1
  cases e
  rw [hx] at xa0
  rw [hy] at xa1
  have HN1 := Aside0.mk (fun (W : World) (hb : Below w.heap.size w W) => b_near (tx_below h hb) x (-1) r1 v1 wx hf1 hv1)
  have HN2 := Aside0.mk (fun (W : World) (hb : Below w.heap.size w W) => b_near (tx_below h hb) y 1 r2 v2 wy hf2 hv2)
  have HI := Aside0.mk (fun (W : World) (hb : Below w.heap.size w W) => (show Calls Try.prog 36 #[.pointer (some ⟨g, 0, none⟩), .int .i64 y] W (fun e w' => e = .returned (.tuple #[.int .i64 (rd M y), .bool true]) ∧ Below W.heap.size W w') from by
    have h1 := b_iso (tx_below h hb) y hy0 hy2 hy3
    rw [hi] at h1
    simpa using h1))
  have m0 : (rd M y == (B.length : Int)) = true := beq_iff_eq.mpr hmm
  clear hmm
  obtain ⟨Al, cl, Ab, cb, Am, cm, Ak, ck, n, hG, hl, hb, hm, hk, hM⟩ := h
  have k0 := (blk_cell hG 0).trans rfl
  have k1 := (blk_cell hG 1).trans rfl
  have k5 := (blk_cell hG 5).trans rfl
  obtain ⟨al, e, xl⟩ := Kd.at_int hl.2 x hx0 hx1
  cases e
  obtain ⟨_, e, yl⟩ := Kd.at_int hl.2 y hy0 hy1
  cases e
  have HX := Aside0.mk (show w.cell? ⟨g, 0, none⟩ = some (.slice (some al) L.length cl) ∧ w.cell? ⟨g, 1, none⟩ = some (.slice Ab B.length cb) ∧ w.cell? ⟨g, 5, none⟩ = some (.int .i64 bs) ∧ w.cell? (al.add x.toNat) = some (.int .i64 (rd L x)) ∧ w.cell? (al.add y.toNat) = some (.int .i64 (rd L y)) ∧ w.cell? aa = some (.int .i64 x) ∧ w.cell? (aa.add z.toNat) = some (.int .i64 y) from ⟨k0, k1, k5, xl, yl, (congrArg w.cell? (add0 aa)).symm.trans xa0, xa1⟩)
  clear hl hb hm hk hM hG k0 k1 k5 xl yl xa0 xa1 hA
  have hzw : IntKind.i64.wrap ((at_.length : Int) - 1) = z := (i64_w _).trans hz
  have d0 : decide (0 < (at_.length : Int)) = true := decide_eq_true hl0
  have d1 : decide (0 ≤ z) = true := decide_eq_true hz0
  have d2 : decide (z < (at_.length : Int)) = true := decide_eq_true hz1
  have d3 : decide (0 ≤ x) = true := decide_eq_true hx0
  have d4 : decide (x < (L.length : Int)) = true := decide_eq_true hx1
  have d5 : decide (0 ≤ y) = true := decide_eq_true hy0
  have d6 : decide (y < (L.length : Int)) = true := decide_eq_true hy1
  have hl1 : (0 < at_.length) = True := eq_true (by omega)
  replace hl0 := eq_true hl0
  replace hz0 := eq_true hz0
  replace hz1 := eq_true hz1
  replace hx0 := eq_true hx0
  replace hx1 := eq_true hx1
  replace hy0 := eq_true hy0
  replace hy1 := eq_true hy1
  clear hz hx hy hf1 hf2 hv1 hv2 wx wy hy2 hy3
  go_enter Try.func37, Try.ntmps37
  go_wp2
  have HB1 := Aside0.mk (below_alloc (Below.refl w.heap.size w) (.cells #[.slice none 0 0, .int .i64 0, .int .i64 0, .int .i64 0] 42))
  have BR := Aside0.mk (blk_new w (.cells #[.slice none 0 0, .int .i64 0, .int .i64 0, .int .i64 0] 42))
  have hq0 : (w.alloc (.cells #[.slice none 0 0, .int .i64 0, .int .i64 0, .int .i64 0] 42)).cell? aa = some (.int .i64 x) := (HB1.out.cell (World.block_lt_of_cell? w _ HX.out.2.2.2.2.2.1)).trans HX.out.2.2.2.2.2.1
  have hq1 : (w.alloc (.cells #[.slice none 0 0, .int .i64 0, .int .i64 0, .int .i64 0] 42)).cell? (aa.add z.toNat) = some (.int .i64 y) := (HB1.out.cell (World.block_lt_of_cell? w _ HX.out.2.2.2.2.2.2)).trans HX.out.2.2.2.2.2.2
  generalize hr : w.heap.size = r at HB1 BR HN1 HN2 HI ⊢
  generalize hw1 : w.alloc (.cells #[.slice none 0 0, .int .i64 0, .int .i64 0, .int .i64 0] 42) = w1 at HB1 BR hq0 hq1 ⊢
  go_quiet (first | done)
  have HB2 := Aside0.mk (show Below r w (w1.drewN nq) from pw_below_drewN HB1.out nq)
  have BR2 := Aside0.mk (blk_below BR.out (pw_below_drewN (Below.refl _ w1) nq))
  clear hq0 hq1 hw1 HB1 BR
  generalize w1.drewN nq = w2 at HB2 BR2 ⊢
  have l0 := (HB2.out.cell (hr ▸ World.block_lt_of_cell? w _ HX.out.1)).trans HX.out.1
  have l1 := (HB2.out.cell (hr ▸ World.block_lt_of_cell? w _ HX.out.2.2.2.1)).trans HX.out.2.2.2.1
  go_wp2
  have HB3 := Aside0.mk (b_step hr HB2.out (below_alloc (Below.refl _ w2) (.cells #[.slice (some aa) at_.length c, .int .i64 (rd L x), .int .i64 0, .int .i64 0] 42)))
  have BQ3 := Aside0.mk (blk_new w2 (.cells #[.slice (some aa) at_.length c, .int .i64 (rd L x), .int .i64 0, .int .i64 0] 42))
  have BR3 := Aside0.mk (blk_alloc BR2.out (.cells #[.slice (some aa) at_.length c, .int .i64 (rd L x), .int .i64 0, .int .i64 0] 42))
  have HQR := Aside0.mk (show r < w2.heap.size from blk_lt BR2.out)
  clear HB2 BR2 l0 l1
  generalize hq : w2.heap.size = q at BQ3 HQR ⊢
  generalize hw3 : w2.alloc (.cells #[.slice (some aa) at_.length c, .int .i64 (rd L x), .int .i64 0, .int .i64 0] 42) = w3 at BQ3 BR3 HB3 ⊢
  clear hw3 hq
  replace HB3 := Aside0.mk (below_drew1 HB3.out)
  replace BQ3 := Aside0.mk (blk_below BQ3.out (below_drew (Below.refl _ _)))
  replace BR3 := Aside0.mk (blk_below BR3.out (below_drew (Below.refl _ _)))
  have HS3 := Aside0.mk (show w3.drew.cell? ⟨q, 1, none⟩ = some (.int .i64 (rd L x)) from (blk_cell BQ3.out 1).trans rfl)
  refine start_ (n := 8) (S := fun w' => w'.cell? ⟨q, 1, none⟩ = some (.int .i64 (rd L x))) (ds := [7]) #[false, false, false, false, false, false, false, false] (by kernel_rfl) rfl rfl HS3.out (fun hHeld => ?_)
  generalize w3.drew = w3d at HB3 BQ3 BR3 HS3 hHeld ⊢
  refine pure_ (i := 0) (N := some 29) (v := ?_) (a' := ?_) #[true, false, false, false, false, false, false, false] rfl rfl (by kernel_rfl) (fun _ _ _ h => h) (Or.inl ⟨by rfl, ?_⟩) ?_ ?_
  rotate_left
  · intro w'
    go_simp
    with_reducible rfl
  rotate_left
  · simp only [Act.put, List.setIfInBounds_toArray, List.set_cons_zero, List.set_cons_succ, i64_w, i32_w]
    rfl
  refine take_ (i := 1) (N := some 30) (v := ?_) (a' := ?_) #[true, true, false, false, false, false, false, false] rfl rfl (by kernel_rfl) (fun _ _ _ h => h) (Or.inl ⟨by rfl, ?_⟩) hHeld ?_ ?_
  rotate_left
  · rintro w' s0
    go_simp
    with_reducible rfl
  rotate_left
  · simp only [Act.put, List.setIfInBounds_toArray, List.set_cons_zero, List.set_cons_succ, i64_w, i32_w]
    rfl
  refine pure_ (i := 2) (N := some 31) (v := ?_) (a' := ?_) #[true, true, true, false, false, false, false, false] rfl rfl (by kernel_rfl) (fun _ _ _ h => h) (Or.inl ⟨by rfl, ?_⟩) ?_ ?_
  rotate_left
  · intro w'
    go_simp
    with_reducible rfl
  rotate_left
  · simp only [Act.put, List.setIfInBounds_toArray, List.set_cons_zero, List.set_cons_succ, i64_w, i32_w]
    rfl
  refine pure_ (i := 3) (N := some 32) (v := ?_) (a' := ?_) #[true, true, true, true, false, false, false, false] rfl rfl (by kernel_rfl) (fun _ _ _ h => h) (Or.inl ⟨by rfl, ?_⟩) ?_ ?_
  rotate_left
  · intro w'
    go_simp
    with_reducible rfl
  rotate_left
  · simp only [Act.put, List.setIfInBounds_toArray, List.set_cons_zero, List.set_cons_succ, i64_w, i32_w]
    rfl
  refine one_ (i := 4) (N := some 33) #[true, true, true, true, true, false, false, false] rfl rfl (by kernel_rfl) (by decide) (fun K hK => ?_)
  refine (goes_ Try.func54 (by kernel_rfl) rfl #[.pointer (some ⟨g, 0, none⟩), .int .i64 x, .int .i64 (-1)] (by rfl) rfl rfl (by (try simp only [List.map_toArray, List.map_cons, List.map_nil]); first | done | rfl) ?_)
  (with_reducible refine (HN1.out _ HB3.out).mono ?_)
  rintro e w4 ⟨rfl, hb⟩
  refine ⟨_, rfl, ?_⟩
  have HB4 := Aside0.mk (b_step hr HB3.out hb)
  have BQ4 := Aside0.mk (blk_below BQ3.out hb)
  have BR4 := Aside0.mk (blk_below BR3.out hb)
  clear hb
  refine hK.out _ _ ((blk_cell BQ4.out 1).trans rfl) (fun hHeld => ?_)
  clear hK K
  refine norm_ (a' := ?_) ?_ ?_
  rotate_left
  · show Act.put _ (some 33) _ = _
    simp only [Act.put, List.setIfInBounds_toArray, List.set_cons_zero, List.set_cons_succ, i64_w, i32_w]
    rfl
  refine one_ (i := 5) (N := some 34) #[true, true, true, true, true, true, false, false] rfl rfl (by kernel_rfl) (by decide) (fun K hK => ?_)
  refine (goes_ Try.func53 (by kernel_rfl) rfl #[.int .i64 (rd L x), .int .i64 v1] (by rfl) rfl rfl (by (try simp only [List.map_toArray, List.map_cons, List.map_nil]); first | done | rfl) ?_)
  (with_reducible refine (b_dir _ _ _).mono ?_)
  rintro e w5 ⟨rfl, hb⟩
  refine ⟨_, rfl, ?_⟩
  have HB5 := Aside0.mk (b_step hr HB4.out hb)
  have BQ5 := Aside0.mk (blk_below BQ4.out hb)
  have BR5 := Aside0.mk (blk_below BR4.out hb)
  clear hb
  refine hK.out _ _ ((blk_cell BQ5.out 1).trans rfl) (fun hHeld => ?_)
  clear hK K
  refine norm_ (a' := ?_) ?_ ?_
  rotate_left
  · show Act.put _ (some 34) _ = _
    simp only [Act.put, List.setIfInBounds_toArray, List.set_cons_zero, List.set_cons_succ, i64_w, i32_w]
    rfl
  refine pure_ (i := 6) (N := some 35) (v := ?_) (a' := ?_) #[true, true, true, true, true, true, true, false] rfl rfl (by kernel_rfl) (fun _ _ _ h => h) (Or.inl ⟨by rfl, ?_⟩) ?_ ?_
  rotate_left
  · intro w'
    go_simp
    with_reducible rfl
  rotate_left
  · simp only [Act.put, List.setIfInBounds_toArray, List.set_cons_zero, List.set_cons_succ, i64_w, i32_w]
    rfl
  refine last_ (i := 7) (N := none) #[true, true, true, true, true, true, true, true] rfl rfl (by kernel_rfl) (by decide) (fun K hK => ?_)
  have hs := (blk_cell BQ5.out 2).trans rfl
  have hf := blk_frozen BQ5.out 2
  refine skip_ (w1 := w5.setCell ⟨q, 2, none⟩ (.int .i64 (dirF (rd L x) v1))) (by rfl) rfl ?_ ?_
  · first | (go_simp; done) | (go_simp; rfl)
  refine hK.out _ _ ?_
  clear hK K hs hf
  refine done_ (by kernel_rfl) ?_
  have HB6 := Aside0.mk (b_set (j := 2) (v := .int .i64 (dirF (rd L x) v1)) hr HB5.out (Nat.le_of_lt HQR.out))
  have BQ6 := Aside0.mk (blk_put BQ5.out 2 (.int .i64 (dirF (rd L x) v1)) rfl)
  have BR6 := Aside0.mk (blk_far (p := ⟨q, 2, none⟩) BR5.out (Nat.ne_of_lt HQR.out) (.int .i64 (dirF (rd L x) v1)))
  clear HB5 BQ5 BR5 HB4 BQ4 BR4 HB3 BQ3 BR3 HS3
  generalize w5.setCell ⟨q, 2, none⟩ (.int .i64 (dirF (rd L x) v1)) = w6 at HB6 BQ6 BR6 ⊢
  go_wp2_with (first | (go_at_call 54; (with_reducible refine (HN2.out _ HB6.out).mono ?_); rintro e w7 ⟨rfl, hb⟩; have HB7 := Aside0.mk (b_step hr HB6.out hb); have BQ7 := Aside0.mk (blk_below BQ6.out hb); have BR7 := Aside0.mk (blk_below BR6.out hb); clear hb) | (go_at_call 36; (with_reducible refine (HI.out _ HB7.out).mono ?_); rintro e w8 ⟨rfl, hb⟩; have HB8 := Aside0.mk (b_step hr HB7.out hb); have BQ8 := Aside0.mk (blk_below BQ7.out hb); have BR8 := Aside0.mk (blk_below BR7.out hb); clear hb; have l0 := b_cell hr HB8.out HX.out.1; have l1 := b_cell hr HB8.out HX.out.2.1; have l5 := b_cell hr HB8.out HX.out.2.2.1; have ly := b_cell hr HB8.out HX.out.2.2.2.2.1) | (go_at_call 53; (with_reducible refine (b_dir _ _ _).mono ?_); rintro e w9 ⟨rfl, hb⟩; have HB9 := Aside0.mk (b_step hr HB8.out hb); have BQ9 := Aside0.mk (blk_below BQ8.out hb); have BR9 := Aside0.mk (blk_below BR8.out hb); clear hb l0 l1 l5 ly; have q3 := (blk_cell BQ9.out 3).trans rfl; have g3 := blk_frozen BQ9.out 3) | ((with_reducible refine gate_store (t := 3) (p := 68) rfl ?_); refine store_event (t := 3) (p := 68) (v := .tmp 67) (w1 := w9.setCell ⟨q, 3, none⟩ (.int .i64 (dirF (rd L y) bs))) ?hg ?ho ?hn ?hr ?_; (case ho => rfl); (case hg => rfl); (case hn => rfl); (case hr => first | (go_simp; done) | (go_simp; rfl)); intro w10 hw; have HB10 := Aside0.mk (show Below r w w10 by rw [hw]; exact b_set hr HB9.out (Nat.le_of_lt HQR.out)); have bq := (show w10.heap[q]? = some (.cells #[.slice (some aa) at_.length c, .int .i64 (rd L x), .int .i64 (dirF (rd L x) v1), .int .i64 (dirF (rd L y) bs)] 42 (0, 0)) by rw [hw]; exact blk_put BQ9.out 3 (.int .i64 (dirF (rd L y) bs)) rfl); have b0 := (show w10.heap[r]? = some (.cells #[.slice none 0 0, .int .i64 0, .int .i64 0, .int .i64 0] 42 (0, 0)) by rw [hw]; exact blk_far (p := ⟨q, 3, none⟩) BR9.out (Nat.ne_of_lt HQR.out) _); clear hw q3 g3; have q0 := (blk_cell bq 0).trans rfl; have q1 := (blk_cell bq 1).trans rfl; have q2 := (blk_cell bq 2).trans rfl; have q3 := (blk_cell bq 3).trans rfl; have c0 := (blk_cell b0 0).trans rfl; have f0 := blk_frozen b0 0; have b1 := blk_put b0 0 (.slice (some aa) at_.length c) rfl; have c1 := (blk_cell b1 1).trans rfl; have f1 := blk_frozen b1 1; have b2 := blk_put b1 1 (.int .i64 (rd L x)) rfl; have c2 := (blk_cell b2 2).trans rfl; have f2 := blk_frozen b2 2; have b3 := blk_put b2 2 (.int .i64 (dirF (rd L x) v1)) rfl; have c3 := (blk_cell b3 3).trans rfl; have f3 := blk_frozen b3 3; have b4 := blk_put b3 3 (.int .i64 (dirF (rd L y) bs)) rfl; have HBE := Aside0.mk (b_set (j := 3) (v := .int .i64 (dirF (rd L y) bs)) hr (b_set (j := 2) (v := .int .i64 (dirF (rd L x) v1)) hr (b_set (j := 1) (v := .int .i64 (rd L x)) hr (b_set (j := 0) (v := .slice (some aa) at_.length c) hr HB10.out (Nat.le_refl r)) (Nat.le_refl r)) (Nat.le_refl r)) (Nat.le_refl r)); have B4 := Aside0.mk b4; clear bq b0 b1 b2 b3 b4))
  (try simp only [Exit.inBlock, Exit.then])
  refine bodyPost_ret (results_single rfl (Vals.cell r 42 _ (0, 0) _ rfl B4.out Try.underlying42 rfl (by kernel_rfl) .nil)) rfl ?_
  exact ⟨by first | rfl | simp [*], by rw [hr]; exact HBE.out⟩
def behF (B M : List Int) (y bs v2 : Int) : Int := if isoB (rd B y) = true then (if rd M y = (B.length : Int) then bs else v2) else v2
theorem p_seq {w : World} {g rb : Nat} {L B M K at_ : List Int} {bs : Int} {f : Int → Option Value} (h : Tx w g rb L B M K bs f) {A : Option Addr} {c : Nat} (hA : Kd.C (Kd.int .i64) w A at_.length at_) (x y z r1 r2 v1 v2 : Int) (hz : wrap64 ((at_.length : Int) - 1) = z) (hz0 : 0 ≤ z) (hz1 : z < (at_.length : Int)) (hx : rd at_ 0 = x) (hy : rd at_ z = y)
    (hx0 : 0 ≤ x) (hx1 : x < (L.length : Int)) (hy0 : 0 ≤ y) (hy1 : y < (L.length : Int)) (hy2 : y < (B.length : Int)) (hy3 : y < (M.length : Int)) (wx : (Lit.int .i64 x).wf = true) (wy : (Lit.int .i64 y).wf = true)
    (hf1 : (f x).getD (.int .i64 0) = .int .i64 r1) (hf2 : (f y).getD (.int .i64 0) = .int .i64 r2) (hv1 : nearF L K bs (wrap64 (r1 + -1)) = some v1) (hv2 : nearF L K bs (wrap64 (r2 + 1)) = some v2) :
    Calls Try.prog 37 #[.pointer (some ⟨g, 0, none⟩), .slice A at_.length c] w fun e w' => e = .returned (.agg #[.slice A at_.length c, .int .i64 (rd L x), .int .i64 (dirF (rd L x) v1), .int .i64 (dirF (rd L y) (behF B M y bs v2))]) ∧ Below w.heap.size w w' := by
  unfold behF
  by_cases hi : isoB (rd B y) = true
  · rw [if_pos hi]
    by_cases hm : rd M y = (B.length : Int)
    · rw [if_pos hm]
      exact p_seq_end h hA x y z r1 r2 v1 v2 hz hz0 hz1 hx hy hx0 hx1 hy0 hy1 hy2 hy3 wx wy hf1 hf2 hv1 hv2 hi hm
    · rw [if_neg hm]
      exact p_seq_mid h hA x y z r1 r2 v1 v2 hz hz0 hz1 hx hy hx0 hx1 hy0 hy1 hy2 hy3 wx wy hf1 hf2 hv1 hv2 hi hm
  · rw [if_neg hi]
    exact p_seq_no h hA x y z r1 r2 v1 v2 hz hz0 hz1 hx hy hx0 hx1 hy0 hy1 hy2 hy3 wx wy hf1 hf2 hv1 hv2 (Bool.eq_false_iff.mpr hi)
end Go.Proofs.Ytbkdaafphcfpdaa.Stk
