import Derived.Test.YtbkdaafphcfpdaaStkW
namespace Go.Proofs.Ytbkdaafphcfpdaa.Stk
open Go.RowKit Go.Proofs.YtbkdaafphcfpdaaW.PrintWords Go.Proofs.YtbkdaafphcfpdaaW.PrintLast Go.Proofs.YtbkdaafphcfpdaaW.PrintMore
attribute [local go_sem] max2_int min2_int max_two min_two max_three min_three max_four min_four   -- for this text's walks alone
set_option linter.unusedVariables false
set_option linter.unusedSimpArgs false
theorem infoE : (Try.prog.info? 82).map (fun i => (i.zero, i.size, i.bytes)) = some (some (.agg #[(.int .i64 0), (.int .i64 0), (.bool false)]), 3, 24) := by kernel_rfl
def StkP (w : World) (base g : Nat) (v : Value) (a b c : Int) (l : List Ent) : Prop := StkAt #[.int .i64 a, .int .i64 b, .int .i64 c, v] 87 82 w base g v l
set_option maxHeartbeats 8000000 in
set_option maxRecDepth 100000 in
theorem p_made {w : World} {base g : Nat} {v : Value} {a b c : Int} {l : List Ent} (h : StkP w base g v a b c l) (x : Bool) (hx : decide (0 < l.length) = x) :
    Calls Try.prog 71 #[.pointer (some ⟨g, 0, none⟩)] w fun e w' => e = .returned (.bool x) ∧ w = w' := by
  obtain ⟨A, cap, rfl, hcap, hC⟩ := stk_slice h
  have hc := (blk_cell h.1 3).trans rfl
  have hk := Try.underlying87
  clear h hC
  have d0 : decide ((0 : Int) < (l.length : Int)) = x := by rw [← hx]; rw [decide_eq_decide]; omega
  generalize l.length = n at hx hc d0
  go_enter Try.func71, Try.ntmps71
  go_wp2
  go_ret
  exact ⟨by first | rfl | simp [*], rfl⟩
set_option maxHeartbeats 8000000 in
set_option maxRecDepth 100000 in
theorem p_len {w : World} {base g : Nat} {v : Value} {a b c : Int} {l : List Ent} (h : StkP w base g v a b c l) (hl : 0 < l.length) :
    Calls Try.prog 79 #[.pointer (some ⟨g, 0, none⟩)] w fun e w' => e = .returned (.int .i64 l.length) ∧ w = w' := by
  have HM := Aside0.mk (p_made h true (decide_eq_true hl))
  obtain ⟨A, cap, rfl, hcap, hC⟩ := stk_slice h
  have hc := (blk_cell h.1 3).trans rfl
  have hk := Try.underlying87
  clear h hC hl
  generalize l.length = n at hc
  go_enter Try.func79, Try.ntmps79
  go_wp2_with (first | (go_at_call 71; (with_reducible refine (HM.out).mono ?_); rintro e w2 ⟨rfl, rfl⟩))
  go_ret
  exact ⟨by first | rfl | simp [*], rfl⟩
set_option maxHeartbeats 8000000 in
set_option maxRecDepth 100000 in
theorem p_top {w : World} {base g : Nat} {v : Value} {a b c : Int} {l : List Ent} (h : StkP w base g v a b c l) (hl : 0 < l.length) (hm : l.length ≤ 35184372088832) :
    Calls Try.prog 72 #[.pointer (some ⟨g, 0, none⟩)] w fun e w' => e = .returned (.agg #[.int .i64 (topE l).lv, .int .i64 (topE l).ov, .bool (topE l).iso]) ∧ Below w.heap.size w w' := by
  have HM := Aside0.mk (fun (W : World) (hb : Below w.heap.size w W) => p_made (stk_below h hb) true (decide_eq_true hl))
  have hk := Try.underlying87
  have he := Try.underlying82
  obtain ⟨A, cap, rfl, hcap, hC⟩ := stk_slice h
  have hc := (blk_cell h.1 3).trans rfl
  unfold topE
  obtain ⟨m, hlm⟩ : ∃ m, l.length = m + 1 := ⟨l.length - 1, by omega⟩
  rw [hlm] at hc hC ⊢
  rw [Nat.add_sub_cancel]
  obtain ⟨ad, ea, h0, h1, h2⟩ := at_E hC m (by omega)
  subst ea
  generalize (l.getD m zE).lv = x0 at h0 ⊢
  generalize (l.getD m zE).ov = x1 at h1 ⊢
  generalize (l.getD m zE).iso = x2 at h2 ⊢
  have hm2 : m ≤ 35184372088832 := by omega
  have H := Aside0.mk (show w.cell? ⟨g, 3, none⟩ = some (.slice (some ad) (m + 1) cap) ∧ w.cell? (ad.add (m * 3)) = some (.int .i64 x0) ∧ _ ∧ _ from ⟨hc, h0, h1, h2⟩)
  have HW := Aside0.mk (show wrap64 (((m + 1 : Nat) : Int) - 1) = (m : Int) by unfold wrap64; omega)
  have HW2 := Aside0.mk (show IntKind.i64.wrap (m : Int) = (m : Int) from (i64_w _).trans (by unfold wrap64; omega))
  clear hC hl hm hm2 hc h0 h1 h2 hcap hlm h
  go_enter Try.func72, Try.ntmps72
  go_wp2_with (first | ((with_reducible refine gate_dst (N := 2) rfl ?_); refine box_event ?hg (N := 2) ?hd (cs := #[.int .i64 0, .int .i64 0, .bool false]) (t := 82) ?hr ?_; (case hd => rfl); (case hg => rfl); (case hr => first | (go_simp; done) | (go_simp; rfl)); intro g2 hg w1 hbox hb; have BX := Aside0.mk hbox; have HB1 := Aside0.mk hb; have HG2 := Aside0.mk (show w.heap.size ≤ g2 by omega); clear hg hbox hb) | (go_at_call 71; (with_reducible refine (HM.out _ HB1.out).mono ?_); rintro e w2 ⟨rfl, rfl⟩))
  have BX1 := Aside0.mk (blk_drew (g := g2) BX.out)
  have HB2 := Aside0.mk (below_drew1 HB1.out)
  have H2 := Aside0.mk (show w1.drew.cell? ⟨g, 3, none⟩ = some (.slice (some ad) (m + 1) cap) ∧ w1.drew.cell? (ad.add (m * 3)) = some (.int .i64 x0) ∧ w1.drew.cell? ⟨(ad.add (m * 3)).block, (ad.add (m * 3)).off + 1, none⟩ = some (.int .i64 x1) ∧ w1.drew.cell? ⟨(ad.add (m * 3)).block, (ad.add (m * 3)).off + 2, none⟩ = some (.bool x2) from ⟨pw_cell_below HB2.out H.out.1, pw_cell_below HB2.out H.out.2.1, pw_cell_below HB2.out H.out.2.2.1, pw_cell_below HB2.out H.out.2.2.2⟩)
  refine start_ (n := 13) (S := fun w' => w'.cell? ⟨g, 3, none⟩ = some (.slice (some ad) (m + 1) cap) ∧ w'.cell? (ad.add (m * 3)) = some (.int .i64 x0) ∧ w'.cell? ⟨(ad.add (m * 3)).block, (ad.add (m * 3)).off + 1, none⟩ = some (.int .i64 x1) ∧ w'.cell? ⟨(ad.add (m * 3)).block, (ad.add (m * 3)).off + 2, none⟩ = some (.bool x2)) (ds := [12]) #[false, false, false, false, false, false, false, false, false, false, false, false, false] (by kernel_rfl) rfl rfl H2.out (fun hHeld => ?_)
  generalize w1.drew = w3 at BX1 HB2 H2 hHeld ⊢
  have p0 : ((0 : Int) ≤ (m : Int)) = True := eq_true (by omega)
  have p1 : ((m : Int) < ((m : Int) + 1)) = True := eq_true (by omega)
  have p2 : (m < m + 1) = True := eq_true (by omega)
  refine pure_ (i := 0) (N := some 7) (v := ?_) (a' := ?_) #[true, false, false, false, false, false, false, false, false, false, false, false, false] rfl rfl (by kernel_rfl) (fun _ _ _ h => h) (Or.inl ⟨by rfl, ?_⟩) ?_ ?_
  rotate_left
  · intro w'
    go_simp
    with_reducible rfl
  rotate_left
  · simp only [Act.put, List.setIfInBounds_toArray, List.set_cons_zero, List.set_cons_succ, i64_w, i32_w]
    rfl
  refine pure_ (i := 1) (N := some 8) (v := ?_) (a' := ?_) #[true, true, false, false, false, false, false, false, false, false, false, false, false] rfl rfl (by kernel_rfl) (fun _ _ _ h => h) (Or.inl ⟨by rfl, ?_⟩) ?_ ?_
  rotate_left
  · intro w'
    go_simp
    with_reducible rfl
  rotate_left
  · simp only [Act.put, List.setIfInBounds_toArray, List.set_cons_zero, List.set_cons_succ, i64_w, i32_w]
    rfl
  refine pure_ (i := 2) (N := some 9) (v := ?_) (a' := ?_) #[true, true, true, false, false, false, false, false, false, false, false, false, false] rfl rfl (by kernel_rfl) (fun _ _ _ h => h) (Or.inl ⟨by rfl, ?_⟩) ?_ ?_
  rotate_left
  · intro w'
    go_simp
    with_reducible rfl
  rotate_left
  · simp only [Act.put, List.setIfInBounds_toArray, List.set_cons_zero, List.set_cons_succ, i64_w, i32_w]
    rfl
  refine take_ (i := 3) (N := some 10) (v := ?_) (a' := ?_) #[true, true, true, true, false, false, false, false, false, false, false, false, false] rfl rfl (by kernel_rfl) (fun _ _ _ h => h) (Or.inl ⟨by rfl, ?_⟩) hHeld ?_ ?_
  rotate_left
  · rintro w' ⟨s0, s1, s2, s3⟩
    go_simp
    with_reducible rfl
  rotate_left
  · simp only [Act.put, List.setIfInBounds_toArray, List.set_cons_zero, List.set_cons_succ, i64_w, i32_w]
    rfl
  refine pure_ (i := 4) (N := some 11) (v := ?_) (a' := ?_) #[true, true, true, true, true, false, false, false, false, false, false, false, false] rfl rfl (by kernel_rfl) (fun _ _ _ h => h) (Or.inl ⟨by rfl, ?_⟩) ?_ ?_
  rotate_left
  · intro w'
    go_simp
    with_reducible rfl
  rotate_left
  · simp only [Act.put, List.setIfInBounds_toArray, List.set_cons_zero, List.set_cons_succ, i64_w, i32_w]
    rfl
  refine pure_ (i := 5) (N := some 12) (v := ?_) (a' := ?_) #[true, true, true, true, true, true, false, false, false, false, false, false, false] rfl rfl (by kernel_rfl) (fun _ _ _ h => h) (Or.inl ⟨by rfl, ?_⟩) ?_ ?_
  rotate_left
  · intro w'
    go_simp
    with_reducible rfl
  rotate_left
  · simp only [Act.put, List.setIfInBounds_toArray, List.set_cons_zero, List.set_cons_succ, i64_w, i32_w]
    rfl
  refine pure_ (i := 6) (N := some 13) (v := ?_) (a' := ?_) #[true, true, true, true, true, true, true, false, false, false, false, false, false] rfl rfl (by kernel_rfl) (fun _ _ _ h => h) (Or.inl ⟨by rfl, ?_⟩) ?_ ?_
  rotate_left
  · intro w'
    go_simp
    with_reducible rfl
  rotate_left
  · simp only [Act.put, List.setIfInBounds_toArray, List.set_cons_zero, List.set_cons_succ, i64_w, i32_w]
    rfl
  refine take_ (i := 7) (N := some 14) (v := ?_) (a' := ?_) #[true, true, true, true, true, true, true, true, false, false, false, false, false] rfl rfl (by kernel_rfl) (fun _ _ _ h => h) (Or.inl ⟨by rfl, ?_⟩) hHeld ?_ ?_
  rotate_left
  · rintro w' ⟨s0, s1, s2, s3⟩
    go_simp
    with_reducible rfl
  rotate_left
  · simp only [Act.put, List.setIfInBounds_toArray, List.set_cons_zero, List.set_cons_succ, i64_w, i32_w]
    rfl
  refine pure_ (i := 8) (N := some 15) (v := ?_) (a' := ?_) #[true, true, true, true, true, true, true, true, true, false, false, false, false] rfl rfl (by kernel_rfl) (fun _ _ _ h => h) (Or.inl ⟨by rfl, ?_⟩) ?_ ?_
  rotate_left
  · intro w'
    go_simp
    with_reducible rfl
  rotate_left
  · simp only [Act.put, List.setIfInBounds_toArray, List.set_cons_zero, List.set_cons_succ, i64_w, i32_w]
    rfl
  refine pure_ (i := 9) (N := some 16) (v := .int .i64 (m : Int)) (a' := ?_) #[true, true, true, true, true, true, true, true, true, true, false, false, false] rfl rfl (by kernel_rfl) (fun _ _ _ h => h) (Or.inl ⟨by rfl, ?_⟩) ?_ ?_
  · intro w'
    go_simp
    first | (with_reducible rfl) | exact HW2.out | (rw [HW.out]; done) | (rw [HW.out]; rfl) | (simp [HW.out]; done) | (have h_ := HW.out; simp only [Int.natCast_add, Int.natCast_one] at h_; rw [h_])
  rotate_left
  · simp only [Act.put, List.setIfInBounds_toArray, List.set_cons_zero, List.set_cons_succ, i64_w, i32_w]
    rfl
  refine pure_ (i := 10) (N := some 17) (v := ?_) (a' := ?_) #[true, true, true, true, true, true, true, true, true, true, true, false, false] rfl rfl (by kernel_rfl) (fun _ _ _ h => h) (Or.inl ⟨by rfl, ?_⟩) ?_ ?_
  rotate_left
  · intro w'
    go_simp
    first | with_reducible rfl | rfl
  rotate_left
  · simp only [Act.put, List.setIfInBounds_toArray, List.set_cons_zero, List.set_cons_succ, i64_w, i32_w]
    rfl
  refine take_ (i := 11) (N := some 18) (v := ?_) (a' := ?_) #[true, true, true, true, true, true, true, true, true, true, true, true, false] rfl rfl (by kernel_rfl) (fun _ _ _ h => h) (Or.inl ⟨by rfl, ?_⟩) hHeld ?_ ?_
  rotate_left
  · rintro w' ⟨s0, s1, s2, s3⟩
    go_simp
    with_reducible rfl
  rotate_left
  · simp only [Act.put, List.setIfInBounds_toArray, List.set_cons_zero, List.set_cons_succ, i64_w, i32_w]
    rfl
  refine last_ (i := 12) (N := none) #[true, true, true, true, true, true, true, true, true, true, true, true, true] rfl rfl (by kernel_rfl) (by decide) (fun K hK => ?_)
  have hc0 := (blk_cell BX1.out 0).trans rfl
  have hf0 := blk_frozen BX1.out 0
  have hc1 := (blk_cell BX1.out 1).trans rfl
  have hf1 := blk_frozen BX1.out 1
  have hc2 := (blk_cell BX1.out 2).trans rfl
  have hf2 := blk_frozen BX1.out 2
  refine skip_ (w1 := ?_) (by rfl) rfl ?_ ?_
  rotate_left
  · go_simp
    rfl
  refine hK.out _ _ ?_
  clear hK K
  refine done_ (by kernel_rfl) ?_
  go_wp2
  refine bodyPost_ret (results_cell_row rfl _ _ g2 82 #[.int .i64 x0, .int .i64 x1, .bool x2] (0, 0) _ rfl (by refine blk_put (cs := #[.int .i64 x0, .int .i64 x1, .bool false]) ?_ 2 _ rfl; refine blk_put (cs := #[.int .i64 x0, .int .i64 0, .bool false]) ?_ 1 _ rfl; refine blk_put (cs := #[.int .i64 0, .int .i64 0, .bool false]) ?_ 0 _ rfl; exact BX1.out) Try.underlying82 rfl (by kernel_rfl)) rfl ?_
  exact ⟨rfl, below_set (below_set (below_set HB2.out HG2.out) HG2.out) HG2.out⟩
end Go.Proofs.Ytbkdaafphcfpdaa.Stk
