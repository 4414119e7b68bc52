import Derived.Test.YtbkdaafphcfpdaaStkP7
namespace Go.Proofs.Ytbkdaafphcfpdaa.Stk
open Go.RowKit Go.Proofs.YtbkdaafphcfpdaaW.PrintWords Go.Proofs.YtbkdaafphcfpdaaW.PrintLast Go.Proofs.YtbkdaafphcfpdaaW.PrintMore
attribute [local go_sem] max2_int min2_int max_two min_two max_three min_three max_four min_four   -- for this text's walks alone
set_option linter.unusedVariables false
set_option linter.unusedSimpArgs false
theorem infoX : (Try.prog.info? 46).map (fun i => (i.zero, i.size, i.bytes)) = some (some (.agg #[(.int .i64 0), (.int .i64 0), (.bool false)]), 3, 24) := by kernel_rfl
def StkX (w : World) (base g : Nat) (v : Value) (a b c : Int) (l : List Ent) : Prop := StkAt #[v, .int .i64 a, .int .i64 b, .int .i64 c] 72 46 w base g v l
def UpdX (w : World) (base g : Nat) (v : Value) (r : Ending) (a b c : Int) (l : List Ent) (e : Ending) (w' : World) : Prop := ∃ v', e = r ∧ StkX w' base g v' a b c l ∧ Mv w w' g v v'
set_option maxHeartbeats 8000000 in
set_option maxRecDepth 100000 in
theorem x_top {w : World} {base g : Nat} {v : Value} {a b c : Int} {l : List Ent} (h : StkX w base g v a b c l) (hl : 0 < l.length) (hm : l.length ≤ 35184372088832) :
    Calls Try.prog 29 #[.pointer (some ⟨g, 0, none⟩)] w fun e w' => e = .returned (.agg #[.int .i64 (topE l).lv, .int .i64 (topE l).ov, .bool (topE l).iso]) ∧ Below w.heap.size w w' := by
  have hk := Try.underlying72
  have he := Try.underlying46
  obtain ⟨A, cap, rfl, hcap, hC⟩ := stk_slice h
  have hc := (blk_cell h.1 0).trans rfl
  unfold topE
  obtain ⟨m, hlm⟩ : ∃ m, l.length = m + 1 := ⟨l.length - 1, by omega⟩
  rw [hlm] at hc hC ⊢
  rw [Nat.add_sub_cancel]
  obtain ⟨ad, ea, h0, h1, h2⟩ := at_E hC m (by omega)
  subst ea
  generalize (l.getD m zE).lv = x0 at h0 ⊢
  generalize (l.getD m zE).ov = x1 at h1 ⊢
  generalize (l.getD m zE).iso = x2 at h2 ⊢
  have hm2 : m ≤ 35184372088832 := by omega
  have H := Aside0.mk (show w.cell? ⟨g, 0, none⟩ = some (.slice (some ad) (m + 1) cap) ∧ w.cell? (ad.add (m * 3)) = some (.int .i64 x0) ∧ _ ∧ _ from ⟨hc, h0, h1, h2⟩)
  have HW := Aside0.mk (show wrap64 (((m + 1 : Nat) : Int) - 1) = (m : Int) by unfold wrap64; omega)
  have HW2 := Aside0.mk (show IntKind.i64.wrap (m : Int) = (m : Int) from (i64_w _).trans (by unfold wrap64; omega))
  clear hC hl hm hm2 hc h0 h1 h2 hcap hlm h
  go_enter Try.func29, Try.ntmps29
  go_wp2_with (first | ((with_reducible refine gate_dst (N := 2) rfl ?_); refine box_event ?hg (N := 2) ?hd (cs := #[.int .i64 0, .int .i64 0, .bool false]) (t := 46) ?hr ?_; (case hd => rfl); (case hg => rfl); (case hr => first | (go_simp; done) | (go_simp; rfl)); intro g2 hg w1 hbox hb; have BX := Aside0.mk hbox; have HB1 := Aside0.mk hb; have HG2 := Aside0.mk (show w.heap.size ≤ g2 by omega); clear hg hbox hb))
  have BX1 := Aside0.mk (blk_drew (g := g2) BX.out)
  have HB2 := Aside0.mk (below_drew1 HB1.out)
  have H2 := Aside0.mk (show w1.drew.cell? ⟨g, 0, none⟩ = some (.slice (some ad) (m + 1) cap) ∧ w1.drew.cell? (ad.add (m * 3)) = some (.int .i64 x0) ∧ w1.drew.cell? ⟨(ad.add (m * 3)).block, (ad.add (m * 3)).off + 1, none⟩ = some (.int .i64 x1) ∧ w1.drew.cell? ⟨(ad.add (m * 3)).block, (ad.add (m * 3)).off + 2, none⟩ = some (.bool x2) from ⟨pw_cell_below HB2.out H.out.1, pw_cell_below HB2.out H.out.2.1, pw_cell_below HB2.out H.out.2.2.1, pw_cell_below HB2.out H.out.2.2.2⟩)
  refine start_ (n := 13) (S := fun w' => w'.cell? ⟨g, 0, none⟩ = some (.slice (some ad) (m + 1) cap) ∧ w'.cell? (ad.add (m * 3)) = some (.int .i64 x0) ∧ w'.cell? ⟨(ad.add (m * 3)).block, (ad.add (m * 3)).off + 1, none⟩ = some (.int .i64 x1) ∧ w'.cell? ⟨(ad.add (m * 3)).block, (ad.add (m * 3)).off + 2, none⟩ = some (.bool x2)) (ds := [12]) #[false, false, false, false, false, false, false, false, false, false, false, false, false] (by kernel_rfl) rfl rfl H2.out (fun hHeld => ?_)
  generalize w1.drew = w3 at BX1 HB2 H2 hHeld ⊢
  have p0 : ((0 : Int) ≤ (m : Int)) = True := eq_true (by omega)
  have p1 : ((m : Int) < ((m : Int) + 1)) = True := eq_true (by omega)
  have p2 : (m < m + 1) = True := eq_true (by omega)
  refine pure_ (i := 0) (N := some 3) (v := ?_) (a' := ?_) #[true, false, false, false, false, false, false, false, false, false, false, false, false] rfl rfl (by kernel_rfl) (fun _ _ _ h => h) (Or.inl ⟨by rfl, ?_⟩) ?_ ?_
  rotate_left
  · intro w'
    go_simp
    with_reducible rfl
  rotate_left
  · simp only [Act.put, List.setIfInBounds_toArray, List.set_cons_zero, List.set_cons_succ, i64_w, i32_w]
    rfl
  refine pure_ (i := 1) (N := some 4) (v := ?_) (a' := ?_) #[true, true, false, false, false, false, false, false, false, false, false, false, false] rfl rfl (by kernel_rfl) (fun _ _ _ h => h) (Or.inl ⟨by rfl, ?_⟩) ?_ ?_
  rotate_left
  · intro w'
    go_simp
    with_reducible rfl
  rotate_left
  · simp only [Act.put, List.setIfInBounds_toArray, List.set_cons_zero, List.set_cons_succ, i64_w, i32_w]
    rfl
  refine pure_ (i := 2) (N := some 5) (v := ?_) (a' := ?_) #[true, true, true, false, false, false, false, false, false, false, false, false, false] rfl rfl (by kernel_rfl) (fun _ _ _ h => h) (Or.inl ⟨by rfl, ?_⟩) ?_ ?_
  rotate_left
  · intro w'
    go_simp
    with_reducible rfl
  rotate_left
  · simp only [Act.put, List.setIfInBounds_toArray, List.set_cons_zero, List.set_cons_succ, i64_w, i32_w]
    rfl
  refine take_ (i := 3) (N := some 6) (v := ?_) (a' := ?_) #[true, true, true, true, false, false, false, false, false, false, false, false, false] rfl rfl (by kernel_rfl) (fun _ _ _ h => h) (Or.inl ⟨by rfl, ?_⟩) hHeld ?_ ?_
  rotate_left
  · rintro w' ⟨s0, s1, s2, s3⟩
    go_simp
    with_reducible rfl
  rotate_left
  · simp only [Act.put, List.setIfInBounds_toArray, List.set_cons_zero, List.set_cons_succ, i64_w, i32_w]
    rfl
  refine pure_ (i := 4) (N := some 7) (v := ?_) (a' := ?_) #[true, true, true, true, true, false, false, false, false, false, false, false, false] rfl rfl (by kernel_rfl) (fun _ _ _ h => h) (Or.inl ⟨by rfl, ?_⟩) ?_ ?_
  rotate_left
  · intro w'
    go_simp
    with_reducible rfl
  rotate_left
  · simp only [Act.put, List.setIfInBounds_toArray, List.set_cons_zero, List.set_cons_succ, i64_w, i32_w]
    rfl
  refine pure_ (i := 5) (N := some 8) (v := ?_) (a' := ?_) #[true, true, true, true, true, true, false, false, false, false, false, false, false] rfl rfl (by kernel_rfl) (fun _ _ _ h => h) (Or.inl ⟨by rfl, ?_⟩) ?_ ?_
  rotate_left
  · intro w'
    go_simp
    with_reducible rfl
  rotate_left
  · simp only [Act.put, List.setIfInBounds_toArray, List.set_cons_zero, List.set_cons_succ, i64_w, i32_w]
    rfl
  refine pure_ (i := 6) (N := some 9) (v := ?_) (a' := ?_) #[true, true, true, true, true, true, true, false, false, false, false, false, false] rfl rfl (by kernel_rfl) (fun _ _ _ h => h) (Or.inl ⟨by rfl, ?_⟩) ?_ ?_
  rotate_left
  · intro w'
    go_simp
    with_reducible rfl
  rotate_left
  · simp only [Act.put, List.setIfInBounds_toArray, List.set_cons_zero, List.set_cons_succ, i64_w, i32_w]
    rfl
  refine take_ (i := 7) (N := some 10) (v := ?_) (a' := ?_) #[true, true, true, true, true, true, true, true, false, false, false, false, false] rfl rfl (by kernel_rfl) (fun _ _ _ h => h) (Or.inl ⟨by rfl, ?_⟩) hHeld ?_ ?_
  rotate_left
  · rintro w' ⟨s0, s1, s2, s3⟩
    go_simp
    with_reducible rfl
  rotate_left
  · simp only [Act.put, List.setIfInBounds_toArray, List.set_cons_zero, List.set_cons_succ, i64_w, i32_w]
    rfl
  refine pure_ (i := 8) (N := some 11) (v := ?_) (a' := ?_) #[true, true, true, true, true, true, true, true, true, false, false, false, false] rfl rfl (by kernel_rfl) (fun _ _ _ h => h) (Or.inl ⟨by rfl, ?_⟩) ?_ ?_
  rotate_left
  · intro w'
    go_simp
    with_reducible rfl
  rotate_left
  · simp only [Act.put, List.setIfInBounds_toArray, List.set_cons_zero, List.set_cons_succ, i64_w, i32_w]
    rfl
  refine pure_ (i := 9) (N := some 12) (v := .int .i64 (m : Int)) (a' := ?_) #[true, true, true, true, true, true, true, true, true, true, false, false, false] rfl rfl (by kernel_rfl) (fun _ _ _ h => h) (Or.inl ⟨by rfl, ?_⟩) ?_ ?_
  · intro w'
    go_simp
    first | (with_reducible rfl) | exact HW2.out | (rw [HW.out]; done) | (rw [HW.out]; rfl) | (simp [HW.out]; done) | (have h_ := HW.out; simp only [Int.natCast_add, Int.natCast_one] at h_; rw [h_])
  rotate_left
  · simp only [Act.put, List.setIfInBounds_toArray, List.set_cons_zero, List.set_cons_succ, i64_w, i32_w]
    rfl
  refine pure_ (i := 10) (N := some 13) (v := ?_) (a' := ?_) #[true, true, true, true, true, true, true, true, true, true, true, false, false] rfl rfl (by kernel_rfl) (fun _ _ _ h => h) (Or.inl ⟨by rfl, ?_⟩) ?_ ?_
  rotate_left
  · intro w'
    go_simp
    first | with_reducible rfl | rfl
  rotate_left
  · simp only [Act.put, List.setIfInBounds_toArray, List.set_cons_zero, List.set_cons_succ, i64_w, i32_w]
    rfl
  refine take_ (i := 11) (N := some 14) (v := ?_) (a' := ?_) #[true, true, true, true, true, true, true, true, true, true, true, true, false] rfl rfl (by kernel_rfl) (fun _ _ _ h => h) (Or.inl ⟨by rfl, ?_⟩) hHeld ?_ ?_
  rotate_left
  · rintro w' ⟨s0, s1, s2, s3⟩
    go_simp
    with_reducible rfl
  rotate_left
  · simp only [Act.put, List.setIfInBounds_toArray, List.set_cons_zero, List.set_cons_succ, i64_w, i32_w]
    rfl
  refine last_ (i := 12) (N := none) #[true, true, true, true, true, true, true, true, true, true, true, true, true] rfl rfl (by kernel_rfl) (by decide) (fun K hK => ?_)
  have hc0 := (blk_cell BX1.out 0).trans rfl
  have hf0 := blk_frozen BX1.out 0
  have hc1 := (blk_cell BX1.out 1).trans rfl
  have hf1 := blk_frozen BX1.out 1
  have hc2 := (blk_cell BX1.out 2).trans rfl
  have hf2 := blk_frozen BX1.out 2
  refine skip_ (w1 := ?_) (by rfl) rfl ?_ ?_
  rotate_left
  · go_simp
    rfl
  refine hK.out _ _ ?_
  clear hK K
  refine done_ (by kernel_rfl) ?_
  go_wp2
  refine bodyPost_ret (results_cell_row rfl _ _ g2 46 #[.int .i64 x0, .int .i64 x1, .bool x2] (0, 0) _ rfl (by refine blk_put (cs := #[.int .i64 x0, .int .i64 x1, .bool false]) ?_ 2 _ rfl; refine blk_put (cs := #[.int .i64 x0, .int .i64 0, .bool false]) ?_ 1 _ rfl; refine blk_put (cs := #[.int .i64 0, .int .i64 0, .bool false]) ?_ 0 _ rfl; exact BX1.out) Try.underlying46 rfl (by kernel_rfl)) rfl ?_
  exact ⟨rfl, below_set (below_set (below_set HB2.out HG2.out) HG2.out) HG2.out⟩
theorem nextL_even {v : Int} (h0 : 0 ≤ v) (right : Bool) (h : ((v + 1) % 2 == 1) = right) : nextL right v = v + 1 := by
  unfold nextL
  cases right with
  | true => rw [if_pos rfl]; have := beq_iff_eq.mp h; omega
  | false => rw [if_neg (by simp)]; have := beq_eq_false_iff_ne.mp h; omega
theorem nextL_odd {v : Int} (h0 : 0 ≤ v) (right : Bool) (h : ¬ ((v + 1) % 2 == 1) = right) : nextL right v = v + 2 := by
  unfold nextL
  cases right with
  | true => rw [if_pos rfl]; simp at h; omega
  | false => rw [if_neg (by simp)]; simp at h; omega
set_option maxHeartbeats 8000000 in
set_option maxRecDepth 100000 in
theorem x_next {w : World} {base g : Nat} {v : Value} {a b c : Int} {l : List Ent} (h : StkX w base g v a b c l) (hl : 0 < l.length) (hm : l.length ≤ 35184372088832) (h0 : 0 ≤ (topE l).lv) (h1 : (topE l).lv ≤ 1000) (right : Bool) :
    Calls Try.prog 51 #[.pointer (some ⟨g, 0, none⟩), .bool right] w fun e w' => e = .returned (.int .i64 (nextL right (topE l).lv)) ∧ Below w.heap.size w w' := by
  have he := Try.underlying46
  have HT := x_top h hl hm
  generalize (topE l).lv = v0 at HT h0 h1 ⊢
  generalize (topE l).ov = x1 at HT
  generalize (topE l).iso = x2 at HT
  have HTA := Aside0.mk HT
  have hfl : ∀ W : World, (Instr.field 46 (.agg #[.int .i64 v0, .int .i64 x1, .bool x2]) 0).run Try.prog W = .ok (.int .i64 v0) W := fun W => by kernel_rfl
  have HR := Aside0.mk (show Int.tmod (v0 + 1) 2 = (v0 + 1) % 2 from Int.tmod_eq_emod_of_nonneg (by omega))
  by_cases hr : ((v0 + 1) % 2 == 1) = right
  · have HN := Aside0.mk (nextL_even h0 right hr)
    have e1 : (((v0 + 1) % 2 == 1) == right) = true := beq_iff_eq.mpr hr
    have e2 : (((v0 + 1) % 2 == 1) != right) = false := bne_eq_false_iff_eq.mpr hr
    clear HT hl hm h hr
    go_enter Try.func51, Try.ntmps51
    go_wp2_with (first | (go_at_call 29; (with_reducible refine (HTA.out).mono ?_); rintro e w2 ⟨rfl, hb2⟩; have HB := Aside0.mk hb2; clear hb2))
    go_ret
    rw [HN.out]
    exact ⟨by first | rfl | simp [*], HB.out⟩
  · have HN := Aside0.mk (nextL_odd h0 right hr)
    have e1 : (((v0 + 1) % 2 == 1) == right) = false := beq_eq_false_iff_ne.mpr hr
    have e2 : (((v0 + 1) % 2 == 1) != right) = true := bne_iff_ne.mpr hr
    have HX := Aside0.mk (show v0 + 1 + 1 = v0 + 2 by omega)
    clear HT hl hm h hr
    go_enter Try.func51, Try.ntmps51
    go_wp2_with (first | (go_at_call 29; (with_reducible refine (HTA.out).mono ?_); rintro e w2 ⟨rfl, hb2⟩; have HB := Aside0.mk hb2; clear hb2))
    go_ret
    rw [HN.out, ← HX.out]
    exact ⟨by first | rfl | simp [*], HB.out⟩
def roomB (a b : Int) (l : List Ent) (right : Bool) : Bool := decide (nextL right (topE l).lv ≤ 125) && (a == 0) && (b == 0)
set_option maxHeartbeats 8000000 in
set_option maxRecDepth 100000 in
theorem x_room {w : World} {base g : Nat} {v : Value} {a b c : Int} {l : List Ent} (h : StkX w base g v a b c l) (hl : 0 < l.length) (hm : l.length ≤ 35184372088832) (h0 : 0 ≤ (topE l).lv) (h1 : (topE l).lv ≤ 1000) (right : Bool) :
    Calls Try.prog 49 #[.pointer (some ⟨g, 0, none⟩), .bool right] w fun e w' => e = .returned (.bool (roomB a b l right)) ∧ Below w.heap.size w w' := by
  have hk := Try.underlying72
  have HN := Aside0.mk (x_next h hl hm h0 h1 right)
  have HS := Aside0.mk h
  unfold roomB
  generalize nextL right (topE l).lv = x0 at HN ⊢
  clear h hl hm h0 h1
  have ARM : True := trivial
  cases d0 : decide (x0 ≤ 125) with
  | false =>
    go_enter Try.func49, Try.ntmps49
    go_wp2_with (first | (go_at_call 51; (with_reducible refine (HN.out).mono ?_); rintro e w2 ⟨rfl, hb2⟩; have HB := Aside0.mk hb2; have hc1 := (blk_cell (stk_below HS.out HB.out).1 1).trans rfl; have hc2 := (blk_cell (stk_below HS.out HB.out).1 2).trans rfl; clear hb2))
    go_ret
    exact ⟨by first | rfl | simp [*], HB.out⟩
  | true =>
    cases d1 : (a == 0) with
    | false =>
      go_enter Try.func49, Try.ntmps49
      go_wp2_with (first | (go_at_call 51; (with_reducible refine (HN.out).mono ?_); rintro e w2 ⟨rfl, hb2⟩; have HB := Aside0.mk hb2; have hc1 := (blk_cell (stk_below HS.out HB.out).1 1).trans rfl; have hc2 := (blk_cell (stk_below HS.out HB.out).1 2).trans rfl; clear hb2))
      go_ret
      exact ⟨by first | rfl | simp [*], HB.out⟩
    | true =>
      cases d2 : (b == 0) with
      | false =>
        go_enter Try.func49, Try.ntmps49
        go_wp2_with (first | (go_at_call 51; (with_reducible refine (HN.out).mono ?_); rintro e w2 ⟨rfl, hb2⟩; have HB := Aside0.mk hb2; have hc1 := (blk_cell (stk_below HS.out HB.out).1 1).trans rfl; have hc2 := (blk_cell (stk_below HS.out HB.out).1 2).trans rfl; clear hb2))
        go_ret
        exact ⟨by first | rfl | simp [*], HB.out⟩
      | true =>
        go_enter Try.func49, Try.ntmps49
        go_wp2_with (first | (go_at_call 51; (with_reducible refine (HN.out).mono ?_); rintro e w2 ⟨rfl, hb2⟩; have HB := Aside0.mk hb2; have hc1 := (blk_cell (stk_below HS.out HB.out).1 1).trans rfl; have hc2 := (blk_cell (stk_below HS.out HB.out).1 2).trans rfl; clear hb2))
        go_ret
        exact ⟨by first | rfl | simp [*], HB.out⟩
end Go.Proofs.Ytbkdaafphcfpdaa.Stk
